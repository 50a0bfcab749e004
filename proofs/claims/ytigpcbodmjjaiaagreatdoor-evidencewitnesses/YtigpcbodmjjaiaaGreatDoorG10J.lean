/- putlogref27.pick, some, One: .. -/
import Derived.Test.YtigpcbodmjjaiaaGreatDoorG9J
set_option maxRecDepth 100000
noncomputable section
open Go Go.D Go.Proofs.Tryz
namespace Go.Proofs.YtigpcbodmjjaiaaGreatDoor
section
variable {X:aK} {m:M}
theorem dM(hX:cC X){c n:Int}(hc:lN c)(hn:0 < n):C X (.func 66) [aeP c,aeP n] m m.n (aeP (dR c n)) m:=by refine Cl.cd (hX.no _ rfl) (aa3 func66) rfl rfl ?_;rw[F66];dsimp only[η,ο,φ];simp only[jn,aB];exact mS hc hn (P:=λv=>bC [v]=aeP (dR c n)/\m.n<=m.n) ⟨rfl,aa4 _⟩
theorem jC{c:Int}{n:Nat}(hn:0 < n):∃k:Nat,k < n/\dR c (n:Int)=k:=by obtain⟨q1,q2⟩:=kY (c:=c) (n:=(n:Int)) (by omega);exact⟨(dR c n).toNat,by omega,by omega⟩
theorem BN{b:Nat}{r v:aeM}{g:Option Nat}(h:m.get b=.cells [r,v] 33 g):ah TE m 28 (aeK b (0+0+0))=some r:=by rw[eO,aI h];rfl
theorem QQ{b:Nat}{r v:aeM}{g:Option Nat}(h:m.get b=.cells [r,v] 33 g):ah TE m 30 (aeK b (0+0))=some (.agg #[r]):=by rw[ez,aN (n:=1) h (by grind)];rfl
theorem BO{b:Nat}{r v:aeM}{g:Option Nat}(h:m.get b=.cells [r,v] 33 g):ah TE m 31 (aeK b (0+1))=some v:=by rw[nN,aI h];rfl
theorem qn(hX:cC X){l:List UW}{r v:aeM}(hF:dg m l r)(hl:l.length < 1000){c:Int}(hc:lN c):∃z,C X (.func 68) [.agg #[r,v],aeP c] m m.n (aeP z) m:=by
 have key:=Cl.iX (E:=TE) (X:=X) (f:=68) (args:=[.agg #[r,v],aeP c]) (m:=m) (R:=λrv m' b=>b=m.n/\m'=m/\∃z,rv=aeP z) (hX.no _ rfl) (aa3 func68) rfl ?_
 ·obtain⟨rv,m',b,hc,rfl,rfl,z,rfl⟩:=key;exact⟨z,hc⟩
 rw[F68];dsimp only[δ,ε,ζ,η,κ,ρ,υ,φ,χ];refine av λm1 g0 b0 d0=>?_;have a0:Ext m m1:=⟨by omega,d0⟩
 have g1:m1.get m.n=.cells [r,v] 33 none:=b0;unfold ptrTo;simp only[bZ,bO,ae];rw[BN g1,ae,(hF.aF a0).sl.len dF,aA,aS,ae,aj];refine ak (λh=>?_) (λh=>?_)
 ·refine aE (dM hX hc (by decide)) ?_;exact .inl ⟨rfl,by omega,trivial,trivial,_,rfl⟩
 have e0:=aa6 h;rw[ae,ae,(hF.aF a0).sl.len dF,aA];obtain⟨k,hk,e⟩:=jC (c:=c) (n:=l.length) (by omega);refine aE (dM hX hc (by omega)) ?_;refine⟨aa4 _,?_⟩;rw[e];obtain⟨x,hx⟩:∃x,l[k]?=some x:=⟨_,aa5 hk⟩
 have⟨b,o,e1,e2,e3⟩:=sy (hF.aF a0).sl hx;rw[e1,ae,e2,ae,e3,ae];exact .inl ⟨rfl,by omega,trivial,trivial,_,rfl⟩
structure nn(m0:M)(T sb:Nat)(r r2:aeM)(m:M):Prop where
 x:∀c,c < T->m.get c=m0.get c
 n:m0.n<=m.n
 t:∃t w,m.get T=.cells (Tk.c t w) 62 none/\Sl m t.un.shape w/\t.un.shape.length<=4
 s:m.get sb=.cells [r,r2] 33 none
 ts:T < sb
 sn:sb < m.n
section
variable {m0:M} {T sb:Nat} {r r2:aeM}
theorem nn.aF{m':M}(h:nn m0 T sb r r2 m)(hx:Ext m m'):nn m0 T sb r r2 m':=by have⟨h1,h2,⟨t,w,h3,h4,h5⟩,h6,h7,h8⟩:=h;have hn:=hx.n;exact⟨λc hc=>by rw[hx.get c (by omega),h1 c hc],by omega,⟨t,w,hx.cells h3,h4.aF hx,h5⟩,hx.cells h6,h7,by omega⟩
theorem mN{l:List Pl}{w:aeM}{m':M}{cs:aeN}(h:Sl m l w)(hT:m.get T=.cells cs 62 none)(hk:∀c,c≠T->m'.get c=m.get c):Sl m' l w:=
 h.aY λc cs t g hc ht=>by
  have ht:t=141:=by simpa[aZ.ty,aZ.eB]using ht
  grind
theorem nn.st(h:nn m0 T sb r r2 m){j:Nat}{v:Int}{P:M->Nat->Prop}(hj:7<=j)(a0:j<=10)(hP:∀m',nn m0 T sb r r2 m'->m'.n=m.n->(∀c,c≠T->m'.get c=m.get c)->P m' T):
  aP (aD TE m 3 (aeK T (0+j)) (aeP v)) P:=by
 have⟨h1,h2,⟨t,w,h3,h4,h5⟩,h6,h7,h8⟩:=h;refine An h3 hj a0 λm' hn hg hk=>hP m' ⟨by grind,by omega,?_,by grind,h7,by omega⟩ hn hk;have hs:=mN h4 h3 hk;have⟨kd,un,id,ot,sd,mt⟩:=t;rcases(by omega:j=7\/j=8\/j=9\/j=10)with rfl |rfl |rfl |rfl;·exact⟨⟨kd,un,v,ot,sd,mt⟩,w,hg,hs,h5⟩
 ·exact⟨⟨kd,un,id,v,sd,mt⟩,w,hg,hs,h5⟩
 ·exact⟨⟨kd,un,id,ot,v,mt⟩,w,hg,hs,h5⟩
 exact⟨⟨kd,un,id,ot,sd,v⟩,w,hg,hs,h5⟩
theorem nn.stk(h:nn m0 T sb r r2 m){v:Int}{P:M->Nat->Prop}(hP:∀m',nn m0 T sb r r2 m'->m'.n=m.n->(∀c,c≠T->m'.get c=m.get c)->P m' T):
  aP (aD TE m 3 (aeK T (0+1+1)) (aeP v)) P:=by have⟨h1,h2,⟨t,w,h3,h4,h5⟩,h6,h7,h8⟩:=h;refine cg uz h3 rfl (by show 0+1+1+1<=11;omega) rfl λm' hn hg hk=>hP m' ⟨by grind,by omega,?_,by grind,h7,by omega⟩ hn hk;exact⟨{t with un:={t.un with kind:=v}},w,hg,mN h4 h3 hk,h5⟩
theorem nn.stu(h:nn m0 T sb r r2 m){u:Un}{w:aeM}(hs:Sl m u.shape w)(hl:u.shape.length<=4){P:M->Nat->Prop}(hP:∀m',nn m0 T sb r r2 m'->m'.n=m.n->(∀c,c≠T->m'.get c=m.get c)->P m' T):
  aP (aD TE m 60 (aeK T (0+1)) (u.v w)) P:=by have⟨h1,h2,⟨t,w',h3,h4,h5⟩,h6,h7,h8⟩:=h;refine MX h3 hs.one λm' hn hg hk=>hP m' ⟨by grind,by omega,⟨{t with un:=u},w,hg,mN hs h3 hk,hl⟩,by grind,h7,by omega⟩ hn hk
end
set_option maxHeartbeats 2000000 in
theorem DQ(hX:cC X){y:Yd}{r r2 st rc mo:aeM}(hV:oO m y r r2 st rc mo)(hP:rz y){i0 i1 i2 i3 i4 i5:Int}(h0:lN i0)(h1:lN i1)(h2:lN i2)(h3:lN i3)(h4:lN i4)(h5:lN i5):
  ∃(t:Tk) (w:aeM) (m':M),C X (.func 26) [yv r r2 st rc mo,.agg #[.int .i64 i0,.int .i64 i1,.int .i64 i2,.int .i64 i3,.int .i64 i4,.int .i64 i5]] m m.n (t.v w) m'/\Ext m m'/\Sl m' t.un.shape w/\t.un.shape.length<=4:=by
 have key:=Cl.iX (E:=TE) (X:=X) (f:=26) (args:=[yv r r2 st rc mo,.agg #[.int .i64 i0,.int .i64 i1,.int .i64 i2,.int .i64 i3,.int .i64 i4,.int .i64 i5]]) (m:=m) (R:=λrv m' b=>b=m.n/\∃(t:Tk) (w:aeM),rv=t.v w/\Ext m m'/\Sl m' t.un.shape w/\t.un.shape.length<=4) (hX.no _ rfl) (aa3 func26) rfl ?_
 ·obtain⟨rv,m',b,hc,rfl,t,w,rfl,h⟩:=key;exact⟨t,w,m',hc,h⟩
 have H:∀R:aeN->M->Nat->Prop,(∀(t:Tk) (w:aeM) (m':M) (lo:Nat),m.n<=lo->Ext m m'->Sl m' t.un.shape w->t.un.shape.length<=4->R [t.v w] m' lo)->dE TE (aL TE X) f26 [yv r r2 st rc mo,.agg #[.int .i64 i0,.int .i64 i1,.int .i64 i2,.int .i64 i3,.int .i64 i4,.int .i64 i5]] m R:=by
  intro R hR;rw[F26];dsimp only[δ,ε,ζ,η,θ,ι,κ,ν,ρ,ς,υ,φ,χ,Γ,Δ,Λ,ψ,ω];refine av λm1 G3 c1 c2=>?_;refine av λm2 H3 d1 j1=>?_;refine av λm3 I3 k1 H0=>?_;have d2:Ext m m3:=⟨by omega,by grind⟩
  have g1:m3.get m.n=.cells (yc r r2 st rc mo) 38 none:=by rw[H0 _ (by omega),j1 _ (by omega)];exact c1
  have g6:m3.get m1.n=.cells [.int .i64 i0,.int .i64 i1,.int .i64 i2,.int .i64 i3,.int .i64 i4,.int .i64 i5] 89 none:=by rw[H0 _ (by omega)];exact d1
  have gz:m3.get m2.n=.cells (Tk.c ⟨0,⟨0,0,0,[],0,0⟩,0,0,0,0⟩ aeQ) 62 none:=k1;clear c1 c2 d1 j1 k1 H0;unfold ptrTo
  have ix:∀i:Nat,i < 6->an TE 89 (.pointer (some ⟨m1.n,0,none⟩)) (.int .i64 i)=some (.pointer (some ⟨m1.n,i,none⟩)):=λi hi=>by have:=RK (b:=m1.n) (o:=0) (k:=.i64) (i:=i) hi;rwa[abV]at this
  have ld:∀{mm:M} {i:Nat} {x:Int},mm.get m1.n=m3.get m1.n->[i0,i1,i2,i3,i4,i5][i]?=some x->ah TE mm 3 (.pointer (some ⟨m1.n,i,none⟩))=some (.int .i64 x):=λ{mm i x} hx hi=>by
   have hc:[Value.int .i64 i0,.int .i64 i1,.int .i64 i2,.int .i64 i3,.int .i64 i4,.int .i64 i5][i]?=some (.int .i64 x):=by
    grind
   rw[bI,aI (hx.trans g6),hc]
  have e0:an TE 89 (.pointer (some ⟨m1.n,0,none⟩)) (.int .i64 0)=some (.pointer (some ⟨m1.n,0,none⟩)):=ix 0 (by decide);have e1:an TE 89 (.pointer (some ⟨m1.n,0,none⟩)) (.int .i64 1)=some (.pointer (some ⟨m1.n,1,none⟩)):=ix 1 (by decide);have e2:an TE 89 (.pointer (some ⟨m1.n,0,none⟩)) (.int .i64 2)=some (.pointer (some ⟨m1.n,2,none⟩)):=ix 2 (by decide);have e3:an TE 89 (.pointer (some ⟨m1.n,0,none⟩)) (.int .i64 3)=some (.pointer (some ⟨m1.n,3,none⟩)):=ix 3 (by decide);have e4:an TE 89 (.pointer (some ⟨m1.n,0,none⟩)) (.int .i64 4)=some (.pointer (some ⟨m1.n,4,none⟩)):=ix 4 (by decide);have e5:an TE 89 (.pointer (some ⟨m1.n,0,none⟩)) (.int .i64 5)=some (.pointer (some ⟨m1.n,5,none⟩)):=ix 5 (by decide)
  simp only[cX,eW,bZ,cN,cz,dI,ck,cG,cF,dk,cM,e0,e1,e2,e3,e4,e5,ae];have⟨⟨l,g2,hF⟩,I0,⟨kl,j2,hK⟩,J3,K3⟩:=hV;have l1:l.length<=12:=by have:=hP.tR.len;rwa[<-g2,cS]at this
  have L2:kl.length<=12:=by have:=hP.Tx;rwa[<-j2,tG]at this
  have k2:=hP.HO.len;rw[ld (i:=0) rfl rfl,ae];refine aE (dM hX h0 (by decide)) ?_;generalize dR i0 9=z0;rw[aQ,ae];generalize IntKind.i64.wrap (1+z0)=z1;have bt:aJ TE 62 [(0,.int .i64 z1)]=some (Tk.v ⟨z1,⟨0,0,0,[],0,0⟩,0,0,0,0⟩ aeQ):=sj rfl;rw[bt,ae];refine av λm11 M2 q0 o1=>?_;refine aC og q0 rfl rfl rfl λm12 N2 r0 J0=>?_;have gT:m12.get m3.n=.cells (Tk.c ⟨z1,⟨0,0,0,[],0,0⟩,0,0,0,0⟩ aeQ) 62 none:=r0;have s0:Ext m3 m12:=⟨by omega,by grind⟩
  have n12:=s0.n;rw[(fF (s0.cells g1)).1,ae];refine av λm16 P2 u0 p1=>?_;refine aC fJ u0 rfl rfl (by show(one r && (one r2 && true))=true;rw[hF.sl.one,I0.one];rfl) λm17 Q2 v0 r1=>?_;have gS:m17.get m12.n=.cells [r,r2] 33 none:=v0;have j0:Ext m12 m17:=⟨by omega,by grind⟩
  have n17:=j0.n;have u1:m3.n < m12.n:=by omega
  have O0:nn m3 m3.n m12.n r r2 m17:=⟨by grind,by omega,⟨_,_,j0.cells gT,.nil,abh 4⟩,gS,u1,by omega⟩
  clear q0 o1 r0 J0 u0 p1 v0 r1;have Ar:∀{mm:M},nn m3 m3.n m12.n r r2 mm->mm.get m1.n=m3.get m1.n:=λh=>h.x _ (by omega);have b0:∀{mm:M},nn m3 m3.n m12.n r r2 mm->Ext m mm:=λh=>⟨by have:=h.n;omega,λc hc=>by rw[h.x c (by omega),d2.get c hc]⟩
  have l2:∀{mm:M},nn m3 m3.n m12.n r r2 mm->mm.get m.n=.cells (yc r r2 st rc mo) 38 none:=λh=>(h.x _ (by omega)).trans g1;have T2:m.n<=min (min m.n m3.n) m12.n:=by omega
  refine aW (λvs mm lo=>vs=[]/\m.n<=lo/\nn m3 m3.n m12.n r r2 mm) (λQ hQ=>?_) ?_
  ·rw[(oK (j0.cells gT)).1,ae,aS,ae,aj];refine ak (λ_=>?_) (λ_=>?_)
   ·rw[ld (i:=1) (Ar O0) rfl,ae,ld (i:=2) (Ar O0) rfl,ae,ld (i:=3) (Ar O0) rfl,ae,ld (i:=4) (Ar O0) rfl,ae,ae,kB (by decide),ae,ld (i:=5) (Ar O0) rfl,ae];rw[show aJ TE 89 [(0,.int .i64 i2),(1,.int .i64 i3),(2,.int .i64 i4),(3,.int .i64 (IntKind.i64.wrap (i4.tdiv 4))),(4,.int .i64 0),(5,.int .i64 i5)]=some (.agg #[.int .i64 i2,.int .i64 i3,.int .i64 i4,.int .i64 (IntKind.i64.wrap (i4.tdiv 4)),.int .i64 0,.int .i64 i5]) by kernel_rfl,ae];obtain⟨u,w,L3,o2,v1,hs,hl⟩:=EO (m:=m17) (i4:=0) hX h1 h2 h3 h4 (mn (i4.tdiv 4)) (by unfold lN;omega) h5;refine aE o2 ?_;have n41:=v1.n;refine(O0.aF v1).stu hs hl λN3 O2 n44 a4=>?_;rw[ld (i:=5) (Ar O2) rfl,ae];refine aE (dM hX h5 (by decide)) ?_;rw[aQ,ae];exact O2.stk λb4 O3 c4 d4=>hQ _ _ _ ⟨rfl,by omega,O3⟩
   rw[aS,ae,aj];refine ak (λ_=>?_) (λ_=>?_)
   ·rw[(kD O0.s).2.2.2,ae,ld (i:=1) (Ar O0) rfl,ae];obtain⟨z,hc⟩:=qn (m:=m17) hX (hF.aF (b0 O0)) (v:=r2) (by omega) h1;refine aE hc ?_;refine O0.st (j:=7) (by omega) (by omega) λm64 O1 w1 y1=>?_;have K0:=(hK.aF (b0 O1)).sl;rw[(fF (l2 O1)).2.1,ae,K0.len gZ,aA,bV,ae,aj];refine ak (λc=>?_) (λc=>hQ _ _ _ ⟨rfl,by omega,O1⟩);have c:=aba c;rw[ae,ld (i:=1) (Ar O1) rfl,ae,ae,K0.len gZ,aA];obtain⟨k,hk,e⟩:=jC (c:=i1) (n:=kl.length) (by omega);refine aE (dM hX h1 (by omega)) ⟨aa4 _,?_⟩;rw[e];obtain⟨x,hx⟩:∃x,kl[k]?=some x:=⟨_,aa5 hk⟩
    obtain⟨b,o,f1,f2, -⟩:=AO K0 hx;rw[f1,ae,cq,ae,bs,ae,f2,ae];exact O1.st (j:=7) (by omega) (by omega) λu2 O2 v2 w2=>hQ _ _ _ ⟨rfl,by omega,O2⟩
   rw[aS,ae,aj];refine ak (λ_=>?_) (λ_=>?_)
   ·rw[(kD O0.s).2.2.2,ae,ld (i:=1) (Ar O0) rfl,ae];obtain⟨z,hc⟩:=qn (m:=m17) hX (hF.aF (b0 O0)) (v:=r2) (by omega) h1;refine aE hc ?_;exact O0.st (j:=7) (by omega) (by omega) λm64 O1 w1 y1=>hQ _ _ _ ⟨rfl,by omega,O1⟩
   rw[aS,ae,aj];refine ak (λ_=>?_) (λ_=>?_)
   ·rw[(kD O0.s).2.2.2,ae,ld (i:=1) (Ar O0) rfl,ae];obtain⟨z,hc⟩:=qn (m:=m17) hX (hF.aF (b0 O0)) (v:=r2) (by omega) h1;refine aE hc ?_;refine O0.st (j:=7) (by omega) (by omega) λm64 O1 w1 y1=>?_;rw[ld (i:=2) (Ar O1) rfl,ae];refine aE (dM hX h2 (by decide)) ?_;exact O1.st (j:=10) (by omega) (by omega) λu2 O2 v2 w2=>hQ _ _ _ ⟨rfl,by omega,O2⟩
   refine aW (λvs mm lo=>∃b,vs=[.bool b]/\m17=mm/\m.n<=lo) (λQ' a0=>?_) ?_
   ·rw[aS,ae,aj];refine ak (λ_=>a0 _ _ _ ⟨_,rfl,rfl,by omega⟩) (λ_=>?_);rw[aS,ae];exact a0 _ _ _ ⟨_,rfl,rfl,by omega⟩
   rintro _ _ fS ⟨b2,rfl,rfl,c3⟩;rw[aB,aj];refine ak (λ_=>?_) (λ_=>?_)
   ·rw[(kD O0.s).2.2.2,ae,ld (i:=1) (Ar O0) rfl,ae];obtain⟨z,hc⟩:=qn (m:=m17) hX (hF.aF (b0 O0)) (v:=r2) (by omega) h1;refine aE hc ?_;refine O0.st (j:=7) (by omega) (by omega) λd3 O1 n130 g3=>?_;rw[ld (i:=2) (Ar O1) rfl,ae];refine aE (dM hX h2 (by decide)) ?_;rw[dD,ae];refine O1.st (j:=9) (by omega) (by omega) λg0 O2 n139 j3=>?_;have hM:=I0.aF (b0 O2);refine aW (λvs mm lo=>∃b,vs=[.bool b]/\g0=mm/\m.n<=lo/\(b=true->0 < y.ms.length)) (λQ' a0=>?_) ?_
    ·rw[BO O2.s,ae,hM.len dU,aA,bV,ae,aj];refine ak (λc=>?_) (λ_=>a0 _ _ _ ⟨_,rfl,rfl,by omega,λh=>by cases h⟩);have c:=aba c;rw[ld (i:=3) (Ar O2) rfl,ae];refine aE (dM hX h3 (by decide)) ?_;rw[aS,ae];exact a0 _ _ _ ⟨_,rfl,rfl,by omega,λ_=>by omega⟩
    rintro _ _ y2 ⟨b3,rfl,rfl,y0,z2⟩;rw[aB,aj];refine ak (λc=>?_) (λ_=>hQ _ _ _ ⟨rfl,y0,O2⟩);have c:=z2 c;rw[BO O2.s,ae,ld (i:=2) (Ar O2) rfl,ae,ae,hM.len dU,aA];obtain⟨k,hk,e⟩:=jC (c:=i2) (n:=y.ms.length) (by omega);refine aE (dM hX h2 (by omega)) ⟨aa4 _,?_⟩;rw[e];obtain⟨x,hx⟩:∃x,y.ms[k]?=some x:=⟨_,aa5 hk⟩
    obtain⟨b,o,f1, -,f3⟩:=SZ hM hx;rw[f1,ae,f3,ae];refine av λk3 A2 L0 B2=>?_;refine aC uB L0 rfl rfl rfl λA0 C2 N0 D2=>?_;have A1:A0.get g0.n=.cells x.c 137 none:=N0;have B0:Ext g0 A0:=⟨by omega,by grind⟩
    have O3:=O2.aF B0;have n170:=B0.n;have sn:=O2.sn;rw[dp,ae,(Db A1).2.1,ae];refine O3.st (j:=7) (by omega) (by omega) λB1 O4 n175 l3=>?_;have C1:B1.get g0.n=.cells x.c 137 none:=by grind
    rw[eF,ae,(Db C1).2.2.1,ae];exact O4.st (j:=9) (by omega) (by omega) λn3 O5 n180 o3=>hQ _ _ _ ⟨rfl,by omega,O5⟩
   refine aW (λvs mm lo=>∃b,vs=[.bool b]/\m17=mm/\m.n<=lo) (λQ' a0=>?_) ?_
   ·rw[aS,ae,aj];refine ak (λ_=>a0 _ _ _ ⟨_,rfl,rfl,by omega⟩) (λ_=>?_);rw[aS,ae];exact a0 _ _ _ ⟨_,rfl,rfl,by omega⟩
   rintro _ _ y2 ⟨b3,rfl,rfl,y0⟩;rw[aB,aj];refine ak (λ_=>?_) (λ_=>?_)
   ·rw[ld (i:=1) (Ar O0) rfl,ae];refine aE (dM hX h1 (by decide)) ?_;refine O0.st (j:=7) (by omega) (by omega) λr3 O1 n196 u3=>?_;have hM:=I0.aF (b0 O1);rw[BO O1.s,ae,hM.len dU,aA,bV,ae,aj];refine ak (λc=>?_) (λc=>hQ _ _ _ ⟨rfl,by omega,O1⟩);have c:=aba c;rw[ae,ld (i:=1) (Ar O1) rfl,ae,ae,hM.len dU,aA];obtain⟨k,hk,e⟩:=jC (c:=i1) (n:=y.ms.length) (by omega);refine aE (dM hX h1 (by omega)) ⟨aa4 _,?_⟩;rw[e];obtain⟨x,hx⟩:∃x,y.ms[k]?=some x:=⟨_,aa5 hk⟩
    have⟨b,o,f1,f2⟩:=NY hM hx;rw[f1,ae,bW,ae,f2,ae];exact O1.st (j:=7) (by omega) (by omega) λv3 O2 n216 w3=>hQ _ _ _ ⟨rfl,by omega,O2⟩
   rw[ld (i:=3) (Ar O0) rfl,ae];refine aE (dM hX h3 (by decide)) ⟨aa4 _,?_⟩;generalize dR i3 8=z3;rw[Ej,aA];obtain⟨k0,d0⟩:∃q,q=m17.push (.cells ([5,5,z3].map (.int .i64)) 3 none):=⟨_,rfl⟩
   rw[<-d0];have C0:Ext m17 k0:=d0 ▸ Ext.refl.push;have D1:k0.get m17.n=.cells ([5,5,z3].map (.int .i64)) 3 none:=by rw[d0];exact M.aU
   have O1:=O0.aF C0;have n224:=C0.n;rw[ld (i:=2) (Ar O1) rfl,ae];obtain⟨k,hk,e⟩:=jC (c:=i2) (n:=3) (by omega);refine aE (dM hX h2 (by decide)) ⟨aa4 _,?_⟩;rw[show dR i2 3=(k:Int)from e];obtain⟨z4,E2⟩:∃z,[5,5,z3][k]?=some z:=⟨_,aa5 (by exact hk)⟩
   have⟨p,cs,f1,f2,f3⟩:=(nA D1).index dV (k:=.i64) E2;obtain rfl:cs=[.int .i64 z4]:=f3;have f1:an TE 26 (.slice (some ⟨m17.n,0,none⟩) 3 3) (.int .i64 k)=some p:=f1;have f2:ah TE k0 3 p=some (.int .i64 z4):=f2;rw[f1,ae,f2,ae];refine O1.st (j:=10) (by omega) (by omega) λy3 O2 n233 A3=>?_;refine O2.st (j:=8) (by omega) (by omega) λE1 O3 n236 B3=>?_;rw[QQ O3.s,ae];obtain⟨cv,C3,F1,D0,G1⟩:=BS (m:=E1) hX (hF.aF (b0 O3)) (by omega);refine aE F1 ?_;have O4:=O3.aF D0;have n241:=D0.n
   have hL:(rK (bP l)).length<=156:=by
    unfold rK;split
    ·have h1:=pj (bP l) (bP l).length;rw[cS]at h1⊢;have:l.length*(l.length+1)<=12*13:=aeq l1 (by omega);omega
    simp
   have H1:=G1.sl;generalize rK (bP l)=L at hL H1;obtain⟨tq,wq,f4, -, -⟩:=O4.t;refine Lp.intro (γ:=Nat) (λi=>L.length-i) (λi vs mm lo=>vs=[.int .i64 i]/\i<=L.length/\m.n<=lo/\nn m3 m3.n m12.n r r2 mm/\Sl mm L cv) 0 ⟨rfl,abh _,by omega,O4,H1⟩ ?_;rintro i vs mm lo ⟨rfl,hi,o0,O,hc⟩;rw[aB,hc.len Fx,aA,aM,ae,aj];refine ak (λF2=>?_) (λ_=>hQ _ _ _ ⟨rfl,o0,O⟩);have F2:i < L.length:=by grind
   refine aW (λvs m' I1=>vs=[]/\m.n<=I1/\nn m3 m3.n m12.n r r2 m'/\Sl m' L cv) (λQ' a0=>?_) ?_
   ·rw[ld (i:=1) (Ar O) rfl,ae,aA];obtain⟨k,hk,e⟩:=jC (c:=i1) (n:=L.length) (by omega);refine aE (dM hX h1 (by omega)) ?_;rw[e,aQ,ae,wrap64 (by omega) (by omega),hc.len Fx,aA,uc (by omega),ae];rw[show((i:Int)+(k:Int)).tmod (L.length:Int)=(((i+k)%L.length:Nat):Int) by grind];have hj:(i+k)%L.length < L.length:=acQ _ (by omega);generalize (i+k)%L.length=j at hj;obtain⟨x,hx⟩:∃x,L[j]?=some x:=⟨_,aa5 hj⟩
    have⟨p,f1,f2⟩:=hc.YC (k:=.i64) hx;rw[f1,ae,f2,ae];refine av λD3 G2 Q0 H2=>?_;refine aC oT Q0 rfl rfl rfl λE0 I2 b1 J2=>?_;have F0:E0.get mm.n=.cells x.c' 145 none:=b1;have l0:Ext mm E0:=⟨by omega,by grind⟩
    have Oa:=O.aF l0;have n267:=l0.n;have J1:=hc.aF l0;have nO:=O.n;have ts:=O.ts;have sn:=O.sn
    have K1:∀{ma mb:M},nn m3 m3.n m12.n r r2 ma->Sl ma L cv->(∀c,c≠m3.n->mb.get c=ma.get c)->Sl mb L cv:=λho hs hk=>by
     obtain⟨t,w,gt, -, -⟩:=ho.t;refine hs.aY λc cs t g hc ht=>?_;have ht:t=145:=by simpa[aZ.ty,aZ.eB]using ht
     subst ht;rw[hk c (by grind),hc]
    rw[wQ,ae,(Zc F0).2.1,ae,bR,ae,aj];refine ak (λ_=>?_) (λ_=>a0 _ _ _ ⟨rfl,by omega,Oa,J1⟩);rw[wR,ae,(Zc F0).1,ae];refine Oa.st (j:=7) (by omega) (by omega) λL1 Ob n275 N1=>?_;have P1:L1.get mm.n=.cells x.c' 145 none:=by grind
    rw[ae,(Zc P1).2.1,ae];exact Ob.st (j:=8) (by omega) (by omega) λE3 Oc n280 T1=>a0 _ _ _ ⟨rfl,by omega,Oc,K1 Ob (K1 Oa J1 N1) T1⟩
   rintro _ m' I1 ⟨rfl,a1,a2,a3⟩;rw[aQ,ae,wrap64 (by omega) (by omega)];exact⟨i+1,by omega,rfl,by omega,a1,a2,a3⟩
  rintro _ mm lo ⟨rfl,o0,h⟩;have⟨t,w,gt,hs,p0⟩:=h.t;rw[gQ gt,ae];refine aC og ((h.x _ (by omega)).trans gz) rfl rfl (Tk.cR hs.one) λK2 F3 n0 G0=>?_;have n0:K2.get m2.n=.cells (t.c w) 62 none:=n0;rw[gQ n0,ae];refine hR _ _ _ _ (by omega) ⟨by have:=h.n;omega,λc hc=>by rw[G0 c (by omega),(b0 h).get c hc]⟩ (mN hs ((h.x _ (by omega)).trans gz) G0) p0
 refine H _ λt w m' lo o0 hx hs p0=>?_;show(bB (t.v w)=true/\m.n<=lo/\(m.n=m.n/\∃(t':Tk) (w':aeM),t.v w=t'.v w'/\Ext m m/\Sl m t'.un.shape w'/\t'.un.shape.length<=4))\/((bB (t.v w)=false\/lo < m.n)/\(min m.n lo=m.n/\∃(t':Tk) (w':aeM),t.v w=t'.v w'/\Ext m m'/\Sl m' t'.un.shape w'/\t'.un.shape.length<=4));cases hf:bB (t.v w);·exact .inr ⟨.inl rfl,by omega,t,w,rfl,hx,hs,p0⟩
 refine .inl ⟨rfl,o0,rfl,t,w,rfl,.refl,?_,p0⟩;rcases hs with h |⟨b,o,c,bc,g,rfl, -⟩;·exact .inl h
 exfalso;simp[bB,dG,bF]at hf
end
section
variable {X:aK} {m:M}
def Ff{α:Type}[aZ α](m:M)(l:List α)(v:aeM):Prop:=(l=[]/\v=.slice none 0 0)\/YM m l v
theorem Ff.aF{α:Type}[aZ α]{l:List α}{v:aeM}{m':M}(h:Ff m l v)(hx:Ext m m'):Ff m' l v:=h.imp id λh=>h.aF hx
theorem Ff.r{α:Type}[aZ α]{l:List α}{v:aeM}(h:Ff m l v):oJ m l v:=by
 rcases h with⟨rfl,rfl⟩ |h;·exact .inl .nil
 exact h.1
theorem Ff.to{α:Type}[aZ α]{T t:TypeId}(hT:oP TE T t α){l:List α}{v:aeM}(h:Ff m l v)(h0:slice? TE m T aeQ none (some (aeP (0:Nat))) none=some aeQ){i:Nat}(hi:i<=l.length):
  ∃v',slice? TE m T v none (some (aeP i)) none=some v'/\Ff m (l.take i) v'/\cells v'=[v']/\one v':=by
 rcases h with⟨rfl,rfl⟩ |⟨h1,b,o,c,rfl,h2,h3⟩
 ·obtain rfl:i=0:=by grind
  exact⟨_,h0,.inl ⟨rfl,rfl⟩,rfl,rfl⟩
 have⟨ti,te,t1,⟨e,t2⟩,t3,_⟩:=hT;refine⟨_,JE t1 t2 (by rw[t3];exact aZ.pos) (by grind) h2 (by omega),.inr ⟨?_,b,o,c,by grind,by grind,h3⟩,rfl,rfl⟩;have:=h1.part (i:=0) (k:=i) (c':=c) (by omega);rwa[abU,ac4,acY]at this
theorem HE{x:TW}:aG TE m 39 1 [(0,x.v)]=some (.slice (some ⟨m.n,0,none⟩) 1 1,m.push (.cells x.c 62 none)):=by kernel_rfl
def Lr(m:M)(b:Nat)(y:Yd):Prop:=rz y/\∃r r2 st rc mo,m.get b=.cells (yc r r2 st rc mo) 38 none/\oO m y r r2 st rc mo
theorem Lr.aY{b:Nat}{y:Yd}{m':M}(h:Lr m b y)(hb:m'.get b=m.get b)(hk:∀c cs t g,m.get c=.cells cs t g->t≠38->t≠62->m'.get c=.cells cs t g):Lr m' b y:=by have⟨h1,r,r2,st,rc,mo,h2,h3⟩:=h;exact⟨h1,r,r2,st,rc,mo,hb.trans h2,h3.aY λc cs t g hc ht=>hk c cs t g hc (by grind) (by grind)⟩
theorem Lr.aF{b:Nat}{y:Yd}{m':M}(h:Lr m b y)(hx:Ext m m'):Lr m' b y:=by have⟨h1,r,r2,st,rc,mo,h2,h3⟩:=h;exact⟨h1,r,r2,st,rc,mo,hx.cells h2,h3.aF hx⟩
def Dd(m:M)(l:List TW):Prop:=∀x∈l,Sl m x.t.un.shape x.w/\x.t.un.shape.length<=4/\dS x.t=true
theorem Dd.aY{l:List TW}{m':M}(h:Dd m l)(hk:∀c cs g,m.get c=.cells cs 141 g->m'.get c=.cells cs 141 g):Dd m' l:=λx hx=>
 ⟨(h x hx).1.aY λc cs t g hc ht=>by
  have ht:t=141:=by simpa[aZ.ty,aZ.eB]using ht
  subst ht
  exact hk c cs g hc,(h x hx).2⟩
theorem LH{us:List Un}{ms:List Mk}(h1:cn us)(h2:iV us ms):rz ⟨us,ms,[],[],[]⟩:=
 ⟨h1,h2,abh _,abh _,abh _,.nil,λk hk=>(by cases hk),λk hk=>(by cases hk),λk hk=>(by cases hk),by
  show((ms++ []).map Mk.id).Nodup
  rw[abJ];exact adm.2 (h2.xN.imp λh e=>by omega),by
  show(ms++ []).length<=20
  rw[abJ];exact h2.len,λf hf=>(by cases hf),.nil,λx hx=>(by cases hx),.nil⟩
theorem LI{rv:aeM}{m':M}{D:Option Yd}(h:lM D m' rv):∃a b c d e k,rv=.tuple #[yv a b c d e,aeP k]/\(yc a b c d e).all one/\(∀z,D=some z->k=0/\oO m' z a b c d e)/\(D=none->k=270):=by
 unfold lM at h
 cases D with
 |none=>exact⟨_,_,_,_,_,_,h,rfl,λz e=>(by cases e),λ_=>rfl⟩
 |some z=>obtain⟨r,r2,st,rc,mo,rfl,h⟩:=h;exact⟨_,_,_,_,_,_,rfl,h.fB,λz' e=>(by grind),λe=>(by cases e)⟩
theorem Nt{y:Yd}{t:Tk}:(FH y t).length<=y.rc.length+1:=by
 unfold FH;split
 ·have h2:=sB (p:=λf:Fc=>decide (ik f ⟨t.id,t.side⟩)) (q:=λf:Fc=>decide (ik ⟨t.id,t.side⟩ f)) (λx h1 h2=>by
   have h1:ik x ⟨t.id,t.side⟩:=aba h1
   have h2:ik ⟨t.id,t.side⟩ x:=aba h2
   unfold ik at h1 h2
   grind) y.rc
  grind
 omega
theorem QH{y z:Yd}{t:Tk}(hy:rz y)(h:uE y t=some z):z.rc.length<=y.rc.length+1:=by rw[BF]at h;obtain⟨p, -,rfl⟩:=abq.1 h;exact Nt
set_option maxHeartbeats 2000000 in
theorem Ke(hX:cC X){xs:List I6}{ks:List I4}{vb vk va:aeM}(hv:Ff m xs vb)(T2:∀x∈xs,x.ok)(hlen:xs.length < 9223372036854775808)(hk:oJ m ks vk)(L1:∀x∈ks,x.ok)(B1:ks.length < 9223372036854775808)(m4:one va=true)
  {ws:List I6} {vw:aeM} (hw:oJ m ws vw) (N1:∀x∈ws,x.ok) (c3:ws.length < 9223372036854775808):
  ∃y r r2 st rc mo l v m',C X (.func 25) [.agg #[vb,vk,va],vw] m m.n (.tuple #[yv r r2 st rc mo,v]) m'/\Ext m m'/\rz y/\oO m' y r r2 st rc mo/\Sl m' l v/\Dd m' l/\(l.length<=9/\y.rc.length<=9):=by
 have key:=Cl.iX (E:=TE) (X:=X) (f:=25) (args:=[.agg #[vb,vk,va],vw]) (m:=m) (R:=λrv m' b=>b=m.n/\∃y r r2 st rc mo l v,rv=.tuple #[yv r r2 st rc mo,v]/\Ext m m'/\rz y/\oO m' y r r2 st rc mo/\Sl m' l v/\Dd m' l/\(l.length<=9/\y.rc.length<=9)) (hX.no _ rfl) (aa3 func25) rfl ?_
 ·obtain⟨rv,m',b,hc,rfl,y,r,r2,st,rc,mo,l,v,rfl,h⟩:=key;exact⟨y,r,r2,st,rc,mo,l,v,m',hc,h⟩
 have H:∀R:aeN->M->Nat->Prop,(∀(y:Yd) (r r2 st rc mo:aeM) (l:List TW) (v:aeM) (m':M) (lo:Nat),m.n<=lo->Ext m m'->rz y->oO m' y r r2 st rc mo->Sl m' l v->Dd m' l->(l.length<=9/\y.rc.length<=9)->R [yv r r2 st rc mo,v] m' lo)->dE TE (aL TE X) f25 [.agg #[vb,vk,va],vw] m R:=by
  intro R hR;rw[F25];dsimp only[δ,ε,ζ,η,θ,ι,κ,ν,ξ,ρ,ς,υ,φ,χ,Γ,Θ];refine av λm1 n4 O1 e3=>?_;refine av λm2 o4 P1 T1=>?_;have c2:Ext m m2:=⟨by omega,by grind⟩
  have g1:m2.get m.n=.cells [vb,vk,va] 25 none:=by rw[T1 _ (by omega)];exact O1
  have gz:m2.get m1.n=.cells (yc aeQ aeQ aeQ aeQ aeQ) 38 none:=P1;clear O1 e3 P1 T1;unfold ptrTo;simp only[pO,ae];have g3:ah TE m2 22 (.pointer (some ⟨m.n,0+0,none⟩))=some vb:=by rw[Ia,aI g1];rfl
  have e2:=hv.aF c2;rw[g3,ae,ae,e2.r.len nz,aA,ko,aA];obtain⟨kr,r4⟩:∃kr:Nat,kr=min xs.length 5:=⟨_,rfl⟩
  rw[show min (xs.length:Int) 5=(kr:Int) by omega];obtain⟨v9,e9,s9,c9,o9⟩:=e2.to nz (by kernel_rfl) (i:=kr) (by omega);rw[e9,ae];refine cg SI g1 (by rw[c9];rfl) (by grind) (by grind) λm11 B3 C3 O0=>?_;have g11:m11.get m.n=.cells [v9,vk,va] 25 none:=by grind
  have g2:m11.get m1.n=.cells (yc aeQ aeQ aeQ aeQ aeQ) 38 none:=by grind
  have n0:Ext m m11:=⟨by omega,λc hc=>by rw[O0 c (by omega),c2.get c hc]⟩
  have h3:oJ m11 (xs.take kr) v9:=by refine s9.r.Xg (λb hb i3=>O0 b (λe=>?_)) rfl;subst e;have:=i3 _ _ _ g1;simp[aZ.ty,aZ.eB]at this
  rw[show ah TE m11 25 (.pointer (some ⟨m.n,0,none⟩))=some (.agg #[v9,vk,va]) by rw[Ck,aN (n:=3) g11 (by grind)];rfl,ae];obtain⟨l,r,ms,vm,m15,j3,F0,hF,hP,hM,k3⟩:=Kf (m:=m11) (va:=va) hX h3 (λx hx=>T2 x (ads hx)) (by grind) (hk.aF n0) L1 B1;refine aE j3 ?_;have n15:=F0.n;rw[PY,ae];have o0:(yc r vm aeQ aeQ aeQ).all one=true:=by show(one r && (one vm && true))=true;rw[hF.sl.one,hM.one];rfl
  refine av λm18 D3 Q0 i2=>?_;refine aC mJ Q0 rfl rfl o0 λm19 E3 c1 j2=>?_;have gY:m19.get m15.n=.cells (yc r vm aeQ aeQ aeQ) 38 none:=c1;have i1:Ext m15 m19:=⟨by omega,by grind⟩
  rw[(fF gY).2.2.2.2,ae];refine av λm22 F3 j1 o2=>?_;refine aC mJ j1 rfl rfl o0 λm23 G3 k1 u2=>?_;have gN:m23.get m19.n=.cells (yc r vm aeQ aeQ aeQ) 38 none:=k1;have p0:Ext m19 m23:=⟨by omega,by grind⟩
  have n19:=i1.n;have n23:=p0.n;have h0:=i1.trans p0;have H3:m15.n < m19.n:=by omega
  have I3:m19.n < m23.n:=by omega
  have r0:oO m23 ⟨bP l,ms,[],[],[]⟩ r vm aeQ aeQ aeQ:=⟨⟨l,rfl,hF.aF h0⟩,hM.aF h0,⟨[],rfl,Lv.nil⟩,.nil,.nil⟩
  have hyp:=LH hP k3;have v2:=(hw.aF n0).aF F0;have J3:=F0.cells g2;clear Q0 i2 c1 j2 j1 o2 k1 u2;refine Lp.intro (γ:=Nat) (λi=>9-i) (λi vs mm lo=>∃l v y z,vs=[v,.int .i64 i]/\i<=9/\m.n<=lo/\(∀c,c < m15.n->mm.get c=m15.get c)/\m23.n<=mm.n/\Lr mm m15.n y/\Lr mm m19.n z/\Ow m23.n mm l v/\Dd mm l/\(l.length<=i/\y.rc.length<=i/\z.rc.length<=i)) 0 ⟨[],_,_,_,rfl,by omega,by omega,λc hc=>h0.get c hc,aa4 _,⟨hyp,_,_,_,_,_,p0.cells gY,r0⟩,⟨hyp,_,_,_,_,_,gN,r0⟩,.nil,λx hx=>(by cases hx),⟨abh _,aa4 0,aa4 0⟩⟩ ?_;rintro i vs mm lo ⟨l,v,y,z,rfl,hi,C1,G0,u4,hy,hz,D1,s0,E1⟩;have y2:oJ mm ws vw:=v2.aF ⟨by omega,G0⟩;rw[aB,aB];refine aW (λvs m' H0=>∃b:Bool,vs=[.bool b]/\mm=m'/\m.n<=H0/\(b=true->i < ws.length/\i < 9)) (λQ hQ=>?_) ?_
  ·rw[y2.len nz,aA,aM,ae,aj]
   refine ak (λc=>?_) (λ_=>hQ _ _ _ ⟨_,rfl,rfl,C1,λh=>by cases h⟩)
   have c:(i:Int)< (ws.length:Int):=aba c
   rw[aM,ae]
   grind
  rintro _ _ fS ⟨b,rfl,rfl,K3,hb⟩;rw[aB,aj];refine ak (λc=>?_) (λ_=>?_)
  ·have⟨l3,v4⟩:=hb c;refine aW (λvs m' H0=>∃l v y z,vs=[v]/\m.n<=H0/\(∀c,c < m15.n->m'.get c=m15.get c)/\m23.n<=m'.n/\Lr m' m15.n y/\Lr m' m19.n z/\Ow m23.n m' l v/\Dd m' l/\(l.length<=i+1/\y.rc.length<=i+1/\z.rc.length<=i+1)) (λQ hQ=>?_) ?_
   ·have⟨I0,a1,a2,a3,a4,a5,J0,A2⟩:=id hz
    obtain⟨x,hx⟩:∃x,ws[i]?=some x:=⟨_,aa5 l3⟩
    obtain⟨bb,o,f1,f2, -⟩:=OD y2 hx
    rw[(fF J0).2.2.2.2,ae,f1,ae,f2,ae]
    have⟨q0,q1,q2,q3,q4,q5⟩:=N1 x (abb hx)
    have⟨t,w,K0,m3,B2,hs,n3⟩:=DQ (m:=mm) hX A2 I0 q0 q1 q2 q3 q4 q5
    refine aE m3 ⟨aa4 _,?_⟩
    have n50:=B2.n
    refine av λw4 L3 l1 C2=>?_
    refine aC og l1 rfl rfl (Tk.cR hs.one) λL0 N3 o1 D2=>?_
    have gt:L0.get K0.n=.cells (t.c w) 62 none:=o1
    have k0:Ext K0 L0:=⟨by omega,by grind⟩
    have y4:=k0.n
    have O3:K0.n < L0.n:=by omega
    have F1:=B2.trans k0
    clear l1 C2 o1 D2
    rw[(fF (F1.cells J0)).2.2.2.2,ae,gQ gt,ae]
    obtain⟨rv,G1,o3,N0,r3⟩:=Am (m:=L0) (t:=t) hX (A2.aF F1) I0 (hs.aF k0) (by omega)
    refine aE o3 ?_
    have z4:=N0.n
    obtain⟨b1,b2,b3,b4,b5,k,rfl,ob,E2,u3⟩:=LI r3
    rw[aH,aH]
    simp only[aa8,aa7,ae]
    refine av λA4 c4 p1 F2=>?_
    refine aC mJ p1 rfl rfl ob λH1 e4 r1 G2=>?_
    have gn:H1.get G1.n=.cells (yc b1 b2 b3 b4 b5) 38 none:=r1
    have e0:Ext G1 H1:=⟨by omega,by grind⟩
    have B4:=e0.n
    have b0:=F1.trans (N0.trans e0)
    clear p1 F2 r1 G2
    rw[bR,ae,aj]
    refine ak (λc=>?_) (λc=>?_)
    ·exact hQ _ _ _ ⟨l,v,y,z,rfl,by omega,λc hc=>by rw[b0.get c (by omega),G0 c hc],by omega,hy.aF b0,hz.aF b0,D1.aF b0,s0.aY λc cs g hc=>b0.cells hc,by omega⟩
    rw[abu]at c
    have c:k=0:=aba c
    subst c
    cases hD:uE z t with
    |none=>exact absurd (u3 hD) (by decide)
    |some z2=>
    obtain⟨-,v3⟩:=E2 z2 hD
    have i0:dS t=true:=by
     unfold uE at hD;split at hD;·rename_i h;exact h
     cases hD
    have u0:rz z2:=by unfold uE at hD;rw[abe i0]at hD;exact Dv I0 i0 hD
    have f4:=QH I0 hD
    rw[(fF gn).2.2.2.2,ae]
    refine aC mJ (b0.cells J0) rfl rfl ob λa0 g4 H2 l0=>?_
    have h4:a0.get m19.n=.cells (yc b1 b2 b3 b4 b5) 38 none:=H2
    have d0:∀c cs t' g,H1.get c=.cells cs t' g->t'≠38->a0.get c=.cells cs t' g:=λc cs t' g hc ht=>by rw[l0 c (λe=>by subst e;rw[b0.cells J0]at hc;cases hc;exact ht rfl),hc]
    have I2:a0.get G1.n=.cells (yc b1 b2 b3 b4 b5) 38 none:=by grind
    have u1:oO a0 z2 b1 b2 b3 b4 b5:=(v3.aF e0).aY λc cs t' g hc ht=>d0 c cs t' g hc (by grind)
    have v1:Lr a0 m15.n y:=(hy.aF b0).aY (l0 _ (by omega)) λc cs t' g hc h1 h2=>d0 c cs t' g hc h1
    have v0:Ow m23.n a0 l v:=(D1.aF b0).tH rfl λc h1 h2=>l0 c (by omega)
    have y0:Dd a0 l:=(s0.aY λc cs g hc=>b0.cells hc).aY λc cs g hc=>d0 c cs _ g hc (by decide)
    have j4:∀c,c < m15.n->a0.get c=m15.get c:=λc hc=>by rw[l0 c (by omega),b0.get c (by omega),G0 c hc]
    rw[aM,ae,aj]
    refine ak (λc=>?_) (λc=>?_)
    ·have⟨w1,d1,d2,d3,d4,d5,I1,z0⟩:=id v1;rw[(fF I2).2.2.2.2,ae];refine aC mJ I1 rfl rfl ob λJ1 k4 J2 y1=>?_;have K2:J1.get m15.n=.cells (yc b1 b2 b3 b4 b5) 38 none:=J2
     have A0:∀c cs t' g,a0.get c=.cells cs t' g->t'≠38->J1.get c=.cells cs t' g:=λc cs t' g hc ht=>by rw[y1 c (by grind),hc]
     have z1:oO J1 z2 b1 b2 b3 b4 b5:=u1.aY λc cs t' g hc ht=>A0 c cs t' g hc (by grind);refine hQ _ _ _ ⟨l,v,z2,z2,rfl,by omega,by grind,by omega,⟨u0,_,_,_,_,_,K2,z1⟩,⟨u0,_,_,_,_,_,by grind,z1⟩,v0.tH rfl λc h1 h2=>y1 c (by omega),y0.aY λc cs g hc=>A0 c cs _ g hc (by decide),by omega⟩
    ·have L2:a0.get K0.n=.cells (t.c w) 62 none:=d0 _ _ _ _ ((N0.trans e0).cells gt) (by decide);rw[gQ L2,ae]
     have M2:Sl a0 t.un.shape w:=(hs.aF (k0.trans (N0.trans e0))).aY λc cs t' g hc ht=>d0 c cs t' g hc (by
      have ht:t'=141:=by simpa[aZ.ty,aZ.eB]using ht
      subst ht;decide)
     refine eT (T:=39) (x:=(⟨t,w⟩:TW)) P6 rfl v0 (by omega) (by omega) HE (λ_=>⟨rfl,hs.one⟩) λr' K1 w2 n2 k2 w3 l2=>?_
     have j0:∀c cs t' g,a0.get c=.cells cs t' g->t'≠62->K1.get c=.cells cs t' g:=λc cs t' g hc ht=>by rw[w3 c (M.bk hc) λC4 g' e=>by rw[hc]at e;cases e;exact ht rfl,hc]
     have N2:oO K1 z2 b1 b2 b3 b4 b5:=u1.aY λc cs t' g hc ht=>j0 c cs t' g hc (by grind);have O2:∀(c:Nat) (cs:aeN) (g:Option Nat),a0.get c=.cells cs 141 g->K1.get c=.cells cs 141 g:=λc cs g hc=>j0 c cs _ g hc (by decide)
     have y3:Dd a0 (l++ [⟨t,w⟩]):=λx hx=>by
      rcases abC.1 hx with hx |hx;·exact y0 x hx
      rw[abE.1 hx];exact⟨M2,n3,i0⟩
     refine hQ _ _ _ ⟨_,r',y,z2,rfl,by omega,by grind,by omega,v1.aY (k2 _ (by omega)) λc cs t' g hc h1 h2=>j0 c cs t' g hc h2,⟨u0,_,_,_,_,_,by grind,N2⟩,w2,y3.aY O2,by grind⟩
   rintro _ m' H0 ⟨l',v',y',z',rfl,a1,a2,a3,a4,a5,a6,a7,a8⟩;rw[aB,aQ,ae,wrap64 (by omega) (by omega)];exact⟨i+1,by omega,l',v',y',z',rfl,by omega,a1,a2,a3,a4,a5,a6,a7,a8⟩
  have⟨w1,d1,d2,d3,d4,d5,I1,z0⟩:=hy;rw[(fF I1).2.2.2.2,ae];have z3:mm.get m1.n=.cells (yc aeQ aeQ aeQ aeQ aeQ) 38 none:=by grind
  refine aC mJ z3 rfl rfl z0.fB λP2 l4 Q2 A1=>?_;have A3:P2.get m1.n=.cells (yc d1 d2 d3 d4 d5) 38 none:=Q2;rw[(fF A3).2.2.2.2,ae]
  have fR:∀c cs t' g,mm.get c=.cells cs t' g->t'≠38->P2.get c=.cells cs t' g:=λc cs t' g hc ht=>by rw[A1 c (by grind),hc]
  refine hR y _ _ _ _ _ l _ _ _ (by omega) ⟨by omega,λc hc=>by rw[A1 c (by omega),G0 c (by omega),F0.get c (by omega),n0.get c hc]⟩ w1 (z0.aY λc cs t' g hc ht=>fR c cs t' g hc (by grind)) (D1.sl.aY λc cs t' g hc ht=>fR c cs t' g hc (by simp only[aZ.ty,aZ.eB,abp,ab0,or_false]at ht;subst ht;decide)) (s0.aY λc cs g hc=>fR c cs _ g hc (by decide)) (by omega)
 refine H _ λy r r2 st rc mo l v m' lo C1 hx hy r0 hl s0 E1=>?_;show(bB (.tuple #[yv r r2 st rc mo,v])=true/\m.n<=lo/\(m.n=m.n/\∃y' r' B0 C0 D0 E0 l' v',(.tuple #[yv r r2 st rc mo,v]:aeM)=.tuple #[yv r' B0 C0 D0 E0,v']/\Ext m m/\rz y'/\oO m y' r' B0 C0 D0 E0/\Sl m l' v'/\Dd m l'/\(l'.length<=9/\y'.rc.length<=9)))\/((bB (.tuple #[yv r r2 st rc mo,v])=false\/lo < m.n)/\(min m.n lo=m.n/\∃y' r' B0 C0 D0 E0 l' v',(.tuple #[yv r r2 st rc mo,v]:aeM)=.tuple #[yv r' B0 C0 D0 E0,v']/\Ext m m'/\rz y'/\oO m' y' r' B0 C0 D0 E0/\Sl m' l' v'/\Dd m' l'/\(l'.length<=9/\y'.rc.length<=9)));cases hf:bB (.tuple #[yv r r2 st rc mo,v]);·exact .inr ⟨.inl rfl,by omega,y,r,r2,st,rc,mo,l,v,rfl,hx,hy,r0,hl,s0,E1⟩
 have g0:((D.bF r && (D.bF r2 && (D.bF st && (D.bF rc && (D.bF mo && true))))) && (D.dG v && true))=true:=hf;simp only[abc]at g0
 obtain⟨e1,rfl⟩:l=[]/\v=aeQ:=by
  rcases hl with⟨h1,h2⟩ |⟨b,o,c,bc,g,h1,_⟩;·exact⟨h2,h1⟩
  rw[h1]at g0;simp[D.dG,D.bF]at g0
 exact .inl ⟨rfl,C1,rfl,y,r,r2,st,rc,mo,[],_,rfl,.refl,hy,r0.flat ⟨g0.1.1,g0.1.2.1,g0.1.2.2.1,g0.1.2.2.2.1,g0.1.2.2.2.2.1⟩ m,.nil,λx hx=>(by cases hx),⟨abh _,E1.2⟩⟩
end
section
open Go Go.D Go.ChangeShapes Go.WideShapes Go.ChangeAt Go.RowKit
section
variable {H:Type} {enc:TypeId×aeM->H} {W W':World} {sp:Nat->Bool} {held:Bool} {base:Nat}
theorem IF{t e:TypeId}{v:aeM}{fuel:Nat}{x:DataW H×List MemPlace}(ht:Tryz.prog.underlying t=some (.slice e))(h:DataW.trod enc Tryz.prog W 0 sp held fuel t [v]=some x):∀a n c,v=.slice a n c->n<=c:=by
 rintro a n c rfl;rcases DataW.trod_slice ht h with⟨hv,_⟩ |⟨a',len,cap,elems,rest,k,_,hv,_,_,hl,_⟩
 ·grind
 ·grind
theorem M6{α:Type}[aZ α]{m:M}{v:aeM}{Py:α->Prop}(h:∃l:List α,Hf m l v/\l.length < 9223372036854775808/\∀y∈l,Py y)(hc:∀a n c,v=.slice a n c->n<=c):∃l:List α,Ff m l v/\l.length < 9223372036854775808/\∀y∈l,Py y:=by
 have⟨l,hs,h⟩:=h;refine⟨l,?_,h⟩;have a0:=hs;rcases hs with⟨rfl,rfl⟩ |⟨b,o,c,bc,rfl,h2,h4⟩;·exact .inl ⟨rfl,rfl⟩
 exact .inr ⟨.inr a0,b,o,c,rfl,hc _ _ _ rfl,.inr ⟨_,h2⟩⟩
theorem vS{t e:TypeId}{v:aeM}(hu:Tryz.prog.underlying t=some (.slice e))(a0:Cell.okWide Tryz.prog W .any base t v):v.cells.toList=[v]:=by
 cases v with
 |agg cs=>exfalso;revert a0;simp[Cell.okWide,Cell.ok,hu]
 |_=>rfl
theorem DT{v:aeM}{d:DataW H}{ps:List MemPlace}(j0:Value.okWide Tryz.prog W .any base 25 v)(h:DataW.Trod enc Tryz.prog W 0 sp held 25 v d ps):
  bw (sI W) v v/\∃vb vk va,v=.agg #[vb,vk,va]/\one va/\(∃l:List I6,Ff (ep W) l vb/\l.length < 9223372036854775808/\∀y∈l,y.ok)/\(∃l:List I4,Hf (ep W) l vk/\l.length < 9223372036854775808/\∀y∈l,y.ok):=by
 have hu:=underlying25
 have o0:Tryz.prog.cellTypes Tryz.prog.depth 25=some [22,23,22]:=by kernel_rfl
 have p0:Tryz.prog.cellsOf 25=3:=by kernel_rfl
 have c1:Tryz.prog.cellsOf 22=1:=by kernel_rfl
 have c2:Tryz.prog.cellsOf 23=1:=by kernel_rfl
 simp only[Value.okWide,hu]at j0
 obtain⟨cs,rfl,g0,ts,l0, -,d0⟩:=j0
 rw[o0]at l0
 cases l0
 rw[p0]at g0
 have⟨cs⟩:=cs
 have g0:cs.length=3:=g0
 have⟨fuel,h⟩:=h
 obtain⟨xs,n,_,_,_,n0,i0⟩:=DataW.trod_struct hu h
 match cs,g0 with
 |[vb,vk,va],_=>
  have e0:=i0 0 _ rfl
  have e1:=i0 1 _ rfl
  have e2:=i0 2 _ rfl
  have n0:xs.length=3:=n0
  obtain⟨y0,q0⟩:∃y,xs[0]?=some y:=⟨_,aa5 (by omega)⟩
  obtain⟨y1,r0⟩:∃y,xs[1]?=some y:=⟨_,aa5 (by omega)⟩
  obtain⟨y2,s0⟩:∃y,xs[2]?=some y:=⟨_,aa5 (by omega)⟩
  rw[q0]at e0
  rw[r0]at e1
  rw[s0]at e2
  replace e0:DataW.trod enc Tryz.prog W 0 sp held n 22 (([vb,vk,va].drop 0).take (Tryz.prog.cellsOf 22))=some y0:=e0
  rw[c1]at e0
  replace e0:DataW.trod enc Tryz.prog W 0 sp held n 22 [vb]=some y0:=e0
  replace e1:DataW.trod enc Tryz.prog W 0 sp held n 23 (([vb,vk,va].drop 1).take (Tryz.prog.cellsOf 23))=some y1:=e1
  rw[c2]at e1
  replace e1:DataW.trod enc Tryz.prog W 0 sp held n 23 [vk]=some y1:=e1
  replace e2:DataW.trod enc Tryz.prog W 0 sp held n 22 (([vb,vk,va].drop 2).take (Tryz.prog.cellsOf 22))=some y2:=e2
  rw[c1]at e2
  replace e2:DataW.trod enc Tryz.prog W 0 sp held n 22 [va]=some y2:=e2
  have⟨t0,h0,k0⟩:=d0 0 vb rfl
  have⟨t1,h1,k1⟩:=d0 1 vk rfl
  have⟨t2,h2,k2⟩:=d0 2 va rfl
  cases h0;cases h1;cases h2
  obtain⟨a0,b0⟩:=uI (α:=I6) (v:=vb) nu (by kernel_rfl) Gu k0 e0
  obtain⟨a1,b1⟩:=uI (α:=I4) (v:=vk) xB (by kernel_rfl) Iu k1 e1
  obtain⟨a2,b2⟩:=uI (α:=I6) (v:=va) nu (by kernel_rfl) Gu k2 e2
  have o2:one va:=by obtain⟨l,s, -⟩:=b2;obtain⟨a,c,rfl⟩:=s.form;rfl
  refine⟨.agg _ _ rfl λj x y hx hy=>?_,vb,vk,va,rfl,o2,M6 b0 (IF nu e0),b1⟩
  rw[hx]at hy
  cases hy
  match j,hx with
  |0,hx=>cases hx;exact a0
  |1,hx=>cases hx;exact a1
  |2,hx=>cases hx;exact a2
  |j+3,hx=>simp at hx
theorem JJ{v:aeM}{d:DataW H}{ps:List MemPlace}(a0:Value.okWide Tryz.prog W .any base 22 v)(h:DataW.Trod enc Tryz.prog W 0 sp held 22 v d ps):
  bw (sI W) v v/\∃l:List I6,Ff (ep W) l v/\l.length < 9223372036854775808/\∀y∈l,y.ok:=by simp only[Value.okWide,nu]at a0;have⟨fuel,h⟩:=h;rw[vS nu a0]at h;obtain⟨a,b⟩:=uI (α:=I6) (v:=v) nu (by kernel_rfl) Gu a0 h;exact⟨a,M6 b (IF nu h)⟩
theorem OF{v:aeM}{d:DataW H}{ps:List MemPlace}(a0:Value.okWide Tryz.prog W .any base 23 v)(h:DataW.Trod enc Tryz.prog W 0 sp held 23 v d ps):
  bw (sI W) v v/\∃l:List I4,Hf (ep W) l v/\l.length < 9223372036854775808/\∀y∈l,y.ok:=by simp only[Value.okWide,xB]at a0;have⟨fuel,h⟩:=h;rw[vS xB a0]at h;exact uI (α:=I4) (v:=v) xB (by kernel_rfl) Iu a0 h
theorem QK{v:aeM}{d:DataW H}{ps:List MemPlace}(hb:Below W.heap.size W W')(h:DataW.Trod enc Tryz.prog W 0 (λ_=>true) true 23 v d ps)(a0:∀x∈ps,x.block < W.heap.size)(sp:Nat->Bool)(hs:∀x∈ps,sp x.block):DataW.Trod enc Tryz.prog W' 0 sp true 23 v d ps:=
 WideElems.Trod_stays laidOut (by kernel_rfl) (aba (by kernel_rfl)) h (λx hx=>hb.same (a0 x hx)) hs
end
end
end Go.Proofs.YtigpcbodmjjaiaaGreatDoor
namespace Go.D
open Go
section
section
variable {E:Env} {call:aK} {n:Nat}
def flat:Code->List Code
 |.seq a b=>flat a++flat b
 |c=> [c]
def jb(f:Code->Fr->Option (Ex×Fr)):List Code->Fr->Option (Ex×Fr)
 |[],fr=>some (.normal,fr)
 |c::r,fr=>match f c fr with
  |some (.normal,fr)=>jb f r fr
  |r=>r
theorem vn(f:Code->Fr->Option (Ex×Fr)):∀(a b:List Code) (fr:Fr),jb f (a++b) fr=match jb f a fr with |some (.normal,fr)=>jb f b fr |r=>r
 |[],b,fr=>rfl
 |c::a,b,fr=>by
  show(match f c fr with |some (.normal,fr)=>jb f (a++b) fr |r=>r)=match(match f c fr with |some (.normal,fr)=>jb f a fr |r=>r)with |some (.normal,fr)=>jb f b fr |r=>r
  cases h:f c fr with
  |none=>rfl
  |some p=>
   have⟨e,a0⟩:=p
   cases e with
   |normal=>exact vn f a b a0
   |exit id=>rfl
   |ret=>rfl
theorem vo:∀(c:Code) (fr:Fr),bN E call n c fr=jb (bN E call n) (flat c) fr
 |.seq a b,fr=>by
  rw[flat,vn,<-vo a fr]
  show(match bN E call n a fr with |some (.normal,fr)=>bN E call n b fr |r=>r)=_
  cases h:bN E call n a fr with
  |none=>rfl
  |some p=>
   have⟨e,a0⟩:=p
   cases e with
   |normal=>exact vo b a0
   |exit id=>rfl
   |ret=>rfl
 |.skip,fr=>fC _ fr
 |.region _ _ _,fr=>fC _ fr
 |.cond _ _ _,fr=>fC _ fr
 |.block _ _,fr=>fC _ fr
 |.loop _,fr=>fC _ fr
 |.exit _,fr=>fC _ fr
 |.ret,fr=>fC _ fr
 |.label _,fr=>fC _ fr
 |.goto _,fr=>fC _ fr
 |.rangeFunc _ _ _ _,fr=>fC _ fr
 |.scope _,fr=>fC _ fr
 |.refuse _,fr=>fC _ fr
where
 fC (c:Code) (fr:Fr):bN E call n c fr=jb (bN E call n) [c] fr:=by
  unfold jb
  cases h:bN E call n c fr with
  |none=>rfl
  |some p=>
   have⟨e,a0⟩:=p
   cases e <;>rfl
theorem KZ{f:Code->Fr->Option (Ex×Fr)}{l:List Code}{fr a0:Fr}(a k:Nat)(h:jb f ((l.drop a).take k) fr=some (.normal,a0)):jb f (l.drop a) fr=jb f (l.drop (a+k)) a0:=by
 have e:l.drop a=(l.drop a).take k++l.drop (a+k):=by rw[<-ac2,ab5]
 rw[e,vn,h]
theorem CO{X:aK}{f:FuncId}{fn:Func}{c:Code}{args:aeN}{m:M}{fr:Fr}{v:aeM}(hX:X (.func f) args m=none)(hf:E.fn.get f=some fn)(hb:fn.body=some c)(hle:Nat.ble args.length fn.ntmps)
  (he:bN E (cA E X n) n c {T:=enter args 0,m:={m with low:=m.n}}=some (.ret,fr)) (hr:result? E fn fr.T fr.m=some v) (hv:bB v) (hl:Nat.ble m.n fr.m.low):cA E X (n+1) (.func f) args m=some (v,m):=by
 unfold cA
 grind
end
end
section
section
variable {P:Program}
def JX(X Y:aK):aK:=λf args m=>match X f args m with |some r=>some r |none=>Y f args m
theorem qt{X Y:aK}{f:Fn}{args:aeN}{m:M}{r:aeM×M}(h:JX X Y f args m=some r):X f args m=some r\/Y f args m=some r:=by
 unfold JX at h
 cases hx:X f args m with
 |none=>rw[hx]at h;exact .inr h
 |some r'=>rw[hx]at h;exact .inl h
theorem NI{X Y:aK}(hX:dc P X)(hY:dc P Y):dc P (JX X Y):=
 ⟨λf args m v m' h=>(qt h).elim (hX.func f args m v m') (hY.func f args m v m'),
  λl args m v m' h=>(qt h).elim (hX.yield l args m v m') (hY.yield l args m v m'),
  λf args m v m' h=>(qt h).elim (hX.aY f args m v m') (hY.aY f args m v m'),
  λa m v m' b h=>(qt h).elim (hX.LA a m v m' b) (hY.LA a m v m' b)⟩
theorem DN{X Y:aK}{f:Fn}{args:aeN}{m:M}(h1:X f args m=none)(h2:Y f args m=none):JX X Y f args m=none:=by unfold JX;rw[h1];exact h2
end
section
variable {E:Env} {call:aK}
end
end
end Go.D
namespace Go.Proofs.YtigpcbodmjjaiaaGreatDoor
section
variable {m:M}
def sZ:Nat->aeN->Option (List Pl)
 |0,_=>some []
 |n+1,.int .i64 x::.int .i64 y::r=>match sZ n r with |some l=>some (⟨x,y⟩::l) |none=>none
 |_+1,_=>none
def NC(m:M)(v:aeM):Option (List Pl):=
 match v with
 |.slice none 0 0=>some []
 |.slice (some a) n _=>match a.spot,m.get a.block with
  |none,.cells cs e _=>bif Nat.beq e 141 && Nat.ble (a.off+n*2) cs.length then sZ n (cs.drop a.off)else none
  |_,_=>none
 |_=>none
theorem yz:∀{n:Nat} {cs:aeN} {l:List Pl},sZ n cs=some l->l.length=n/\∀i p,l[i]?=some p->(cs.drop (i*2)).take 2=p.c
 |0,_,l,h=>by cases h;exact⟨rfl,λi p hi=>by cases hi⟩
 |n+1,cs,l,h=>by
  unfold sZ at h
  split at h
  ·omega
  ·rename_i n' x y r hn
   cases hn
   cases hr:sZ n r with
   |none=>rw[hr]at h;cases h
   |some l'=>
    rw[hr]at h
    cases h
    have⟨h1,h2⟩:=yz hr
    refine⟨by grind,λi p hi=>?_⟩
    match i with
    |0=>cases hi;rfl
    |i+1=>
     grind
  ·cases h
theorem NB{v:aeM}{l:List Pl}(h:NC m v=some l):Sl m l v:=by
 unfold NC at h;split at h;·cases h;exact .inl ⟨rfl,rfl⟩
 ·rename_i a n c;split at h
  ·rename_i cs e g a0 hg
   cases hc:(Nat.beq e 141 && Nat.ble (a.off+n*2) cs.length)with
   |false=>rw[hc]at h;cases h
   |true=>rw[hc,cond_true]at h;rw[abc]at hc;obtain rfl:=abn hc.1;have hle:=abB hc.2;have⟨h1,h2⟩:=yz h;have⟨ab,ao,sp⟩:=a;have a0:sp=none:=a0;subst a0;refine .inr ⟨ab,ao,c,cs,g,by rw[h1],hg,by rw[h1];exact hle,λi p hi=>?_⟩;have:=h2 i p hi;rw[ac2]at this;exact this
  cases h
 cases h
theorem Rf:cC WO:=⟨λ_ _ _ _=>rfl⟩
def uQ:aK:=λfn args m=>
 match fn with
 |.func f=>
  bif Nat.beq f 170 then
   match args with
   |[v]=>match NC m v with |some l=>bif Nat.ble l.length 1000 then some (.bool (bJ l),m)else none |none=>none
   |_=>none
  else none
 |_=>none
theorem JS:dc Tryz.prog uQ:=by
 refine⟨λf args m v m' hx σ w a0 hs hl=>?_,λl args m v m' hx=>by simp[uQ]at hx,λf args m v m' hx=>?_,λa m v m' b hx=>by
  have e:uQ (.func Dw) [.pointer (some a)] m=none:=rfl
  grind⟩
 ·unfold uQ at hx
  dsimp only at hx
  cases h1:Nat.beq f 170 with
  |true=>
   obtain rfl:=abn h1;rw[h1,cond_true]at hx;split at hx
   ·rename_i v0;split at hx
    ·rename_i l hp
     cases hlen:Nat.ble l.length 1000 with
     |false=>rw[hlen]at hx;cases hx
     |true=>rw[hlen,cond_true]at hx;cases hx;have hle:=abB hlen;have hc:=Cl.calls ag.ok T6 (jz Rf (NB hp) (by omega)) hs hl;exact⟨hc.1.mono λe w' h=>h.flat hs rfl,hc.2⟩
    cases hx
   cases hx
  |false=>
   grind
 ·unfold uQ at hx
  cases f with
  |func f=>
   dsimp only at hx
   cases h1:Nat.beq f 170 with
   |true=>
    rw[h1,cond_true]at hx;split at hx
    ·split at hx
     ·rename_i l hp
      cases hlen:Nat.ble l.length 1000 with
      |false=>rw[hlen]at hx;cases hx
      |true=>rw[hlen,cond_true]at hx;cases hx;exact LK.refl
     cases hx
    cases hx
   |false=>
    grind
  |_=>cases hx
end
end Go.Proofs.YtigpcbodmjjaiaaGreatDoor
