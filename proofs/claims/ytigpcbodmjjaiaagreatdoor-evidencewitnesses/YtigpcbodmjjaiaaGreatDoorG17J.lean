/- evidence: isIn, byFace, ascends, .. -/
import Derived.Test.YtigpcbodmjjaiaaGreatDoorG16J
set_option maxRecDepth 100000
namespace Go.Proofs.YtigpcbodmjjaiaaGreatDoor
open Go Go.D Go.Proofs.Tryz
section
variable {X:aK} {m:M}
theorem tV(hX:cC X){a lo hi:Int}:C X (.func 46) [aeP a,aeP lo,aeP hi] m m.n (.bool (cQ a lo hi)) m:=by
 refine Cl.cd (hX.no _ rfl) (aa3 func46) rfl rfl ?_;rw[F46];dsimp only[η];refine aW (λvs mm l=>vs=[.bool (cQ a lo hi)]/\m.n<=l) (λQ H=>?_) ?_
 ·rw[cp,ae,aj];refine ak (λc=>?_) (λc=>H _ _ _ ⟨by unfold cQ;rw[c];rfl,aa4 _⟩);rw[cp,ae];exact H _ _ _ ⟨by unfold cQ;rw[c];rfl,aa4 _⟩
 rintro _ mm l ⟨rfl,hl⟩;rw[aB];exact⟨rfl,hl⟩
theorem Gv(H:cC X)(x y:Fc):C X (.func 34) [x.v,y.v] m m.n (aeP (JW [dt x.un y.un,dt x.side y.side])) m:=by
 refine Cl.cd (H.no _ rfl) (aa3 func34) rfl rfl ?_;rw[F34];dsimp only[δ,ε,ν,ρ,υ,χ,ω];refine av λm1 h0 d0 i0=>?_;refine av λm2 j0 e0 g0=>?_;have g1:m2.get m.n=.cells x.c 53 none:=by rw[g0 _ (by omega)];exact d0
 have g2:m2.get m1.n=.cells y.c 53 none:=e0;obtain⟨a0,a1, -⟩:=tP g1;obtain⟨b0,b1, -⟩:=tP g2;unfold ptrTo;simp only[cW,dm,ae];rw[a0,ae,b0,ae];refine aE (eo H _ _) ⟨aa4 _,?_⟩;rw[a1,ae,b1,ae];refine aE (eo H _ _) ?_;rw[mZ,aA];obtain⟨m18,hm⟩:∃q,q=m2.push (.cells ([dt x.un y.un,dt x.side y.side].map (.int .i64)) 3 none):=⟨_,rfl⟩
 rw[<-hm];have g18:m18.get m2.n=.cells ([dt x.un y.un,dt x.side y.side].map (.int .i64)) 3 none:=by rw[hm];exact M.aU
 have n18:m2.n<=m18.n:=by rw[hm];exact acs _
 refine aE (HC H (nA g18) (by grind)) ?_;exact⟨rfl,by omega⟩
abbrev Ix(T t:TypeId)(W:Words)(x0 x1:aeM)(m:M)(R:aeN->M->Nat->Prop):Prop:=
(W.Lp (λP1 b0 m3 H=>W.un b0 λv5 r6=>W.un r6 λv7 r8=>(W.aP (aw TE m3 .len [T] [x0]) λv9 _=>(W.ai (az TE .lss 3 v7 v9) λv10=>(aR v10
(W.ai (az TE .sub 3 v7 (.int .i64 1)) λv11=>(W.ai (an TE T x0 v11) λv12=>(W.ai (ah TE m3 t v12) λd0=>(W.ai (an TE T x0 v7) λe0=>(W.ai (ah TE m3 t e0) λg0=>(ia x1 λg16 f17 h0=>(W.bh g16 (f17.toList++([d0,g0]++h0.toList)) m3 λi0 m20 a0=>(W.ai (az TE .geq 3 i0 (.int .i64 0)) λv22=>(aR v22
(R [.bool false] m20 (min H a0))
(W.ai (az TE .add 3 v7 (.int .i64 1)) λv23=>(P1 [v5,v23] m20 (min H a0))))))))))))
(R [.bool true] m3 H))))) [.bool false,.int .i64 1] m (M.n m))
theorem Iw{T t:TypeId}{α:Type}[aZ α](hT:oP TE T t α)(d0:aZ.agg α){l:List α}{v:aeM}{g1:Fn}{f1 c1:Array aeM}{R:aeN->M->Nat->Prop}(val:α->aeN)(H:∀m x cs,aZ.rep m x cs->cs=val x)(hb:l.length < 1000000)(hl:Sl m l v)
  (hc:∀i x y,l[i]?=some x->l[i+1]?=some y->∃k:Int,k < 0/\C X g1 (f1.toList++([.agg (val x).toArray,.agg (val y).toArray]++c1.toList)) m m.n (aeP k) m)
  (hR:R [aeR] m m.n):Ix T t (aL TE X) v (.func g1 f1 c1) m R:=by
 dsimp only[Ix,aL];have b0:∀cs:aeN,aZ.val α cs=.agg cs.toArray:=λcs=>by unfold aZ.val;rw[d0];rfl
 refine Lp.intro (γ:=Nat) (λi=>l.length+1-i) (λi vs m1 lo=>∃w,vs=[w,aeP i]/\1<=i/\i<=l.length+1/\m=m1/\lo=m.n) 1 ⟨_,rfl,aa4 _,by omega,rfl,rfl⟩ ?_;rintro i vs _ _ ⟨w,rfl,h1,hi,rfl,rfl⟩;rw[aB,aB,hl.len hT,aA,aM,ae,aj];refine ak (λc=>?_) (λc=>hR);have e0:i < l.length:=by grind
 rw[dD,ae,wrap64 (by omega) (by omega),show(i:Int)-1=((i-1:Nat):Int) by omega];obtain⟨x,hx⟩:∃x,l[i-1]?=some x:=⟨_,aa5 (by omega)⟩
 obtain⟨y,hy⟩:∃y,l[i]?=some y:=⟨_,aa5 e0⟩
 have⟨a,cs,e1,e2,e3⟩:=hl.index hT (k:=.i64) hx;have⟨a',h0,e4,e5,e6⟩:=hl.index hT (k:=.i64) hy;have a0:=H _ _ _ e3;subst a0;have a0:=H _ _ _ e6;subst a0;rw[b0]at e2 e5;rw[e1,ae,e2,ae,e4,ae,e5,ae,cf];obtain⟨k,hk,g0⟩:=hc (i-1) x y hx (by grind);refine aE g0 ?_;rw[cB,ae,aj,abk (by omega),aO,aQ,ae,wrap64 (by omega) (by omega)];exact⟨i+1,by omega,w,rfl,by omega,by omega,rfl,by omega⟩
theorem PI(hX:cC X){l:List Fc}{v:aeM}(hl:Sl m l v)(hlen:l.length < 1000000)(H:l.Pairwise ik):C X (.func 119) [v,.func (.func 34) #[] #[]] m m.n aeR m:=by refine Cl.cd (hX.no _ rfl) (aa3 func119) rfl rfl ?_;rw[show∀{W:Words} {x0 x1:aeM} {m:M} {R:aeN->M->Nat->Prop},dE TE W f119 [x0,x1] m R=Ix 35 53 W x0 x1 m R from aaz];refine Iw gH rfl Fc.c (λm x cs h=>h) hlen hl (λi x y hx hy=>⟨_,?_,Gv hX x y⟩) ⟨rfl,aa4 _⟩;have h1:=aa9.1 hx;have h2:=aa9.1 hy;have:=abF.1 H i (i+1) h1.1 h2.1 (by omega);rw[h1.2,h2.2]at this;exact Cn this
theorem RJ{W:Words}{x0 x1:aeM}{m:M}{R:aeN->M->Nat->Prop}:eL TE W f123 [x0,x1] m R=zW 35 53 W x0 x1 m R:=by kernel_rfl
theorem RE{W:Words}{x0 x1:aeM}{m:M}{R:aeN->M->Nat->Prop}:eL TE W f121 [x0,x1] m R=zW 39 62 W x0 x1 m R:=by kernel_rfl
theorem RG{W:Words}{x0 x1:aeM}{m:M}{R:aeN->M->Nat->Prop}:eL TE W f122 [x0,x1] m R=zW 41 79 W x0 x1 m R:=by kernel_rfl
theorem KY{f:Fc}(h:(0<=f.un/\f.un<=99)/\ -2<=f.side/\f.side<=7):cQ f.un 0 99/\cQ f.side (-2) 7:=
 ⟨by unfold cQ;rw[abl h.1.1,abl h.1.2];rfl,by unfold cQ;rw[abl h.2.1,abl h.2.2];rfl⟩
theorem zU(H:cC X){x:QW}(hs:Sl m x.q.pD x.w)(hq:YN x.q):C X (.func 57) [x.v] m m.n aeR m:=by
 refine Cl.cd (H.no _ rfl) (aa3 func57) rfl rfl ?_;have hlen:=hq.len;rw[F57];dsimp only[δ,ε,η,κ,ο,ρ,υ,φ,χ,ψ,ω];refine av λm1 i0 e0 g0=>?_;have g1:m1.get m.n=.cells x.c 79 none:=e0;have x1:Ext m m1:=⟨by omega,g0⟩
 have b0:=hs.aF x1;obtain⟨a0,a1, -⟩:=Ql g1;unfold ptrTo;simp only[lA,iN,ae];refine aW (λvs mm lo=>vs=[aeR]/\m.n<=lo) (λQ hQ=>?_) ?_
 ·rw[a0,ae];refine aE (tV H) ?_;rw[show cQ x.q.id 0 99=true by unfold cQ;rw[abl hq.id.1,abl hq.id.2];rfl,aj,bL,a1,ae,b0.len gH,aA,cp,ae,aj,abl (by omega),bL,ae]
  have hc:C X (.func 64) [x.w,.func (.func 118) #[] #[]] m1 m1.n aeS m1:=by
   refine Cl.cd (H.no _ rfl) (aa3 func64) rfl rfl ?_;rw[F64];dsimp only[η,φ,χ];refine aE (fm gH (H.no _ rfl) (aa3 func123) rfl RJ (λ_=>false) (by omega) b0 λf hf cs hr=>?_) ?_
   ·have hr:cs=f.c:=hr;subst hr;have⟨b1,b2⟩:=KY (hq.ok f hf);refine Cl.cd (args:=[f.v]) (H.no _ rfl) (aa3 func118) rfl rfl ?_;rw[aaA];dsimp only[δ,ε,ο,ρ,υ,φ,χ,ψ];refine av λm2 j0 h0 k0=>?_;have g2:m2.get m1.n=.cells f.c 53 none:=h0;obtain⟨c0,c1, -⟩:=tP g2;unfold ptrTo;refine aW (λvs mm lo=>vs=[aeS]/\m1.n<=lo) (λQ hQ=>?_) ?_
    ·rw[cW,ae,c0,ae];refine aE (tV H) ?_;rw[b1,bj,ae,aj];show iW false _ _;rw[aO,dm,ae,c1,ae];refine aE (tV H) ?_;rw[b2,bj,ae];exact hQ _ _ _ ⟨rfl,by omega⟩
    rintro _ mm lo ⟨rfl,d0⟩;rw[aB];exact⟨rfl,d0⟩
   rw[cB,ae,il];refine⟨?_,by omega⟩;show Value.bool (x.q.pD.any λ_=>false)=_;rw[ac1.2 λx _=>by decide]
  refine aE hc ?_;rw[bj,ae,aj];show iW true _ _;rw[bL,a1,ae];refine aE (PI H b0 (by omega) hq.xN) ?_;exact hQ _ _ _ ⟨rfl,by omega⟩
 rintro _ mm lo ⟨rfl,d0⟩;rw[aB];exact⟨rfl,d0⟩
theorem zh(hX:cC X){l:List UW}{r r2 st rc mo:aeM}(h:dg m l r)(hl:l.length < 1000000)(h1:(yc r r2 st rc mo).all one)(id:Int):
  ∃rv m',C X (.func 84) [yv r r2 st rc mo,aeP id] m m.n rv m'/\Ext m m'/\eZ (bP l) id m' rv:=by
 have key:=Cl.iX (E:=TE) (X:=X) (f:=84) (args:=[yv r r2 st rc mo,aeP id]) (m:=m) (R:=λrv m' b=>b=m.n/\Ext m m'/\eZ (bP l) id m' rv) (hX.no _ rfl) (aa3 func84) rfl ?_
 ·obtain⟨rv,m',b,hc,rfl,h⟩:=key;exact⟨rv,m',hc,h⟩
 rw[F84];dsimp only[δ,ε,ζ,η,θ,ι,ρ,ς,υ,φ,χ,ψ];refine av λm1 u0 i0 v0=>?_;refine av λm2 y0 j0 k0=>?_;refine av λm3 z0 l0 b0=>?_;have n0:Ext m m3:=⟨by omega,by grind⟩
 have g1:m3.get m.n=.cells (yc r r2 st rc mo) 38 none:=by rw[b0 _ (by omega),k0 _ (by omega)];exact i0
 have g2:m3.get m1.n=.cells [aeP id] 3 none:=by rw[b0 _ (by omega)];exact j0
 have g3:m3.get m2.n=.cells Un.zc 60 none:=l0;have H:=h.aF n0;unfold ptrTo;simp only[cX,bZ,bO,ae];rw[(xR g1).2.1,ae];refine aE (fm dF (hX.no _ rfl) (aa3 func145) rfl AR (l:=l) (λx=>decide (x.u.id=id)) (by omega) H.sl λx hx cs hr=>?_) ?_
 ·obtain⟨rfl,hw⟩:cs=x.c/\one x.w:=hr;refine Cl.cd (args:=[x.v,aeK m1.n 0]) (hX.no _ rfl) (aa3 func146) rfl rfl ?_;rw[aam];dsimp only[δ,ε,η,ρ,υ];refine av λm4 A0 o0 p0=>?_;have g4:m4.get m3.n=.cells (x.u.c x.w) 60 none:=o0;unfold ptrTo;rw[bs,ae,(kU g4).1,ae,Cp (show m4.get m1.n=_ from(p0 _ (by omega)).trans g2),ae,aS,ae];exact⟨rfl,aa4 _⟩
 rcases kL (λx:UW=>decide (x.u.id=id)) l with⟨e1,e2⟩ |⟨i,x,e1,e2,e3,e4⟩
 ·rw[e1,aM,ae,aj,abl (by decide),bL,show aJ TE 60 []=some (.agg Un.zc.toArray)from ni,ae];refine aC du g3 rfl rfl rfl λm12 q0 d0 r0=>?_;have g12:m12.get m2.n=.cells (Un.c ⟨0,0,0,[],0,0⟩ aeQ) 60 none:=d0;rw[bT g12,ae];refine .inl ⟨rfl,by omega,by grind,.refl,?_⟩;unfold eZ cj
  rw[adA.2 λy hy=>by obtain⟨x,hx,rfl⟩:=abQ.1 hy;have:=e2 x hx;simpa using this]
  rfl
 rw[e1,aM,ae,aj,abk (by omega),aO,(xR g1).2.1,ae];obtain⟨p,f1,f2, -⟩:=H.sl.gj (k:=.i64) e2;rw[f1,ae,f2,ae];have e0:=abb e2;refine aC du g3 rfl rfl (Un.cR (h.sh x e0).one) λm20 s0 g0 h0=>?_;have g20:m20.get m2.n=.cells (x.u.c x.w) 60 none:=g0;rw[bT g20,ae];refine EB (m':=m20) (by grind) ?_ (by omega) ⟨by omega,by grind⟩;unfold eZ
 have a0:cj (bP l) id=some x.u:=by
  unfold cj bP
  refine pJ (i:=i) (by grind) e3 λj y hj hy=>?_
  grind
 rw[a0];exact⟨x.w,rfl,(H.sh x e0).aY λc cs t g hc ht=>by rw[h0 c (λe=>by subst e;rw[g3]at hc;cases hc;simp[aZ.ty,aZ.eB]at ht),hc]⟩
theorem R5(hX:cC X){l:List UW}{b:Nat}{r r2 st rc mo:aeM}(g:m.get b=.cells (yc r r2 st rc mo) 38 none)(h:dg m l r)(hP:cn (bP l))(hl:l.length < 1000000)(h1:(yc r r2 st rc mo).all one)(id:Int):
  C X (.func 117) [aeP id,aeK b 0] m m.n (.bool (cj (bP l) id).isSome) m:=by refine Cl.cd (hX.no _ rfl) (aa3 func117) rfl rfl ?_;rw[aaB];dsimp only[δ,ι,ξ,ς,υ,φ,χ,ψ];rw[(fF g).2.2.2.2,ae];have⟨rv,m3,c3,x3,f3⟩:=zh (m:=m) hX h hl h1 id;refine aE c3 ?_;obtain⟨u,wu,bb,rfl,fu⟩:=f3.S9 hP;have n3:=x3.n;rw[aH,aH];simp only[aa8,aa7,ae];refine av λm7 a0 H b0=>?_;unfold ptrTo;refine aC du H rfl rfl (Un.cR fu.sl.one) λm8 d0 e0 g0=>?_;exact⟨by rw[fu.is];rfl,by omega⟩
theorem Ge(hX:cC X){y:Yd}{r r2 st rc mo:aeM}{t:Tk}{w:aeM}(hV:oO m y r r2 st rc mo)(hP:rz y):C X (.func 55) [yv r r2 st rc mo,t.v w] m m.n (.bool (uW y.us t)) m:=by
 refine Cl.cd (hX.no _ rfl) (aa3 func55) rfl rfl ?_;have d0:=hV.fB;obtain⟨⟨l,H,hF⟩, -⟩:=hV;have e0:cn (bP l):=by rw[H];exact hP.tR
 have k0:l.length<=12:=by have:=hP.tR.len;rwa[<-H,cS]at this
 rw[F55];dsimp only[δ,ε,η,ρ,υ,φ,χ,ψ];refine av λm1 l0 g0 n0=>?_;refine av λm2 o0 h0 i0=>?_;have j0:Ext m m2:=⟨by omega,by grind⟩
 have g1:m2.get m.n=.cells (yc r r2 st rc mo) 38 none:=by rw[i0 _ (by omega)];exact g0
 have g2:m2.get m1.n=.cells (t.c w) 62 none:=h0;obtain⟨a0,a1,a2, -, -⟩:=oK g2;have has:=λid=>R5 (m:=m2) hX g1 (hF.aF j0) e0 (by omega) d0 id;rw[H]at has;unfold ptrTo;simp only[cz,ck,cG,ae];rw[a0,ae];refine aW (λvs mm lo=>vs=[.bool (decide (t.kind=4\/t.kind=5))]/\m2=mm/\m.n<=lo) (λQ hQ=>?_) ?_
 ·rw[aS,ae,aj];refine ak (λc=>hQ _ _ _ ⟨?_,rfl,aa4 _⟩) (λc=>?_);·rw[c,abl (Or.inl (aba c))]
  ·rw[aS,ae]
   refine hQ _ _ _ ⟨?_,rfl,aa4 _⟩
   have c:=aa6 c
   congr 2
   exact decide_eq_decide.2 ⟨λh=> .inr h,λh=>h.resolve_left c⟩
 rintro _ _ lo ⟨rfl,rfl,b0⟩;rw[aB,aj];refine ak (λc=>?_) (λc=>?_)
 ·have c:=aba c;rw[a1,ae];refine aE (has t.id) ⟨?_,by omega⟩;unfold uW;rw[abd (by omega)]
  have:(!decide (t.kind=4) && !decide (t.kind=5))=false:=by
   grind
  rw[this,adi];rfl
 have c:=aa6 c;rw[aS,ae,aj];refine ak (λc9=>?_) (λc9=>?_)
 ·have c9:=aba c9;refine aW (λvs mm lo=>vs=[.bool (uW y.us t)]/\m.n<=lo) (λQ hQ=>?_) ?_
  ·unfold uW at hQ;rw[abe c9]at hQ;rw[a1,ae];refine aE (has t.id) ?_;rw[aj];refine ak (λd=>?_) (λd=>hQ _ _ _ ⟨by grind,by omega⟩);rw[a2,ae];refine aE (has t.other) ?_;exact hQ _ _ _ ⟨by grind,by omega⟩
  rintro _ mm lo ⟨rfl,b0⟩;rw[aB];exact⟨rfl,b0⟩
 have c9:=aa6 c9;refine⟨?_,b0⟩;unfold uW;rw[abd c9]
 have:(!decide (t.kind=4) && !decide (t.kind=5)):=by
  grind
 rw[this,Bool.or_true];rfl
theorem rL(hX:cC X){s:qP}{r r2 st rc mo tv pv qv:aeM}(H:wY m s r r2 st rc mo tv pv qv):∃m',C X (.func 47) [zM r r2 st rc mo tv pv qv] m m.n (HH s.ts.length pv) m'/\Ext m m':=by
 obtain⟨l,hl,hs, -⟩:=H.ts;have a0:l.length=s.ts.length:=by grind
 have b0:=H.ps.cells;have d0:=H.ps.one;have key:=Cl.iX (E:=TE) (X:=X) (f:=47) (args:=[zM r r2 st rc mo tv pv qv]) (m:=m) (R:=λrv m' b=>b=m.n/\rv=HH s.ts.length pv/\Ext m m') (hX.no _ rfl) (aa3 func47) rfl ?_
 ·obtain⟨rv,m',b,hc,rfl,rfl,hx⟩:=key;exact⟨m',hc,hx⟩
 rw[F47];dsimp only[δ,ε,θ,ι,κ,ρ,ς,υ,φ];refine av λm1 l0 e0 n0=>?_;refine av λm2 o0 g0 h0=>?_;have i0:Ext m m2:=⟨by omega,by grind⟩
 have g1:m2.get m.n=.cells (scc r r2 st rc mo tv pv qv) 43 none:=by rw[h0 _ (by omega)];exact e0
 have g2:m2.get m1.n=.cells [aeP 0,aeQ] 75 none:=g0;unfold ptrTo;rw[eV,ae,(qS g1).2.1,ae,(hs.aF i0).len jR,aA,lC,ae,(qS g1).2.2.1,ae,a0];rw[show aJ TE 75 [(0,aeP (s.ts.length:Int)),(1,pv)]=some (HH s.ts.length pv) by rw[ub rfl (by grind),b0];rfl,ae];refine aC Mc g2 rfl rfl (by show(true && (one pv && true))=true;rw[d0];rfl) λm9 p0 j0 q0=>?_;have g9:m9.get m1.n=.cells [aeP (s.ts.length:Int),pv] 75 none:=j0;rw[(AF g9).2.2,ae];have k0:Ext m m9:=⟨by omega,by grind⟩
 cases hf:bB (HH s.ts.length pv);·exact .inr ⟨.inl hf,by omega,rfl,k0⟩
 exact .inl ⟨hf,by omega,by grind,rfl,.refl⟩
theorem Cd{s:qP}(h:Lt s):De s.ts.length s.ps:=h.od
theorem V4(H:cC X){s:qP}{r r2 st rc mo tv pv qv:aeM}{b:Nat}(hS:Lt s)(hV:wY m s r r2 st rc mo tv pv qv)(g:m.get b=.cells (scc r r2 st rc mo tv pv qv) 43 none){x:TW}(hs:Sl m x.t.un.shape x.w)(h4:x.t.un.shape.length<=4)(hf:dS x.t)(ho:uW s.y.us x.t):
  C X (.func 54) [x.v,aeK b 0] m m.n aeS m:=by
 refine Cl.cd (H.no _ rfl) (aa3 func54) rfl rfl ?_;rw[F54];dsimp only[δ,ε,ο,ρ,υ,χ,ψ];refine av λm1 e0 a0 b0=>?_;have x1:Ext m m1:=⟨by omega,b0⟩
 have g1:m1.get m.n=.cells (x.t.c x.w) 62 none:=a0;have gs:=x1.cells g;unfold ptrTo;refine aW (λvs mm lo=>vs=[aeS]/\m.n<=lo) (λQ hQ=>?_) ?_
 ·rw[gQ g1,ae];refine aE (xV H (hs.aF x1) (by omega) hf) ?_;rw[bj,ae,aj];show iW false _ _;rw[aO,iO,ae,(qS gs).1,ae,gQ g1,ae];refine aE (Ge H (hV.y.aF x1) hS.y) ?_;rw[ho,bj,ae];exact hQ _ _ _ ⟨rfl,by omega⟩
 rintro _ mm lo ⟨rfl,d0⟩;rw[aB];exact⟨rfl,d0⟩
theorem V3(hX:cC X){x:QW}(hs:Sl m x.q.pD x.w)(hq:YN x.q):C X (.func 56) [x.v] m m.n aeS m:=by refine Cl.cd (hX.no _ rfl) (aa3 func56) rfl rfl ?_;rw[F56];dsimp only[δ,ο,ρ,υ,χ];refine av λm1 b0 H a0=>?_;have g1:m1.get m.n=.cells x.c 79 none:=H;unfold ptrTo;rw[(Ql g1).2.2,ae];refine aE (zU hX (hs.aF ⟨by omega,a0⟩) hq) ?_;rw[bj,ae];exact⟨rfl,by omega⟩
theorem V2(hX:cC X){x y:QW}(h:x.q.id < y.q.id):C X (.func 58) [x.v,y.v] m m.n (aeP (-1)) m:=by
 refine Cl.cd (hX.no _ rfl) (aa3 func58) rfl rfl ?_;rw[F58];dsimp only[δ,ε,ρ,υ,χ];refine av λm1 d0 H e0=>?_;refine av λm2 g0 a0 b0=>?_;have g1:m2.get m.n=.cells x.c 79 none:=by rw[b0 _ (by omega)];exact H
 have g2:m2.get m1.n=.cells y.c 79 none:=a0;unfold ptrTo;rw[lA,ae,(Ql g1).1,ae,lA,ae,(Ql g2).1,ae];refine aE (eo hX _ _) ?_;exact⟨by unfold dt;rw[abe h];rfl,by omega⟩
theorem Bd(H:cC X){s:qP}{r r2 st rc mo tv pv qv:aeM}(hS:Lt s)(hV:wY m s r r2 st rc mo tv pv qv):C X (.func 23) [zM r r2 st rc mo tv pv qv] m m.n aeR m:=by
 refine Cl.cd (H.no _ rfl) (aa3 func23) rfl rfl ?_;have l0:=hS.ql;have n0:=hS.tl;rw[F23];dsimp only[δ,ε,η,κ,ο,ρ,υ,φ,χ,ψ,ω];refine av λm1 o0 i0 j0=>?_;have x1:Ext m m1:=⟨by omega,j0⟩
 have g1:m1.get m.n=.cells (scc r r2 st rc mo tv pv qv) 43 none:=i0;have a0:=hV.aF x1;unfold ptrTo;simp only[iO,eV,lB,ae];refine aW (λvs mm lo=>vs=[aeS]/\Ext m1 mm/\m.n<=lo) (λQ hQ=>?_) ?_
 ·rw[(qS g1).2.2.2.2,ae];have⟨m8,c8,x8⟩:=rL (m:=m1) H a0;refine aE c8 ?_;have n8:=x8.n;refine aE (JV H (Cd hS) (a0.ps.aF x8)) ?_;rw[bj,ae,aj];show iW false _ _;rw[aO,(qS (x8.cells g1)).1,ae];refine aE (Al H (a0.y.aF x8) hS.y) ?_;rw[bj,ae,aj];show iW false _ _;obtain⟨q,hq,b0, -⟩:=(a0.aF x8).qs;have:q.length=s.qs.length:=by grind
  rw[aO,(qS (x8.cells g1)).2.2.2.1,ae,b0.len rF,aA,bV,ae,abk (by omega)];exact hQ _ _ _ ⟨rfl,x8,by omega⟩
 rintro _ m4 lo ⟨rfl,x4,p0⟩;rw[aB,aj,aO];have e0:=a0.aF x4;have g4:=x4.cells g1;have n4:=x4.n;have⟨l,hl,hs,k0⟩:=e0.ts;have⟨q,hq,b0,g0⟩:=e0.qs;have q0:l.length=s.ts.length:=by grind
 have r0:q.length=s.qs.length:=by grind
 refine aW (λvs mm lo=>vs=[aeR]/\m.n<=lo) (λQ hQ=>?_) ?_
 ·rw[(qS g4).2.1,ae]
  have c1:C X (.func 60) [tv,.func (.func 54) #[] #[aeK m.n 0]] m4 m4.n aeS m4:=by
   refine Cl.cd (H.no _ rfl) (aa3 func60) rfl rfl ?_;rw[F60];dsimp only[η,φ,χ];refine aE (fm jR (H.no _ rfl) (aa3 func121) rfl RE (l:=l) (λ_=>false) (by omega) hs λx hx cs hr=>?_) ?_
   ·obtain⟨rfl, -⟩:cs=x.c/\one x.w:=hr;have⟨h1,h2,h3⟩:=k0 x hx;exact V4 H hS e0 g4 h1 h2 h3 (hS.ts x.t (by grind)).2
   ·rw[cB,ae,il]
    refine⟨?_,by omega⟩
    show Value.bool (l.any λ_=>false)=_
    grind
  refine aE c1 ?_;rw[bj,ae,aj];show iW true _ _;rw[bL,(qS g4).2.2.2.1,ae]
  have c2:C X (.func 61) [qv,.func (.func 56) #[] #[]] m4 m4.n aeS m4:=by
   refine Cl.cd (H.no _ rfl) (aa3 func61) rfl rfl ?_;rw[F61];dsimp only[η,φ,χ];refine aE (fm rF (H.no _ rfl) (aa3 func122) rfl RG (l:=q) (λ_=>false) (by omega) b0 λx hx cs hr=>?_) ?_
   ·obtain⟨rfl, -⟩:cs=x.c/\one x.w:=hr;exact V3 H (g0 x hx).1 (g0 x hx).2
   ·rw[cB,ae,il]
    refine⟨?_,by omega⟩
    show Value.bool (q.any λ_=>false)=_
    grind
  refine aE c2 ?_;rw[bj,ae,aj];show iW true _ _;rw[bL,(qS g4).2.2.2.1,ae]
  have c3:C X (.func 62) [qv,.func (.func 58) #[] #[]] m4 m4.n aeR m4:=by
   refine Cl.cd (H.no _ rfl) (aa3 func62) rfl rfl ?_
   rw[show∀{W:Words} {x0 x1:aeM} {m:M} {R:aeN->M->Nat->Prop},dE TE W f62 [x0,x1] m R=Ix 41 79 W x0 x1 m R from F62]
   refine Iw rF rfl QW.c (λm x cs h=>h.1) (by omega) b0 (λi x y hx hy=>⟨-1,by decide,V2 H ?_⟩) ⟨rfl,aa4 _⟩
   have h1:=aa9.1 hx
   have h2:=aa9.1 hy
   have d0:=hS.xN
   rw[<-hq]at d0
   have:=abF.1 (adm.1 d0) i (i+1) h1.1 h2.1 (by omega)
   grind
  refine aE c3 ?_;exact hQ _ _ _ ⟨rfl,by omega⟩
 rintro _ mm fS ⟨rfl,h0⟩;rw[aB];exact⟨rfl,h0⟩
end
section
section
variable {X:aK}{x0 x1 x2 x3 x4:aeM}{m:M}{R:aeN->M->Nat->Prop}{W:Words}
theorem F32:dE TE (aL TE X) f32 [x0] m R=ρ m x0 43 λa=>δ a 43 (υ m) λb=>χ X 47 [b] a λa b c=>ς b [φ 0,aeQ] 75 λd=>ι d 75 (υ b) a λa d=>ς a [.nilFunc] 155 λf=>ι f 155 (υ a) (.func (.func 76) #[] #[υ m,υ b]) λb f=>R [.func (.func 77) #[] #[υ m,υ a]] b (ω m.n c d f):=by kernel_rfl
theorem F76:dE TE (aL TE X) f76 [x0,x1,x2,x3,x4] m R=ρ m x2 53 λa=>ε 43 x3 1 λb=>δ a 39 b λb=>ζ 39 b x0 λb=>δ a 62 b λb=>ς a [φ 0,φ 0,φ 0,φ 0,aeQ,φ 0,φ 0,φ 0,φ 0,φ 0,φ 0] 62 λc=>ι c 62 (υ a) b λb c=>jn (λd=>ε 62 (υ a) 0 λf=>δ b 3 f λf=>η .eql 3 f (φ 8) λf=>aR f (ε 62 (υ a) 2 λf=>δ b 3 f λf=>ε 53 (υ m) 0 λg=>δ b 3 g λg=>η .eql 3 f g λf=>aR f (ε 62 (υ a) 4 λa=>δ b 3 a λa=>ε 53 (υ m) 1 λf=>δ b 3 f λf=>η .eql 3 a f λa=>aR a (δ b 75 x4 λa=>χ X 49 [a,x0,x1] b λa b f=>d [a] b (ψ m.n c f)) (d [aeS] b (min m.n c))) (d [aeS] b (min m.n c))) (d [aeS] b (min m.n c))) (λa b c=>un a λa _=>R [a] b c):=by kernel_rfl
theorem F77:dE TE (aL TE X) f77 [x0,x1,x2] m R=ε 43 x1 1 λa=>δ m 39 a λa=>κ m .len [39] [a] λb _=>Lp (λc d f g=>un d λd _=>η .lss 3 d b λb=>aR b (ζ 39 a d λa=>δ f 62 a λa=>ς f [φ 0,φ 0,φ 0,φ 0,aeQ,φ 0,φ 0,φ 0,φ 0,φ 0,φ 0] 62 λb=>ι b 62 (υ f) a λa b=>ε 43 x1 0 λh=>δ a 38 h λh=>δ a 62 (υ f) λf=>χ X 37 [h,f] a λa f h=>κ f .len [35] [a] λi _=>Lp (λb f g h=>un f λf _=>η .lss 3 f i λi=>aR i (ζ 35 a f λa=>δ g 53 a λa=>ς g [φ 0,φ 0] 53 λc=>ι c 53 (υ g) a λa c=>ε 43 x1 0 λi=>ε 38 i 2 λi=>δ a 35 i λi=>δ a 53 (υ g) λj=>χ X 36 [i,j] a λa i j=>ε 43 x1 1 λk=>δ i 39 k λk=>κ i .len [39] [k] λk _=>Lp (λa c h i=>un c λc j=>un j λj _=>η .lss 3 j k λk=>aR k (aR c (η .add 3 j (φ 1) λb=>a [aeR,b] h i) (δ h 155 x2 λb=>δ h 53 (υ g) λc=>ia b λb f g=>bh TE X b (f.toList++([j,d,c]++g.toList)) h λb c d=>η .add 3 j (φ 1) λf=>a [b,f] c (min i d))) (ε 43 x1 3 λa=>δ h 41 a λa=>κ h .len [41] [a] λj _=>Lp (λh i k l=>un i λi _=>η .lss 3 i j λj=>aR j (ζ 41 a i λa=>δ k 79 a λa=>ς k [φ 0,aeQ] 79 λb=>ι b 79 (υ k) a λa b=>jn (λf=>ο .not c λc=>aR c (ε 79 (υ k) 1 λc=>δ a 35 c λc=>δ a 53 (υ g) λh=>χ X 36 [c,h] a λa c h=>aR a (δ c 53 (υ g) λa=>θ 55 [(0,d),(1,a),(2,i)] λa=>ia x0 λd g i=>bh TE X d (g.toList++([a]++i.toList)) c λa c d=>ο .not a λa=>f [a] c (ω l b h d)) (f [aeS] c (ψ l b h))) (f [aeS] a (min l b))) (λa b c=>un a λa _=>aR a (R [] b c) (η .add 3 i (φ 1) λa=>h [a] b c))) (η .add 3 f (φ 1) λa=>b [a] k l)) [φ 0] h i)) [a,φ 0] i (ψ h c j)) (η .add 3 d (φ 1) λa=>c [a] g h)) [φ 0] f (ψ g b h)) (R [] f g)) [φ 0] m m.n:=by kernel_rfl
theorem F8:dE TE W Tryz.f8 [x0] m R=W.bE (M.push m (.cells (cells x0) 43 none)) λa=>W.ai (ah TE a 43 (ptrTo m.n)) λb=>W.bh (.func 23) [b] a λa b c=>W.ai (cZ .not a) λa=>aR a (R [aeQ,.int .i64 290] b (min m.n c)) (W.ai (ah TE b 43 (ptrTo m.n)) λa=>W.bh (.func 32) [a] b λa b d=>W.bh (.func 31) [a] b λa b f=>R [a,.int .i64 0] b (min (min (min m.n c) d) f)):=by kernel_rfl
theorem F16:dE TE (aL TE X) f16 [x0,x1] m R=ρ m x0 43 λa=>jn (λb=>δ a 43 (υ m) λc=>χ X 23 [c] a λa c d=>ο .not a λa=>aR a (b [aeR] c (min m.n d)) (ε 43 (υ m) 1 λa=>δ c 39 a λa=>κ c .len [39] [a] λa _=>η .sub 3 a (φ 1) λa=>χ X 46 [x1,φ 0,a] c λa c f=>ο .not a λa=>b [a] c (ψ m.n d f))) (λa b c=>un a λa _=>aR a (R [aeQ,φ 290] b c) (δ b 43 (υ m) λa=>χ X 47 [a] b λa b d=>ς b [φ 0,aeQ] 75 λf=>ι f 75 (υ b) a λa f=>δ a 75 (υ b) λg=>χ X 48 [g] a λa g h=>ξ a 0 λi=>ξ a 1 λ_=>ν g 26 0 [] λa g=>ν g 26 1 [(0,x1)] λg j=>κ j .len [26] [i] λk _=>Lp (λa c d f=>un c λc g=>un g λg h=>un h λh _=>η .lss 3 h k λj=>aR j (jn (λa=>ζ 26 i h λh=>δ d 3 h λh=>δ d 75 (υ b) λb=>χ X 49 [b,h,x1] d λb d i=>aR b (ν d 26 1 [(0,h)] λb d=>κ (M.wl d d.n) .append [26,26] [c,b] λb c=>a [b,g] c (ψ f i (M.low c))) (η .neq 3 h x1 λb=>aR b (ν d 26 1 [(0,h)] λb d=>κ (M.wl d d.n) .append [26,26] [g,b] λb d=>a [c,b] d (ψ f i (M.low d))) (a [c,g] d (min f i)))) (λb c d=>un b λb f=>un f λf _=>η .add 3 h (φ 1) λg=>a [b,f,g] c d)) (κ (M.wl d d.n) .append [26,26] [c,g] λa b=>R [a,φ 0] b (min f (M.low b)))) [a,g,φ 0] j (ω c d f h))):=by kernel_rfl
theorem F31:dE TE (aL TE X) f31 [x0] m R=χ X 75 [aeQ,x0] m λa b c=>R [a] b (min m.n c):=by kernel_rfl
theorem F75:dE TE (aL TE X) f75 [x0,x1] m R=ρ m x0 45 λa=>ia x1 λb c d=>RF TE X b c.toList d.toList a m.n (λb c d=>un b λb f=>IW f (ς c [φ 0,φ 0,φ 0,φ 0] 55 λf=>ι f 55 (υ c) b λb f=>Q8 a.n c b λb=>δ b 45 (υ m) λg=>δ b 55 (υ c) λh=>ν b 45 1 [(0,h)] λh i=>κ (M.wl i i.n) .append [45,45] [g,h] λg h=>ι h 45 (υ m) g λg i=>d b .normal g (Γ c.n f a.n (M.low h) i))) (λa b=>δ a 45 (υ m) λc=>R [c] a b) []:=by kernel_rfl
theorem F14:dE TE (aL TE X) f14 [x0,x1] m R=jn (λa=>η .lss 3 x0 (φ 0) λb=>aR b (η .add 3 x0 (φ 1) λb=>ο .neg b λb=>a [b] m m.n) (a [x0] m m.n)) (λa b c=>un a λa _=>η .rem 3 a x1 λa=>R [a] b c):=by kernel_rfl
theorem F5:dE TE W Tryz.f5 [x0,x1,x2,x3,x4] m R=W.bE (M.push m (.cells (cells x0) 25 none)) λa=>W.bh (.func 6) [] a λa b c=>W.ai (cZ .not a) λd=>aR d (R [aeS] b (min m.n c)) (W.ai (ah TE b 25 (ptrTo m.n)) λd=>W.bh (.func 7) [d,x1,x2,x3] b λb d f=>W.bE (M.push d (.cells [aeQ,aeQ,aeQ,aeQ,aeQ,aeQ,aeQ,aeQ] 43 none)) λg=>W.aP (aD TE g 43 (ptrTo d.n) b) λb g=>W.ai (ah TE b 43 (ptrTo d.n)) λh=>W.bh (.func 8) [h] b λb h i=>W.ai (bz b 0) λj=>W.ai (bz b 1) λb=>W.ai (az TE .neq 46 b (.int .i64 0)) λb=>aR b (R [aeS] h (min (min (min (min m.n c) f) g) i)) (W.aP (aw TE h .len [45] [j]) λb _=>W.ai (az TE .eql 3 b (.int .i64 0)) λb=>aR b (R [a] h (min (min (min (min m.n c) f) g) i)) (W.aP (aw TE h .len [45] [j]) λb _=>W.bh (.func 14) [x4,b] h λb h k=>W.ai (an TE 45 j b) λb=>W.ai (ah TE h 55 b) λb=>W.bE (M.push h (.cells [.int .i64 0,.int .i64 0,.int .i64 0,.int .i64 0] 55 none)) λj=>W.aP (aD TE j 55 (ptrTo h.n) b) λb j=>W.ai (ah TE b 43 (ptrTo d.n)) λl=>W.ai (af TE 55 (ptrTo h.n) 0) λn=>W.ai (ah TE b 3 n) λn=>W.bh (.func 16) [l,n] b λb l n=>W.ai (bz b 0) λo=>W.ai (bz b 1) λb=>W.jn (λa=>W.ai (az TE .neq 46 b (.int .i64 0)) λb=>aR b (a [aeR] l (min (min (min (min (min (min (min m.n c) f) g) i) k) j) n)) (W.ai (af TE 55 (ptrTo h.n) 0) λb=>W.ai (ah TE l 3 b) λb=>W.ai (az TE .lss 3 b (.int .i64 0)) λb=>aR b (a [aeR] l (min (min (min (min (min (min (min m.n c) f) g) i) k) j) n)) (W.ai (af TE 55 (ptrTo h.n) 0) λb=>W.ai (ah TE l 3 b) λb=>W.ai (af TE 43 (ptrTo d.n) 1) λp=>W.ai (ah TE l 39 p) λp=>W.aP (aw TE l .len [39] [p]) λp _=>W.ai (az TE .geq 3 b p) λb=>aR b (a [aeR] l (min (min (min (min (min (min (min m.n c) f) g) i) k) j) n)) (W.ai (af TE 55 (ptrTo h.n) 2) λb=>W.ai (ah TE l 3 b) λb=>W.ai (az TE .lss 3 b (.int .i64 0)) λb=>aR b (a [aeR] l (min (min (min (min (min (min (min m.n c) f) g) i) k) j) n)) (W.ai (af TE 55 (ptrTo h.n) 2) λb=>W.ai (ah TE l 3 b) λb=>W.ai (af TE 43 (ptrTo d.n) 3) λh=>W.ai (ah TE l 41 h) λh=>W.aP (aw TE l .len [41] [h]) λh _=>W.ai (az TE .geq 3 b h) λb=>aR b (a [aeR] l (min (min (min (min (min (min (min m.n c) f) g) i) k) j) n)) (W.ai (af TE 43 (ptrTo d.n) 1) λb=>W.ai (ah TE l 39 b) λb=>W.aP (aw TE l .len [39] [b]) λb _=>W.ai (af TE 43 (ptrTo d.n) 2) λd=>W.ai (ah TE l 40 d) λd=>W.ai (aJ TE 75 [(0,b),(1,d)]) λb=>W.bh (.func 17) [b,o] l λb d h=>W.ai (cZ .not b) λb=>a [b] d (min (min (min (min (min (min (min (min m.n c) f) g) i) k) j) n) h))))))) (λb c f=>W.un b λb _=>aR b (R [aeS] c f) (W.ai (af TE 43 (ptrTo d.n) 0) λb=>W.ai (ah TE c 38 b) λb=>W.ai (af TE 43 (ptrTo d.n) 1) λg=>W.ai (ah TE c 39 g) λg=>W.ai (af TE 55 (ptrTo h.n) 0) λi=>W.ai (ah TE c 3 i) λi=>W.ai (an TE 39 g i) λg=>W.ai (ah TE c 62 g) λg=>W.bh (.func 18) [b,g] c λb c g=>W.ai (bz b 0) λi=>W.ai (bz b 1) λb=>W.jn (λa=>W.ai (az TE .neq 46 b (.int .i64 0)) λb=>aR b (a [aeR] c (min f g)) (W.ai (af TE 55 (ptrTo h.n) 1) λb=>W.ai (ah TE c 53 b) λb=>W.bh (.func 10) [i,b] c λb c i=>W.ai (cZ .not b) λb=>aR b (a [aeR] c (min (min f g) i)) (W.ai (af TE 43 (ptrTo d.n) 3) λb=>W.ai (ah TE c 41 b) λb=>W.ai (af TE 55 (ptrTo h.n) 2) λj=>W.ai (ah TE c 3 j) λj=>W.ai (an TE 41 b j) λb=>W.ai (af TE 79 b 1) λb=>W.ai (ah TE c 35 b) λb=>W.ai (af TE 55 (ptrTo h.n) 1) λj=>W.ai (ah TE c 53 j) λj=>W.bh (.func 10) [b,j] c λb c j=>W.ai (cZ .not b) λb=>aR b (a [aeR] c (min (min (min f g) i) j)) (W.ai (af TE 43 (ptrTo d.n) 0) λb=>W.ai (af TE 38 b 2) λb=>W.ai (ah TE c 35 b) λb=>W.ai (af TE 55 (ptrTo h.n) 1) λd=>W.ai (ah TE c 53 d) λd=>W.bh (.func 10) [b,d] c λb c d=>a [b] c (min (min (min (min f g) i) j) d))))) (λb c f=>W.un b λb _=>aR b (R [aeS] c f) (W.Lp (λb c f g=>W.un c λc i=>W.un i λi _=>W.jn (λa=>W.aP (aw TE f .len [26] [o]) λb _=>W.ai (az TE .lss 3 i b) λb=>aR b (W.ai (an TE 26 o i) λb=>W.ai (ah TE f 3 b) λb=>W.ai (af TE 55 (ptrTo h.n) 0) λc=>W.ai (ah TE f 3 c) λc=>W.ai (az TE .neq 3 b c) λb=>a [b] f g) (a [aeS] f g)) (λf g j=>W.un f λf _=>aR f (W.ai (af TE 43 (ptrTo d.n) 1) λa=>W.ai (ah TE g 39 a) λa=>W.ai (an TE 26 o i) λd=>W.ai (ah TE g 3 d) λd=>W.ai (an TE 39 a d) λa=>W.ai (ah TE g 62 a) λa=>W.bE (M.push g (.cells [.int .i64 0,.int .i64 0,.int .i64 0,.int .i64 0,aeQ,.int .i64 0,.int .i64 0,.int .i64 0,.int .i64 0,.int .i64 0,.int .i64 0] 62 none)) λd=>W.aP (aD TE d 62 (ptrTo g.n) a) λa d=>W.jn (λb=>W.ai (af TE 62 (ptrTo g.n) 0) λc=>W.ai (ah TE a 3 c) λc=>W.ai (az TE .eql 3 c (.int .i64 8)) λc=>aR c (W.ai (af TE 62 (ptrTo g.n) 2) λc=>W.ai (ah TE a 3 c) λc=>W.ai (af TE 55 (ptrTo h.n) 1) λf=>W.ai (af TE 53 f 0) λf=>W.ai (ah TE a 3 f) λf=>W.ai (az TE .eql 3 c f) λc=>aR c (W.ai (af TE 62 (ptrTo g.n) 4) λc=>W.ai (ah TE a 3 c) λc=>W.ai (af TE 55 (ptrTo h.n) 1) λf=>W.ai (af TE 53 f 1) λf=>W.ai (ah TE a 3 f) λf=>W.ai (az TE .eql 3 c f) λc=>b [c] a (min j d)) (b [aeS] a (min j d))) (b [aeS] a (min j d))) (λa d f=>W.un a λa _=>aR a (R [aeS] d f) (W.ai (az TE .add 3 i (.int .i64 1)) λa=>b [c,a] d f))) (R [a] g j))) [aeS,.int .i64 0] c f))))))):=by kernel_rfl
end
end
section
variable {X:aK} {m:M}
theorem IQ{n1:Nat}{l:List Int}{v:aeM}(h:Ap n1 m l v)(hn:n1<=m.n)(hl:l.length < 100000)(x:Int):
  ∃m1 H m2,aG TE m 26 1 [(0,aeP x)]=some (aeL m.n 0 1 1,m1)/\aw TE (M.wl m1 (M.n m1)) .append [26,26] [v,aeL m.n 0 1 1]=some (H,m2)/\Ap n1 m2 (l++ [x]) H/\m.n<=m2.n/\n1<=m2.low/\(∀c,c < n1->m2.get c=m.get c)/\(∀c,c < m.n->(∀ad n k,v=.slice (some ad) n k->c≠ad.block)->m2.get c=m.get c)/\∀ad n k,H=.slice (some ad) n k->m.n<=ad.block:=by
 obtain⟨m1,hm⟩:∃q,q=m.push (.cells [.int .i64 x] 3 none):=⟨_,rfl⟩
 have x1:Ext m m1:=hm ▸ Ext.refl.push;have g1:m1.get m.n=.cells [.int .i64 x] 3 none:=by rw[hm];exact M.aU
 have b0:=x1.n
 have h1:Ap n1 m1 l v:=by
  rcases h with h |⟨b,cs,te,e,h2,h3⟩;·exact .inl (h.aF x1)
  exact .inr ⟨b,cs,te,e,x1.cells h2,h3.aF x1⟩
 obtain⟨H,m2,e1,w1,n2,l2,k2⟩:=h1.append zE rfl (iD (x:=x) g1 rfl) (by simp) (by omega) (by grind)
 have a0:∃k,H=aeL m1.n 0 k k:=by
  rcases h with h |⟨b,cs,te,rfl,h2,h3⟩
  ·rcases h with⟨rfl,_⟩ |⟨b,d0,rfl,_⟩;·exact⟨_,iU e1 rfl (by simp)⟩
   exact⟨_,iU e1 rfl (by simp)⟩
  exact⟨_,iU e1 rfl (by simp)⟩
 have⟨kk,a0⟩:=a0;refine⟨m1,H,m2,hm ▸ yE,e1,.inl w1,by omega,l2,λc hc=>by rw[k2 c hc,x1.get c (by omega)],λc hc h=>by rw[fx e1 (by omega) h,x1.get c hc],by grind⟩
theorem BM{l:List Int}{v:aeM}(h:Sl m l v){H:Addr}{n k:Nat}(e:v=.slice (some H) n k):H.block < m.n:=by
 subst e;rcases h with⟨h,_⟩ |⟨b,o,c,bc,g,h,h2,_⟩;·cases h
 cases h;exact M.bk h2
theorem Nc{l:List Int}{v:aeM}{m':M}(h:Sl m l v)(hk:∀H n k,v=.slice (some H) n k->m'.get H.block=m.get H.block):Sl m' l v:=by
 rcases h with h |⟨b,o,c,bc,g,rfl,h2,h3,h4⟩;·exact .inl h
 exact .inr ⟨b,o,c,bc,g,rfl,(hk _ _ _ rfl).trans h2,h3,h4⟩
theorem Ap.S4{n1:Nat}{l:List Int}{v:aeM}{m':M}(h:Ap n1 m l v)(hk:∀H n k,v=.slice (some H) n k->m'.get H.block=m.get H.block):Ap n1 m' l v:=by
 rcases h with h |⟨b,cs,te,e,h2,h3⟩
 ·rcases h with h |⟨b,cs,rfl,h1,h2,h3,h4,h5⟩;·exact .inl (.inl h)
  exact .inl (.inr ⟨b,cs,rfl,h1,h2,(hk _ _ _ rfl).trans h3,h4,h5⟩)
 exact .inr ⟨b,cs,te,e,(hk _ _ _ e).trans h2,Nc h3 hk⟩
theorem AZ{α:Type}(p:α->Bool){l:List α}{i:Nat}{x:α}(h:l[i]?=some x):(l.take (i+1)).filter p=(l.take i).filter p++if p x=true then [x]else []:=by
 rw[abt,h,abK]
 grind
theorem Cx{a b:List Nat}:ri (a++b)=ri a++ri b:=abM
theorem pF{p:Nat->Bool}{l:List Nat}:(ri (l.filter p)).length<=l.length:=by grind
set_option maxHeartbeats 1000000 in
theorem ED(hX:cC X){s:qP}{r r2 st rc mo tv pv qv:aeM}(hS:Lt s)(hV:wY m s r r2 st rc mo tv pv qv){k:Nat}(hk:k < s.ts.length):
  ∃w m',C X (.func 16) [zM r r2 st rc mo tv pv qv,.int .i64 k] m m.n (.tuple #[w,.int .i64 0]) m'/\Ext m m'/\Sl m' (ri (oQ (np s) (iJ s.ts.length (np s) s.ts.length []) k)) w:=by
 have hO:=Cd hS;have I1:=hS.tl;have key:=Cl.iX (E:=TE) (X:=X) (f:=16) (args:=[zM r r2 st rc mo tv pv qv,.int .i64 k]) (m:=m) (R:=λrv m' b=>b=m.n/\∃w,rv=.tuple #[w,.int .i64 0]/\Ext m m'/\Sl m' (ri (oQ (np s) (iJ s.ts.length (np s) s.ts.length []) k)) w) (hX.no _ rfl) (aa3 func16) rfl ?_
 ·obtain⟨rv,m',b,hc,rfl,w,rfl,h⟩:=key;exact⟨w,m',hc,h⟩
 have O0:np s=qN s.ts.length s.ps:=rfl;obtain⟨Q0,hlen⟩:=yK (n:=s.ts.length) (t:=qN s.ts.length s.ps) (zo hO).tr (Bm hO) s.ts.length [] .nil (by simp);rw[O0]
 have H:∀R:aeN->M->Nat->Prop,(∀(w:aeM) (m':M) (lo:Nat),m.n<=lo->Ext m m'->Sl m' (ri (oQ (qN s.ts.length s.ps) (iJ s.ts.length (qN s.ts.length s.ps) s.ts.length []) k)) w->R [w,.int .i64 0] m' lo)->dE TE (aL TE X) f16 [zM r r2 st rc mo tv pv qv,.int .i64 k] m R:=by
  intro R hR;rw[F16];dsimp only[δ,ε,ζ,η,ι,κ,ν,ξ,ο,ρ,ς,υ,φ,χ,ψ,ω];refine av λm1 J1 c1 d1=>?_;have x1:Ext m m1:=⟨by omega,d1⟩
  have g1:m1.get m.n=.cells (scc r r2 st rc mo tv pv qv) 43 none:=c1;have i0:=hV.aF x1;unfold ptrTo;refine aW (λvs mm lo=>vs=[aeS]/\m1=mm/\m.n<=lo) (λQ hQ=>?_) ?_
  ·rw[(qS g1).2.2.2.2,ae]
   refine aE (Bd hX hS i0) ?_
   rw[bj,ae,aj]
   show iW false _ _
   obtain⟨l,hl,hs, -⟩:=i0.ts
   have K1:l.length=s.ts.length:=by grind
   rw[aO,eV,ae,(qS g1).2.1,ae,hs.len jR,aA,dD,ae,wrap64 (by omega) (by omega)]
   refine aE (tV hX) ?_
   rw[show cQ (k:Int) 0 ((l.length:Int)-1)=true by unfold cQ;rw[abl (by omega),abl (by omega)];rfl,bj,ae]
   grind
  rintro _ _ lo ⟨rfl,rfl,C0⟩;rw[aB,aj,aO,(qS g1).2.2.2.2,ae];have⟨m23,h1,v0⟩:=rL (m:=m1) hX i0;refine aE h1 ?_;have n23:=v0.n;have i1:=i0.ps.one;refine av λL1 E1 q0 D0=>?_;refine aC Mc q0 rfl rfl (by show(true && (one pv && true))=true;rw[i1];rfl) λo0 F1 s0 E0=>?_;have F0:o0.get m23.n=.cells [.int .i64 (s.ts.length:Int),pv] 75 none:=s0;have G0:Ext m23 o0:=⟨by omega,by grind⟩
  have G1:m23.n < o0.n:=by omega
  clear q0 D0 s0 E0;rw[(AF F0).2.2,ae];have u0:=i0.ps.aF (v0.trans G0);have⟨lv,a0,j1,p0,H0⟩:=NS (m:=o0) hX hO u0;refine aE j1 ?_;have n30:=p0.n;have k1:=p0.cells F0;have I0:=u0.aF p0;have t1:=(zo hO)
  generalize hT:qN s.ts.length s.ps=T at*;generalize iJ s.ts.length T s.ts.length []=L at*;rw[aH,aH];simp only[aa8,aa7,ae];rw[show aG TE a0 26 0 []=some (.slice (some ⟨a0.n,0,none⟩) 0 0,a0.push (.cells [] 3 none)) by kernel_rfl,aA];obtain⟨b0,g0⟩:∃q,q=a0.push (.cells [] 3 none):=⟨_,rfl⟩
  rw[<-g0];have l1:Ext a0 b0:=g0 ▸ Ext.refl.push;have o1:b0.get a0.n=.cells [] 3 none:=by rw[g0];exact M.aU
  have n35:b0.n=a0.n+1:=by rw[g0];rfl
  rw[yE (x:=(k:Int)),aA];obtain⟨j0,h0⟩:∃q,q=b0.push (.cells [.int .i64 (k:Int)] 3 none):=⟨_,rfl⟩
  rw[<-h0];have J0:Ext b0 j0:=h0 ▸ Ext.refl.push;have K0:j0.get b0.n=.cells [.int .i64 (k:Int)] 3 none:=by rw[h0];exact M.aU
  have n37:j0.n=b0.n+1:=by rw[h0];rfl
  have e0:=l1.trans J0;have p1:(ri L).length=s.ts.length:=by grind
  rw[(H0.aF e0).len dV,p1,aA];have f0:Ap a0.n j0 ([]:List Int) (.slice (some ⟨a0.n,0,none⟩) 0 0):=Ap.Xc (g:=none) (J0.cells o1);have r0:Ap a0.n j0 [(k:Int)] (.slice (some ⟨b0.n,0,none⟩) 1 1):=.inr ⟨b0.n,_,_,rfl,K0,iD K0 rfl⟩
  refine Lp.intro (γ:=Nat) (λi=>s.ts.length-i) (λi vs mm lo=>∃fv rv,vs=[fv,rv,.int .i64 i]/\i<=s.ts.length/\m.n<=lo/\(∀c,c < a0.n->mm.get c=a0.get c)/\a0.n<=mm.n/\Ap a0.n mm (ri (wH T (L.take i) k)) fv/\Ap a0.n mm ((k:Int)::ri (xU T (L.take i) k)) rv/\∀ad n c d0 n' c',fv=.slice (some ad) n c->rv=.slice (some d0) n' c'->ad.block≠d0.block) 0
   ⟨_,_,rfl,abh _,by omega,λc hc=>e0.get c hc,e0.n,f0,r0,by grind⟩ ?_
  rintro i vs mm fS ⟨fv,rv,rfl,hi,H1,y0,k0,hf,hr,z0⟩;have xm:Ext a0 mm:=⟨k0,y0⟩
  rw[aB,aB,aB,aM,ae,aj];have L0:(ri (wH T (L.take i) k)).length<=8:=acb pF (by grind);have N0:(ri (xU T (L.take i) k)).length<=8:=acb pF (by grind);refine ak (λc=>?_) (λc=>?_)
  ·have N1:i < s.ts.length:=by grind
   obtain⟨x,hx⟩:∃x,L[i]?=some x:=⟨_,aa5 (by omega)⟩
   have r1:=Q0.lt x (abb hx);refine aW (λvs m' lo=>∃fv rv,vs=[fv,rv]/\m.n<=lo/\(∀c,c < a0.n->m'.get c=a0.get c)/\a0.n<=m'.n/\Ap a0.n m' (ri (wH T (L.take (i+1)) k)) fv/\Ap a0.n m' ((k:Int)::ri (xU T (L.take (i+1)) k)) rv/\∀ad n c d0 n' c',fv=.slice (some ad) n c->rv=.slice (some d0) n' c'->ad.block≠d0.block) (λQ hQ=>?_) ?_
   ·have u1:(ri L)[i]?=some (x:Int):=by grind
    have⟨p,cs,e1,e2,e3⟩:=(H0.aF xm).index dV (k:=.i64) u1;obtain rfl:cs=[.int .i64 (x:Int)]:=e3;have e2:ah TE mm 3 p=some (.int .i64 (x:Int)):=e2;rw[e1,ae,e2,ae,(AF (xm.cells k1)).2.2,ae];refine aE (yF hX hO (I0.aF xm) r1 hk) ?_;rw[hT,aj];unfold wH xU at hQ;unfold wH at hf L0;unfold xU at hr N0;rw[AZ _ hx,AZ _ hx]at hQ;refine ak (λhb=>?_) (λhb=>?_)
    ·rw[hb]at hQ;simp only[acU,ab7,acS,ac5,if_false,abJ]at hQ;obtain⟨v1,r',w1,b1,b2,w2,n2,l2,k2,A0,l0⟩:=IQ hf k0 (by omega) (x:Int);rw[b1,aA,b2,aA];refine hQ _ _ _ ⟨r',rv,rfl,by omega,by grind,by omega,?_,hr.S4 λad n c e=>A0 _ (BM hr.sl e) λd0 n' c' e'=>(z0 _ _ _ _ _ _ e' e).symm,λad n c d0 n' c' e e'=>?_⟩;·rw[Cx];exact w2
     have:=l0 _ _ _ e;have:=BM hr.sl e';omega
    rw[hb]at hQ;simp only[ac5,if_false,abJ,acx,abG]at hQ;rw[bR,ae,aj];refine ak (λn0=>?_) (λn0=>?_)
    ·have B0:x≠k:=by intro e;rw[e,abl rfl]at n0;cases n0
     rw[abk B0]at hQ;simp only[acx,acU]at hQ;obtain⟨v1,r',w1,b1,b2,w2,n2,l2,k2,A0,l0⟩:=IQ hr k0 (by grind) (x:Int);rw[b1,aA,b2,aA];refine hQ _ _ _ ⟨fv,r',rfl,by omega,by grind,by omega,hf.S4 λad n c e=>A0 _ (BM hf.sl e) λd0 n' c' e'=>z0 _ _ _ _ _ _ e e',?_,λad n c d0 n' c' e e'=>?_⟩;·rw[Cx];exact w2
     have:=l0 _ _ _ e';have:=BM hf.sl e;omega
    have B0:x=k:=by rw[abu]at n0;have:=aba n0;omega
    rw[abl B0]at hQ;simp only[ab7,ac5,if_false,abJ]at hQ;exact hQ _ _ _ ⟨fv,rv,rfl,by omega,y0,k0,hf,hr,z0⟩
   rintro _ m' O1 ⟨y1,z1,rfl,a1,a2,a3,a4,a5,a6⟩;rw[aB,aB,aQ,ae,wrap64 (by omega) (by omega)];exact⟨i+1,by omega,y1,z1,rfl,by omega,a1,a2,a3,a4,a5,a6⟩
  obtain rfl:i=s.ts.length:=by
   grind
  rw[aby (by omega)]at hf hr L0 N0;obtain⟨w,A1,B1,C1,P1,T1,D1⟩:=hf.append zE rfl hr.sl (by simp) k0 (by grind);rw[B1,aA];refine hR w A1 _ (by omega) ⟨by grind,λc hc=>by rw[D1 c (by omega),y0 c (by omega),p0.get c (by omega),G0.get c (by omega),v0.get c (by omega),x1.get c hc]⟩ ?_;have:ri (oQ T L k)=ri (wH T L k)++(k:Int)::ri (xU T L k):=by unfold oQ;rw[Cx];rfl
  rw[this];exact C1.sl
 refine H _ λw m' lo C0 hx hs=>?_;show(bB (.tuple #[w,.int .i64 0])=true/\m.n<=lo/\(m.n=m.n/\∃w',(.tuple #[w,.int .i64 0]:aeM)=.tuple #[w',.int .i64 0]/\Ext m m/\Sl m _ w'))\/((bB (.tuple #[w,.int .i64 0])=false\/lo < m.n)/\(min m.n lo=m.n/\∃w',(.tuple #[w,.int .i64 0]:aeM)=.tuple #[w',.int .i64 0]/\Ext m m'/\Sl m' _ w'));rcases hs with⟨rfl,e⟩ |⟨b,o,c,bc,g,rfl,hr⟩;·exact .inl ⟨rfl,C0,rfl,_,rfl,.refl,by rw[e];exact .nil⟩
 exact .inr ⟨.inl rfl,by omega,_,rfl,hx,.inr ⟨b,o,c,bc,g,rfl,hr⟩⟩
theorem mC(hX:cC X){l:List Fc}{v:aeM}(h:Sl m l v)(hl:l.length < 1000000)(f:Fc):C X (.func 36) [v,f.v] m m.n (.bool (decide (f∈l))) m:=by
 have e0:∀{m:M},Sl m l v->C X (.func 83) [v,f.v] m m.n (aeP (idx (λx:Fc=>decide (f=x)) l)) m:=λ{m} h=>by
  refine Cl.cd (hX.no _ rfl) (aa3 func83) rfl rfl ?_;rw[F83];dsimp only[δ,ζ,η,κ,ρ,υ,φ];refine av λm1 g0 H a0=>?_;have g1:m1.get m.n=.cells f.c 53 none:=H;have h1:=h.aF (m':=m1) ⟨by omega,a0⟩;unfold ptrTo;rw[h1.len gH,aA];refine Lp.intro (γ:=Nat) (λi=>l.length-i) (λi vs mm lo=>∃z,vs=[z,aeP i]/\i<=l.length/\m1=mm/\m.n<=lo/\∀j x,j < i->l[j]?=some x->decide (f=x)=false) 0 ⟨_,rfl,abh _,rfl,aa4 _,λj x hj=>by omega⟩ ?_;rintro i vs _ lo ⟨z,rfl,hi,rfl,b0,d0⟩;rw[aB,aB,aM,ae,aj];refine ak (λc=>?_) (λc=>?_)
  ·have h0:i < l.length:=by grind
   obtain⟨x,hx⟩:∃x,l[i]?=some x:=⟨_,aa5 h0⟩
   have⟨p,e1,e2⟩:=tQ h1 hx;rw[(tP g1).2.2,ae,e1,ae,e2,ae,PE,ae,aj];refine ak (λd=>⟨by rw[Cz (i:=i) hx d d0];rfl,b0⟩) (λd=>?_);rw[aQ,ae,wrap64 (by omega) (by omega)];refine⟨i+1,by omega,z,rfl,by omega,rfl,b0,λj y hj hy=>?_⟩;by_cases e:j=i;·subst e;rw[hx]at hy;cases hy;exact d
   exact d0 j y (by omega) hy
  have i0:i=l.length:=by have:¬(i:Int)< (l.length:Int):=aa6 c;omega
  subst i0;refine⟨?_,b0⟩;rw[tI λx hx=>by have⟨j,hj⟩:=abx hx;exact d0 j x (aa9.1 hj).1 hj];rfl
 refine Cl.cd (hX.no _ rfl) (aa3 func36) rfl rfl ?_
 rw[F36];dsimp only[δ,η,ρ,υ,φ,χ]
 refine av λm1 g0 H a0=>?_
 have g1:m1.get m.n=.cells f.c 53 none:=H
 unfold ptrTo
 rw[(tP g1).2.2,ae]
 refine aE (e0 (h.aF ⟨by omega,a0⟩)) ?_
 rw[cB,ae,il]
 refine⟨?_,by omega⟩
 show Value.bool (l.any λx=>decide (f=x))=_
 congr 1
 rw[adv,acA,abv]
 constructor
 ·rintro⟨x,hx,e⟩;rw[aba e];exact hx
 ·exact λh=>⟨f,h,abl rfl⟩
theorem YU{b:Nat}{p:Pl}{g:Option Nat}(h:m.get b=.cells p.c 141 g):ah TE m 3 (aeK b (0+0))=some (aeP p.x)/\ah TE m 3 (aeK b (0+1))=some (aeP p.y):=by
 refine⟨?_,?_⟩;·rw[bI,aI h];rfl
 rw[bI,aI h];rfl
theorem T4(hX:cC X){a b p:Pl}{ba bb:Nat}(ga:m.get ba=.cells a.c 141 none)(gb:m.get bb=.cells b.c 141 none):C X (.func 150) [p.v,aeK bb 0,aeK ba 0] m m.n (.bool (NP a b p)) m:=by
 refine Cl.cd (hX.no _ rfl) (aa3 func150) rfl rfl ?_;rw[aai];dsimp only[aL,aaO,aaP,aaR,aaY,aa0];refine av λm1 e0 H d0=>?_;have x1:Ext m m1:=⟨by omega,d0⟩
 have gp:m1.get m.n=.cells p.c 141 none:=H;have⟨a0,a1⟩:=YU (x1.cells ga);have⟨b0,b1⟩:=YU (x1.cells gb);have⟨p0,p1⟩:=YU gp;unfold ptrTo;simp only[bY,cO,ae,a0,a1,b0,b1,p0,p1,dD,gE,bR];exact⟨rfl,aa4 _⟩
theorem smf{b:Nat}{p q:Pl}{g:Option Nat}(h:m.get b=.cells (jB p q) 143 g):ah TE m 141 (aeK b (0+0))=some p.v/\ah TE m 141 (aeK b (0+2))=some q.v:=by
 refine⟨?_,?_⟩;·rw[lh,aN (n:=2) h (by grind)];rfl
 rw[lh,aN (n:=2) h (by grind)];rfl
theorem EF(hX:cC X){u:Un}{w:aeM}(hw:Sl m u.shape w)(hl:u.shape.length < 1000000)(p q:Pl):C X (.func 87) [u.v w,.agg (jB p q).toArray] m m.n (Au u p q).v m:=by
 refine Cl.cd (hX.no _ rfl) (aa3 func87) rfl rfl ?_;rw[F87];dsimp only[δ,ε,ζ,η,θ,ι,κ,ο,ρ,ς,υ,φ,χ,Γ,ω];refine av λm1 c1 n0 H0=>?_;refine av λm2 d1 o0 p0=>?_;refine av λm3 h1 q0 h0=>?_;have r0:Ext m m3:=⟨by omega,by grind⟩
 have g1:m3.get m.n=.cells (u.c w) 60 none:=by rw[h0 _ (by omega),p0 _ (by omega)];exact n0
 have g2:m3.get m1.n=.cells (jB p q) 143 none:=by rw[h0 _ (by omega)];exact o0
 have g3:m3.get m2.n=.cells (Fc.c ⟨0,0⟩) 53 none:=q0;have hn:m.n < m1.n/\m1.n < m2.n/\m2.n < m3.n:=by omega
 clear n0 H0 o0 p0 q0 h0;unfold ptrTo;simp only[bs,bH,wT,wS,ae];rw[(kU g1).2.2.2.1,ae,(hw.aF r0).len cx,aA];obtain⟨ok,s0⟩:∃f:Nat->Bool,f=λi=> !NP (gA u.shape i) (LC u.shape i) p && !NP (gA u.shape i) (LC u.shape i) q:=⟨_,rfl⟩
 have b0:Au u p q=match(List.range u.shape.length).find? ok with |some i=>⟨u.id,i⟩ |none=>⟨u.id,0⟩:=by rw[s0];rfl
 refine Lp.intro (γ:=Nat) (λi=>u.shape.length-i) (λi vs mm lo=>vs=[aeP i]/\i<=u.shape.length/\m.n<=lo/\Ext m3 mm/\∀j,j < i->ok j=false) 0 ⟨rfl,abh _,aa4 _,.refl,λj hj=>by omega⟩ ?_;rintro i vs mm lo ⟨rfl,hi,i1,a0,u0⟩;have v0:=hw.aF (r0.trans a0);have nm:=a0.n;rw[aB,aM,ae,aj];refine ak (λc=>?_) (λc=>?_)
 ·have y0:i < u.shape.length:=by grind
  have⟨pa,e1,e2⟩:=v0.dZ (k:=.i64) (IN y0);rw[e1,ae,e2,ae];refine av λm16 I0 z0 J0=>?_;refine aC dh z0 rfl rfl rfl λm17 K0 A0 L0=>?_;have ga:m17.get mm.n=.cells (gA u.shape i).c 141 none:=A0;have i0:Ext mm m17:=⟨by omega,by grind⟩
  have N0:mm.n < m17.n:=by omega
  have g0:=v0.aF i0;have⟨pb,e3,e4⟩:=g0.dZ (k:=.i64) (Re y0);rw[(kU (i0.cells (a0.cells g1))).2.2.2.1,ae,aQ,ae,wrap64 (by omega) (by omega),ae,g0.len cx,aA,show(i:Int)+1=((i+1:Nat):Int) by omega,sR (by omega),ae,e3,ae,e4,ae];refine av λj1 O0 B0 Q0=>?_;refine aC dh B0 rfl rfl rfl λe0 a1 C0 b1=>?_;have gb:e0.get m17.n=.cells (LC u.shape i).c 141 none:=C0;have j0:Ext m17 e0:=⟨by omega,λc hc=>by grind⟩
  have H:=a0.trans (i0.trans j0);have n29:=j0.n;have D0:=λz=>T4 (m:=e0) (p:=z) hX (j0.cells ga) gb;refine aW (λvs ma lo=>vs=[.bool (ok i)]/\e0=ma/\m.n<=lo) (λQ hQ=>?_) ?_
  ·rw[(smf (H.cells g2)).1,ae];refine aE (D0 p) ?_;rw[s0]at hQ;rw[bj,ae,aj];refine ak (λd=>?_) (λd=>hQ _ _ _ ⟨by grind,rfl,by omega⟩);rw[(smf (H.cells g2)).2,ae];refine aE (D0 q) ?_;rw[bj,ae];exact hQ _ _ _ ⟨by grind,rfl,by omega⟩
  rintro _ _ fS ⟨rfl,rfl,E0⟩;rw[aB,aj];refine ak (λd=>?_) (λd=>?_)
  ·rw[(kU (H.cells g1)).1,ae,zy,ae];refine aC sA (H.cells g3) rfl rfl rfl λk0 F0 d0 G0=>?_;have l0:k0.get m2.n=.cells (Fc.c ⟨u.id,i⟩) 53 none:=d0;rw[(tP l0).2.2,ae];refine⟨?_,by omega⟩;rw[b0,pJ (l:=List.range u.shape.length) (i:=i) (x:=i) (by grind) d λj y hj hy=>?_];·rfl
   rw[adY (by omega)]at hy;cases hy;exact u0 j hj
  rw[ae];refine⟨i+1,by omega,rfl,by omega,E0,H,λj hj=>?_⟩;by_cases e:j=i;·rw[e];exact d
  exact u0 j (by omega)
 obtain rfl:i=u.shape.length:=by have:¬(i:Int)< (u.shape.length:Int):=aa6 c;omega
 rw[(kU (a0.cells g1)).1,ae,show aJ TE 53 [(0,aeP u.id)]=some (Fc.v ⟨u.id,0⟩)from GM rfl,ae];refine aC sA (a0.cells g3) rfl rfl rfl λk0 F0 d0 G0=>?_;have l0:k0.get m2.n=.cells (Fc.c ⟨u.id,0⟩) 53 none:=d0;rw[(tP l0).2.2,ae];refine⟨?_,by omega⟩;rw[b0,adA.2 λj hj=>by grind];rfl
structure zG(X:aK)(sf:List Fc->List Fc):Prop extends Sq X where
 perm:∀l,(sf l).Perm l
 fc:∀(m:M) (n1:Nat) (l:List Fc) (v:aeM),n1<=m.n->Ow n1 m l v->l.length<=1000->∃m' b,C X (.func 33) [v,.func (.func 34) #[] #[]] m b (.tuple #[]) m'/\Ow n1 m' (sf l) v/\n1<=b/\m'.n=m.n/\∀c,(∀a n k,v=.slice (some a) n k->c≠a.block)->m'.get c=m.get c
theorem SQ{n1:Nat}{l:List Fc}{v:aeM}(h:Ow n1 m l v){c:Nat}(H:c < n1):∀a n k,v=.slice (some a) n k->c≠a.block:=by
 intro a n k e;rcases h with⟨rfl,_⟩ |⟨b,cs,rfl,_,h3,_⟩;·cases e
 ·grind
theorem zd{u:Un}(h:jO u):(nT u).length<=10:=by
 have:=jt h
 unfold nT
 grind
theorem Ts{x y:Fc}:aG TE m 35 2 [(0,x.v),(1,y.v)]=some (.slice (some ⟨m.n,0,none⟩) 2 2,m.push (.cells (x.c++y.c) 53 none)):=by kernel_rfl
theorem TC{x y:Fc}{b:Nat}{g:Option Nat}(h:m.get b=.cells (x.c++y.c) 53 g):Sl m [x,y] (aeL b 0 2 2):=
 .inr ⟨b,0,2,_,g,rfl,h,aa4 _,λi z hi=>by
  match i with
  |0=>cases hi;rfl
  |1=>cases hi;rfl
  |i+2=>simp at hi⟩
theorem Iz{b:Nat}{x:Ct}{g:Option Nat}(h:m.get b=.cells x.c' 145 g):ah TE m 143 (aeK b (0+2))=some (.agg (jB x.p x.q).toArray):=by rw[mY,aN (n:=4) h (by simp_all)];rfl
set_option maxHeartbeats 1000000 in
theorem tW(hX:cC X){sf:List Fc->List Fc}(hS:zG X sf){y:Yd}{r r2 st rc mo:aeM}{t:Tk}{w:aeM}(hV:oO m y r r2 st rc mo)(hP:rz y)(hw:one w=true):
  ∃v m',C X (.func 37) [yv r r2 st rc mo,t.v w] m m.n v m'/\Ext m m'/\Sl m' (mg sf y.us t) v/\∀a n k,v=.slice (some a) n k->m.n<=a.block:=by
 have key:=Cl.iX (E:=TE) (X:=X) (f:=37) (args:=[yv r r2 st rc mo,t.v w]) (m:=m) (R:=λrv m' b=>b=m.n/\Ext m m'/\Sl m' (mg sf y.us t) rv/\∀a n k,rv=.slice (some a) n k->m.n<=a.block) (hX.no _ rfl) (aa3 func37) rfl ?_
 ·obtain⟨rv,m',b,hc,rfl,h⟩:=key;exact⟨rv,m',hc,h⟩
 have F0:=hV.fB;obtain⟨⟨l,j0,hF⟩, -⟩:=hV;have G0:cn (bP l):=by rw[j0];exact hP.tR
 have L1:l.length<=12:=by have:=hP.tR.len;rwa[<-j0,cS]at this
 have H:∀R:aeN->M->Nat->Prop,(∀(l:List Fc) (v:aeM) (m':M) (lo:Nat),m.n<=lo->Ext m m'->Sl m' l v->mg sf y.us t=l->(∀a n k,v=.slice (some a) n k->m.n<=a.block)->R [v] m' lo)->dE TE (aL TE X) f37 [yv r r2 st rc mo,t.v w] m R:=by
  intro R hR;rw[F37];dsimp only[δ,ε,η,θ,ι,ν,ξ,ο,ρ,ς,υ,φ,χ,Γ,Δ,Θ,ψ];refine av λm1 y2 H0 A1=>?_;refine av λm2 z2 I0 J0=>?_;have K0:Ext m m2:=⟨by omega,by grind⟩
  have g1:m2.get m.n=.cells (yc r r2 st rc mo) 38 none:=by rw[J0 _ (by omega)];exact H0
  have g2:m2.get m1.n=.cells (t.c w) 62 none:=I0;clear H0 A1 I0 J0;unfold ptrTo;simp only[cz,ck,cG,cF,wP,ae];rw[(fF g1).2.2.2.2,ae,(oK g2).2.1,ae];obtain⟨rv,m7,c7,x7,f7⟩:=zh (m:=m2) hX (hF.aF K0) (by omega) F0 t.id;refine aE c7 ?_;obtain⟨u,wu,b,rfl,fu⟩:=f7.S9 G0;have n7:=x7.n;rw[aH,aH];simp only[aa8,aa7,ae];refine av λm11 N1 n0 L0=>?_;refine aC du n0 rfl rfl (Un.cR fu.sl.one) λm12 O1 o0 N0=>?_;have gu:m12.get m7.n=.cells (u.c wu) 60 none:=o0;have p0:Ext m7 m12:=⟨by omega,by grind⟩
  have A0:=x7.trans p0;have P1:m7.n < m12.n:=by omega
  have b0:=K0.trans A0;have d0:=fu.aF p0;rw[j0]at d0;clear n0 L0 o0 N0;rw[bj,ae,aj];refine ak (λc=>?_) (λc=>?_)
  ·rw[abz]at c;subst c;exact hR [] _ _ _ (by omega) b0 .nil (by unfold mg;rw[d0.eq];rfl) (λa n k e=>by cases e)
  rw[abu]at c;subst c;have O0:cj y.us t.id=some u:=d0.eq;have Q0:jO u=true:=hP.tR.val u (gd O0).1;have A2:=zd Q0;have T1:=jt Q0;obtain⟨D,hD⟩:∃D,D=mg sf y.us t:=⟨_,rfl⟩
  rw[<-hD]at hR;unfold mg at hD;rw[O0]at hD;simp only[]at hD;obtain⟨a0,a1,a2,a3, -⟩:=oK (A0.cells g2);refine aW (λvs mm lo=>vs=[aeQ]/\m.n<=lo/\Ext m mm/\D=[]) (λQ hQ=>?_) ?_
  ·rw[a0,ae,aS,ae,aj];refine ak (λk4=>?_) (λk4=>?_)
   ·rw[abe (aba k4)]at hD;rw[bT gu,ae];have⟨m24,v,B1,B0,b1⟩:=EC (m:=m12) hX d0.sl d0.ln;refine aE B1 ?_;obtain⟨B2,C2,C1,c1,hb,c2,d1⟩:=hS.fc m24 m12.n (nT u) v B0.n b1 (by omega);refine aE C1 ?_;have n24:=B0.n;have n12:=b0.n;exact hR _ _ _ _ (by omega) ⟨by omega,λc hc=>by rw[d1 c (SQ b1 (by omega)),B0.get c (by omega),b0.get c hc]⟩ c1.sl hD (λa n k e=>Nat.le_of_not_lt λh=>SQ c1 (by omega) a n k e rfl)
   rw[abd (aa6 k4)]at hD;rw[aS,ae,aj];refine ak (λk5=>?_) (λk5=>?_)
   ·rw[abe (aba k5)]at hD;rw[a1,ae,a3,ae,zy,ae];refine av λD2 d2 e1 e2=>?_;refine aC sA e1 rfl rfl rfl λC0 i2 i1 j2=>?_;have j1:C0.get m12.n=.cells (Fc.c ⟨t.id,t.side⟩) 53 none:=i1;have k0:Ext m12 C0:=⟨by omega,by grind⟩
    have n36:=k0.n;have n12:=b0.n;rw[bT (k0.cells gu),ae];have⟨E2,v,D1,l0,E1⟩:=EC (m:=C0) hX (d0.sl.aF k0) d0.ln;refine aE D1 ⟨aa4 _,?_⟩;have n40:=l0.n;rw[(tP (l0.cells j1)).2.2,ae];refine aE (mC hX E1.sl (by omega) ⟨t.id,t.side⟩) ?_;rw[aj];have q0:=b0.trans (k0.trans l0);refine ak (λc=>?_) (λc=>?_)
    ·rw[abe (aba c)]at hD;rw[(tP (l0.cells j1)).2.2,ae,BZ (x:=⟨t.id,t.side⟩),aA];exact hR _ _ _ _ (by omega) q0.push (iD (x:=(⟨t.id,t.side⟩:Fc)) M.aU rfl) hD (by grind)
    rw[abd (aa6 c)]at hD;exact hQ _ _ _ ⟨rfl,by omega,q0,hD⟩
   rw[abd (aa6 k5)]at hD;rw[aS,ae,aj];have n12:=b0.n;refine ak (λk9=>?_) (λk9=>hQ _ _ _ ⟨rfl,by omega,b0,by grind⟩);rw[abe (aba k9)]at hD;rw[(fF (A0.cells g1)).2.2.2.2,ae,a2,ae];obtain⟨rv,D0,F1,k1,f54⟩:=zh (m:=m12) hX (hF.aF b0) (by omega) F0 t.other;refine aE F1 ?_;obtain⟨u2,G1,b2,rfl,l1⟩:=f54.S9 G0;have F2:=k1.n;rw[aH,aH];simp only[aa8,aa7,ae];refine av λG2 k2 r0 o1=>?_;refine aC du r0 rfl rfl (Un.cR l1.sl.one) λh0 l2 s0 p1=>?_;have gv:h0.get D0.n=.cells (u2.c G1) 60 none:=s0;have u0:Ext D0 h0:=⟨by omega,by grind⟩
   have i0:=k1.trans u0;have o2:D0.n < h0.n:=by omega
   have e0:=l1.aF u0;rw[j0]at e0;clear r0 o1 s0 p1;rw[bT (i0.cells gu),ae,bT gv,ae];refine aE (IV hX hS.toSq (d0.sl.aF i0) e0.sl (by omega) e0.ln) ?_;rw[aH,aH];simp only[aa8,aa7,ae];refine av λH2 v2 v0 r1=>?_;refine aC oT v0 (by rw[aT];exact eP _) (by rw[aT];exact eP _) (by rw[aT];exact nW _) λE0 w2 y0 u1=>?_;have gc:E0.get h0.n=.cells (Dc (jP u u2)) 145 none:=y0;have g0:Ext h0 E0:=⟨by omega,by grind⟩
   have n69:=g0.n;clear v0 r1 y0 u1;have z0:=b0.trans (i0.trans g0);refine aW (λvs mm lo=>vs=[.bool (b2 && (jP u u2).isSome)]/\E0=mm/\m.n<=lo) (λQ2 v1=>?_) ?_
   ·rw[aj];exact ak (λc=>v1 _ _ _ ⟨by grind,rfl,by omega⟩) (λc=>v1 _ _ _ ⟨by grind,rfl,by omega⟩)
   rintro _ _ fS ⟨rfl,rfl,w1⟩;rw[aB,aj];rw[e0.eq]at hD;refine ak (λc=>?_) (λc=>hQ _ _ _ ⟨rfl,w1,z0,?_⟩)
   ·rw[abc]at c;obtain⟨rfl,c⟩:=c;have⟨ct,H1⟩:=adf.1 c;rw[H1]at gc;have hD:D=[Au u ct.p ct.q,Au u2 ct.p ct.q]:=by grind
    have y1:=g0.cells (i0.cells gu);have z1:=g0.cells gv;rw[bT y1,ae,Iz gc,ae];refine aE (EF hX ((d0.sl.aF i0).aF g0) (by omega) ct.p ct.q) ⟨aa4 _,?_⟩;rw[bT z1,ae,Iz gc,ae];refine aE (EF hX (e0.sl.aF g0) e0.ln ct.p ct.q) ?_;rw[Ts,aA];exact hR _ _ _ _ (by omega) z0.push (TC M.aU) hD (by grind)
   cases b2;·exact hD
   rw[abG]at c
   have I1:jP u u2=none:=by
    cases e:jP u u2 with
    |none=>rfl
    |some x=>rw[e]at c;cases c
   rw[hD,abe rfl];simp only[I1]
  rintro _ mm lo ⟨rfl,h1,h2,h3⟩;rw[aB];exact hR _ _ _ _ h1 h2 .nil h3 (λa n k e=>by cases e)
 refine H _ λl v m' lo J1 hx hs hl K1=>?_;show(bB v=true/\m.n<=lo/\(m.n=m.n/\Ext m m/\Sl m _ v/\_))\/((bB v=false\/lo < m.n)/\(min m.n lo=m.n/\Ext m m'/\Sl m' _ v/\_));rw[hl];rcases hs with⟨rfl,e⟩ |⟨b,o,c,bc,g,rfl,hr⟩;·exact .inl ⟨rfl,J1,rfl,.refl,by rw[e];exact .nil,λa n k e=>by cases e⟩
 exact .inr ⟨.inl rfl,by omega,hx,.inr ⟨b,o,c,bc,g,rfl,hr⟩,K1⟩
end
end Go.Proofs.YtigpcbodmjjaiaaGreatDoor
