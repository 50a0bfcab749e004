/- What is known beforehand of the .. -/
import Derived.Test.YtigpcbodmjjaiaaGreatDoorSeJ
import Derived.Test.YtigpcbodmjjaiaaGreatDoorG18J
set_option maxRecDepth 100000
open Go Go.D Go.Proofs.Tryz
namespace Go.Proofs.YtigpcbodmjjaiaaGreatDoor
section
open Go Go.D Go.Proofs
noncomputable def mP:aK:=λfn args m=>
 match fn with
 |.func f=>
  bif Nat.beq f 6 then
   match args with
   |[]=>bif Nat.blt 0 m.n then some (.bool true,m)else none
   |_=>none
  else none
 |_=>none
theorem Nj:dc Tryz.prog mP:=by
 refine⟨λf args m v m' H σ w args' hs hl=>?_,λl args m v m' H=>by simp[mP]at H,λf args m v m' H=>?_,λa m v m' b H=>by
  have e:mP (.func Dw) [.pointer (some a)] m=none:=rfl
  grind⟩
 ·unfold mP at H
  dsimp only at H
  cases hf:Nat.beq f 6 with
  |false=>rw[hf]at H;simp at H
  |true=>
   obtain rfl:=abn hf
   rw[hf]at H
   simp only[cond_true]at H
   cases args with
   |cons _ _=>cases H
   |nil=>
    dsimp only at H
    cases hn:Nat.blt 0 m.n with
    |false=>rw[hn]at H;cases H
    |true=>
     rw[hn]at H
     simp only[cond_true,abf,abP]at H
     obtain⟨rfl,rfl⟩:=H
     have i0:Tryz.prog.globals.size=1:=by kernel_rfl
     have e0:∀g,g < 1->σ g=some ⟨g,none⟩:=λg hg=>hs.kz g (by grind)
     have dead:∀b,(M.get {st:=.e,n:=1,low:=1} b)=.dead:=λb=>by unfold M.get;cases Nat.blt b 1 <;>rfl
     have g0:eN Tryz.prog (λb=>if b < 1 then some ⟨b,none⟩else none) {st:=.e,n:=1,low:=1} w:=by
      refine⟨λb i hb=>?_,λb i hb=>?_,λb i hb=>?_,λb b' i i' hb j0 hd=>?_,λg hg=>?_⟩
      ·grind
      ·rw[dead];trivial
      ·by_cases h:b < 1
       ·rw[abe h]at hb;cases hb;exact hs.lt b _ (e0 b h)
       ·grind
      ·grind
      ·grind
     have b0:args'= #[]:=by
      have:=hl.nil_eq
      grind
     subst b0
     refine⟨?_,enters_of func6 (by kernel_rfl) rfl _ _⟩
     have⟨nr,d0⟩:=CY.run
     have hc:=tX ag.ok CY.YH d0 g0 (args':= #[]) bK.nil
     refine(callsIn_wide.2 hc).mono λe w' he=>?_
     obtain⟨v',k0,rfl,hv,a0⟩:=he
     have h0:=hv.bM rfl
     subst h0
     refine⟨aeR,σ,rfl,.flat _ rfl,Ev.kept hs (λB hB=>a0.heap B hB λb i hb _=>?_) a0.hle a0.os a0.tape a0.output⟩
     grind
 ·unfold mP at H
  cases f with
  |func f=>
   dsimp only at H;rw[cond_eq_ite]at H;split at H
   ·split at H
    ·rw[cond_eq_ite]at H;split at H;·cases H;exact LK.refl
     cases H
    cases H
   cases H
  |_=>cases H
theorem ym{f:Nat}(h:Nat.beq f 6=false)(args:aeN)(m:M):mP (.func f) args m=none:=by simp only[mP,h,abm]
theorem FA(m:M)(h:0 < m.n):mP (.func 6) [] m=some (aeR,m):=by
 have H:Nat.beq 6 6:=rfl;have hn:Nat.blt 0 m.n:=by simp_all
 simp only[mP,H,hn,cond_true]
noncomputable abbrev XP:aK:=JX mP (JX (oW qR) (oW yd))
theorem YE:dc Tryz.prog XP:=NI Nj (NI (Hr M1 rfl) (Hr M4 rfl))
theorem YF:cC XP:=⟨λf H args m=>by
 simp only[acB]at H
 exact DN (ym H.1.1.1.1.1.2 args m) (DN (BJ H.1.1.1.1.1.1.1.1.1.1.1.2 args m) (BJ H.1.1.1.1.2 args m))⟩
theorem Sp(m:M)(h:0 < m.n):C XP (.func 6) [] m m.n aeR m:=
 Cl.known (λl=>by
  have:=FA (m.wl l) h
  show JX mP _ _ _ _=_
  unfold JX
  grind) (aa4 _) ⟨_,rfl⟩
theorem WI:zG XP (qM (ltOf (jS Fc.un Fc.side))):=by
 refine QP (λ{args m r} h=>?_) (λ{args m r} h=>?_)
 ·show JX mP _ _ _ _=_
  unfold JX
  rw[ym (by kernel_rfl)]
  grind
 ·show JX mP _ _ _ _=_
  unfold JX
  rw[ym (by kernel_rfl)]
  dsimp only
  rw[BJ (by kernel_rfl)]
  grind
end
section
variable {X:aK} {m:M}
theorem CF(hX:cC X){sf:List Fc->List Fc}(hS:zG X sf){y:Yd}{r r2 st rc mo:aeM}{t:Tk}{w:aeM}(hV:oO m y r r2 st rc mo)(hP:rz y)(hw:Sl m t.un.shape w)(e0:t.un.shape.length < 100000)(hf:dS t):
  ∃v m',C X (.func 18) [yv r r2 st rc mo,t.v w] m m.n (.tuple #[v,aeP 0]) m'/\Ext m m'/\Sl m' (mg sf y.us t) v:=by
 have key:=Cl.iX (E:=TE) (X:=X) (f:=18) (args:=[yv r r2 st rc mo,t.v w]) (m:=m) (R:=λrv m' b=>b=m.n/\∃v,rv=.tuple #[v,aeP 0]/\Ext m m'/\Sl m' (mg sf y.us t) v) (hX.no _ rfl) (aa3 func18) rfl ?_
 ·obtain⟨rv,m',b,hc,rfl,v,rfl,h⟩:=key;exact⟨v,m',hc,h⟩
 rw[F18];dsimp only[δ,ο,ρ,υ,φ,χ,ψ];refine av λm1 k0 a0 g0=>?_;refine av λm2 l0 b0 d0=>?_;have H:Ext m m2:=⟨by omega,by grind⟩
 have g1:m2.get m.n=.cells (yc r r2 st rc mo) 38 none:=by rw[d0 _ (by omega)];exact a0
 have g2:m2.get m1.n=.cells (t.c w) 62 none:=b0;have n2:=H.n;clear a0 g0 b0 d0;unfold ptrTo;refine aW (λvs mm lo=>vs=[aeS]/\m2=mm/\m.n<=lo) (λQ hQ=>?_) ?_
 ·rw[(fF g1).2.2.2.2,ae];refine aE (Al hX (hV.aF H) hP) ?_;rw[bj,ae,aj];show iW false _ _;rw[aO,gQ g2,ae];refine aE (xV hX (hw.aF H) e0 hf) ?_;rw[bj,ae];exact hQ _ _ _ ⟨rfl,rfl,by omega⟩
 rintro _ _ lo ⟨rfl,rfl,n0⟩;rw[aB,aj,aO,(fF g1).2.2.2.2,ae,gQ g2,ae];obtain⟨v,m22,h0,i0,j0, -⟩:=tW (m:=m2) (t:=t) hX hS (hV.aF H) hP hw.one;refine aE h0 ?_;have hx:=H.trans i0;rcases j0 with⟨rfl,e⟩ |⟨b,o,c,bc,g,rfl,hr⟩;·exact .inl ⟨rfl,by omega,by grind,_,rfl,.refl,by rw[e];exact .nil⟩
 exact .inr ⟨.inl rfl,by omega,_,rfl,hx,.inr ⟨b,o,c,bc,g,rfl,hr⟩⟩
theorem Nh(hX:cC X){s:qP}{r r2 st rc mo tv pv qv:aeM}{sb ob:Nat}(hS:Lt s)(hV:wY m s r r2 st rc mo tv pv qv)(gs:m.get sb=.cells (scc r r2 st rc mo tv pv qv) 43 none)(go:m.get ob=.cells [aeP (s.ts.length:Int),pv] 75 none)
  {k i:Nat} (hk:k < s.ts.length) (hi:i < s.ts.length) (f:Fc):C X (.func 76) [aeP k,aeP i,f.v,aeK sb 0,aeK ob 0] m m.n (.bool (qT s (np s) i f k)) m:=by
 refine Cl.cd (hX.no _ rfl) (aa3 func76) rfl rfl ?_;rw[F76];dsimp only[δ,ε,ζ,η,ι,ρ,ς,υ,φ,χ,ψ];refine av λm1 k0 a0 d0=>?_;have x1:Ext m m1:=⟨by omega,d0⟩
 have gf:m1.get m.n=.cells f.c 53 none:=a0;have⟨l,hl,hs,l0⟩:=(hV.aF x1).ts;have n0:l.length=s.ts.length:=by grind
 obtain⟨x,hx⟩:∃x,l[k]?=some x:=⟨_,aa5 (by omega)⟩
 have e0:s.ts[k]?=some x.t:=by grind
 have⟨a,cs,e1,e2,e3⟩:=hs.index jR (k:=.i64) hx;obtain⟨rfl,g0⟩:cs=x.c/\D.one x.w:=e3;have e2:ah TE m1 62 a=some (x.t.v x.w):=e2;unfold ptrTo;rw[eV,ae,(qS (x1.cells gs)).2.1,ae,e1,ae,e2,ae];refine av λm6 o0 h0 p0=>?_;refine aC og h0 rfl rfl (Tk.cR g0) λm7 q0 i0 r0=>?_;have g7:m7.get m1.n=.cells (x.t.c x.w) 62 none:=i0;have x7:Ext m1 m7:=⟨by omega,by grind⟩
 have n7:=x7.n;obtain⟨b0,b1, -,b3, -⟩:=oK g7;obtain⟨f0,f1, -⟩:=tP (x7.cells gf);have H:qT s (np s) i f k=(FD x.t f && dT (np s) i k):=by unfold qT;rw[e0]
 rw[H];refine aW (λvs mm lo=>vs=[.bool (FD x.t f && dT (np s) i k)]/\m.n<=lo) (λQ hQ=>?_) ?_
 ·unfold FD at hQ;rw[cz,ae,b0,ae,aS,ae,aj];refine ak (λc1=>?_) (λc1=>hQ _ _ _ ⟨by grind,by omega⟩);rw[ck,ae,b1,ae,cW,ae,f0,ae,aS,ae,aj];refine ak (λc2=>?_) (λc2=>hQ _ _ _ ⟨by grind,by omega⟩);rw[cF,ae,b3,ae,dm,ae,f1,ae,aS,ae,aj];refine ak (λc3=>?_) (λc3=>hQ _ _ _ ⟨by grind,by omega⟩);rw[(AF (x7.cells (x1.cells go))).2.2,ae];refine aE (yF hX (Cd hS) (((hV.aF x1).aF x7).ps) hk hi) ?_;exact hQ _ _ _ ⟨by rw[c1,c2,c3];rfl,by omega⟩
 rintro _ mm lo ⟨rfl,j0⟩;rw[aB];exact⟨rfl,j0⟩
end
section
variable {X:aK} {m:M}
abbrev Ls.c(x:Ls):aeN:=[.int .i64 x.task,.int .i64 x.f.un,.int .i64 x.f.side,.int .i64 x.q]
abbrev Ls.v(x:Ls):aeM:=.agg (x.c).toArray
abbrev Xa(l:List Ls):List (aeN):=l.map λx=> [x.v]
abbrev Ni(H ob:Nat):aeM:=.func (.func 76) #[] #[.pointer (some ⟨H,0,none⟩),.pointer (some ⟨ob,0,none⟩)]
theorem Xe{b:Nat}{v:aeM}{g:Option Nat}(h:m.get b=.cells [v] 155 g):ah TE m 155 (aeK b 0)=some v:=by rw[Oh,aI h];rfl
theorem Ng{b:Nat}{r r2 st rc mo tv pv qv:aeM}{g:Option Nat}(h:m.get b=.cells (scc r r2 st rc mo tv pv qv) 43 g):ah TE m 35 (aeK b (0+0+3))=some rc:=by rw[qC,aI h];rfl
structure Sx(s:qP)(r r2 st rc mo tv pv qv:aeM)(sb vb ob:Nat)(m:M):Prop where
 sc:m.get sb=.cells (scc r r2 st rc mo tv pv qv) 43 none
 vf:m.get vb=.cells [Ni sb ob] 155 none
 od:m.get ob=.cells [.int .i64 (s.ts.length:Int),pv] 75 none
 V:wY m s r r2 st rc mo tv pv qv
def rR(s:qP)(i:Nat)(f:Fc)(q:Nat):Option Ls:=match s.qs[q]? with
 |some x=>if f∈x.pD then some ⟨i,f,q⟩else none
 |none=>none
theorem NV{s:qP}{i:Nat}{f:Fc}:AH s i f=(List.range s.qs.length).filterMap (rR s i f):=rfl
abbrev AN(s:qP)(i:Nat)(f:Fc):List Ls:=if DE s (np s) i f=true then []else AH s i f
theorem zj{n i:Nat}(h:i < n):(List.range n).drop i=i::(List.range n).drop (i+1):=by rw[ab1 (by grind),List.getElem_range]
theorem Ws{i:Int}{f:Fc}{q:Int}:aJ TE 55 [(0,aeP i),(1,f.v),(2,aeP q)]=some (Ls.v ⟨i,f,q⟩):=zq rfl rfl rfl
theorem JI{l:List Fc}{v:aeM}{m':M}(h:Sl m l v)(hk:∀H n k cs g,v=.slice (some H) n k->m.get H.block=.cells cs 53 g->m'.get H.block=m.get H.block):Sl m' l v:=by
 rcases h with h |⟨b,o,c,bc,g,rfl,h2,h3,h4⟩;·exact .inl h
 exact .inr ⟨b,o,c,bc,g,rfl,(hk _ _ _ _ _ rfl h2).trans h2,h3,h4⟩
theorem vD{X:aK}{H:List Fc->List Fc}(hS:zG X H){us:List Un}(hP:cn us)(t:Tk):(mg H us t).length<=10:=by
 unfold mg
 cases h:cj us t.id with
 |none=>simp
 |some u=>
  have hu:=zd (hP.val u (gd h).1)
  simp only[]
  split
  ·rw[(hS.perm _).length_eq];exact hu
  grind
set_option maxHeartbeats 2000000 in
theorem FZ(hX:cC X){sf:List Fc->List Fc}(hS:zG X sf){s:qP}{r r2 st rc mo tv pv qv:aeM}{sb vb ob:Nat}(hP:Lt s):
  Sy TE X (λo=>∃cs g,o=.cells cs 53 g) (.func 77) [] [ptrTo sb,ptrTo vb] (Xa (fE sf s)) (Sx s r r2 st rc mo tv pv qv sb vb ob):=by
 intro y n0 B I J m hD hI hJ hy I1 hB q0 h0;have L2:=hP.tl;have M2:=hP.ql;have l2:=hP.y.TJ;have key:=Cl.iX (E:=TE) (X:=X) (f:=77) (args:=[.func (.yield y) #[] #[],ptrTo sb,ptrTo vb]) (m:=m) (R:=λv m2 b=>B<=b/\(I (Xa (fE sf s)).length m2\/J m2)) (hX.no _ rfl) (aa3 func77) rfl ?_
 ·have⟨v,m',b,r0,h⟩:=key;exact⟨v,m',b,r0,h⟩
 rw[F77];dsimp only[δ,ε,ζ,η,θ,ι,κ,ο,ς,υ,φ,χ,ψ,ω];unfold ptrTo;simp only[iO,eV,lB,eh,iN,ae]
 have g0:∀{ma:M},Sx s r r2 st rc mo tv pv qv sb vb ob ma->∃l:List TW,l.map TW.t=s.ts/\Sl ma l tv/\Dd ma l/\l.length=s.ts.length:=λh=>by
  have⟨l,h1,h2,h3⟩:=h.V.ts
  grind
 have d0:=hD _ _ h0;obtain⟨l0, -,J1, -,K1⟩:=g0 d0;rw[(qS d0.sc).2.1,ae,J1.len jR,K1,aA]
 refine Lp.intro (γ:=Nat) (λi=>s.ts.length-i) (λi vs m1 lo=>∃P,vs=[.int .i64 i]/\i<=s.ts.length/\fE sf s=P++((List.range s.ts.length).drop i).flatMap (qZ sf s (np s))/\I P.length m1/\n0<=m1.n/\m.n<=m1.n/\B<=lo/\((lo=m.n/\P=[])\/lo < m.n)) 0
  ⟨[],rfl,abh _,rfl,h0,I1,aa4 _,by omega,.inl ⟨rfl,rfl⟩⟩ ?_
 rintro i vs m1 N2 ⟨P,rfl,hi,a0,s0,O2,o2,P2,H⟩;rw[aB,aM,ae,aj];refine ak (λF0=>?_) (λQ2=>?_)
 ·have F0:i < s.ts.length:=by grind
  have d1:=hD _ _ s0;have⟨l,A0,u0,a1,G0⟩:=g0 d1;obtain⟨x,hx⟩:∃x,l[i]?=some x:=⟨_,aa5 (by omega)⟩
  have L1:s.ts[i]?=some x.t:=by grind
  have⟨a,cs,e1,e2,e3⟩:=u0.index jR (k:=.i64) hx;obtain⟨rfl,c1⟩:cs=x.c/\D.one x.w=true:=e3;have e2:ah TE m1 62 a=some (x.t.v x.w):=e2;rw[e1,ae,e2,ae];refine av λm13 u2 g1 v2=>?_;refine aC og g1 rfl rfl (Tk.cR c1) λm14 w2 i1 y2=>?_;have g14:m14.get m1.n=.cells (x.t.c x.w) 62 none:=i1;have j1:Ext m1 m14:=⟨by omega,by grind⟩
  have n14:=j1.n;have i0:=hI _ _ _ s0 j1;have d14:=hD _ _ i0;rw[(qS d14.sc).1,ae,gQ g14,ae];have⟨H0,m20,N1,k1,I0,O1⟩:=tW (m:=m14) (t:=x.t) hX hS d14.V.y hP.y c1;refine aE N1 ?_;have n20:=k1.n;have B0:=hI _ _ _ i0 k1;obtain⟨D,J0⟩:∃D,D=mg sf s.y.us x.t:=⟨_,rfl⟩
  rw[<-J0]at I0;have T2:D.length<=10:=by rw[J0];exact vD hS hP.y.tR x.t
  rw[I0.len gH,aA];have l1:=a0;rw[zj F0,acw,show qZ sf s (np s) i=D.flatMap (AN s i) by unfold qZ;rw[L1,J0]]at l1
  refine Lp.intro (γ:=Nat) (λj=>D.length-j) (λj vs m2 lo=>∃P,vs=[.int .i64 j]/\j<=D.length/\fE sf s=P++((D.drop j).flatMap (AN s i)++((List.range s.ts.length).drop (i+1)).flatMap (qZ sf s (np s)))/\I P.length m2/\m20.n<=m2.n/\Sl m2 D H0/\B<=lo/\((lo=m.n/\P=[])\/lo < m.n)) 0
   ⟨P,rfl,abh _,by grind,B0,aa4 _,I0,by omega,H.elim (λh=> .inl ⟨by omega,h.2⟩) (λh=> .inr (by omega))⟩ ?_
  clear a0 l1 H s0 i0 B0 d1 u0 a1 A0 G0;rintro j vs m2 fS ⟨P,rfl,hj,a0,o1,a3,s2,p1,H⟩;rw[aB,aM,ae,aj];refine ak (λj0=>?_) (λz2=>?_)
  ·have j0:j < D.length:=by grind
   obtain⟨f,hf⟩:∃f,D[j]?=some f:=⟨_,aa5 j0⟩
   have⟨p,f1,f2⟩:=tQ s2 hf;rw[f1,ae,f2,ae];refine av λm32 A2 r1 B2=>?_;refine aC sA r1 rfl rfl rfl λe0 C2 u1 D2=>?_;have v0:e0.get m2.n=.cells f.c 53 none:=u1;have v1:Ext m2 e0:=⟨by omega,by grind⟩
   have k0:=hI _ _ _ o1 v1;have d33:=hD _ _ k0;have w1:=s2.aF v1;have E2:m2.n < e0.n:=by omega
   rw[Ng d33.sc,ae,(tP v0).2.2,ae];refine aE (mC hX d33.V.y.rc (by omega) f) ?_;have⟨l,A0,u0,a1,G0⟩:=g0 d33;rw[(qS d33.sc).2.1,ae,u0.len jR,G0,aA];refine Lp.intro (γ:=Nat) (λk=>s.ts.length-k) (λk vs m3 lo=>vs=[.bool (decide (f∈s.y.rc) ||(List.range k).any (qT s (np s) i f)),.int .i64 k]/\k<=s.ts.length/\e0=m3/\B<=lo/\((lo=m.n/\P=[])\/lo < m.n)) 0 ⟨by simp,abh _,rfl,by omega,H.elim (λh=> .inl ⟨by omega,h.2⟩) (λh=> .inr (by omega))⟩ ?_;clear H;rintro k vs _ c3 ⟨rfl,hk,rfl,C0,H⟩;rw[aB,aB,aM,ae,aj];refine ak (λD0=>?_) (λF2=>?_)
   ·have D0:k < s.ts.length:=by grind
    have d3:(decide (f∈s.y.rc) ||(List.range (k+1)).any (qT s (np s) i f))=((decide (f∈s.y.rc) ||(List.range k).any (qT s (np s) i f)) ||qT s (np s) i f k):=by
     grind
    rw[aj];refine ak (λhs=>?_) (λhs=>?_)
    ·rw[aQ,ae,wrap64 (by omega) (by omega)];exact⟨k+1,by omega,by grind,by omega,rfl,C0,H⟩
    rw[Xe d33.vf,ae,(tP v0).2.2,ae,cf];refine aE (Nh hX hP d33.V d33.sc d33.od D0 F0 f) ?_;rw[aQ,ae,wrap64 (by omega) (by omega)];exact⟨k+1,by omega,by grind,by omega,rfl,by omega,H.elim (λh=> .inl ⟨by omega,h.2⟩) (λh=> .inr (by omega))⟩
   obtain rfl:k=s.ts.length:=by
    grind
   obtain⟨S,y1⟩:∃S,S=DE s (np s) i f:=⟨_,rfl⟩
   rw[show(decide (f∈s.y.rc) ||(List.range s.ts.length).any (qT s (np s) i f))=S from y1.symm];have⟨ql,z1,y0,K0⟩:=d33.V.qs;have A1:ql.length=s.qs.length:=by grind
   rw[(qS d33.sc).2.2.2.1,ae,y0.len rF,A1,aA];have z0:=a0;rw[ab1 j0,(aa9.1 hf).2,acw,abL]at z0;have B1:AN s i f=if S=true then []else((List.range s.qs.length).drop 0).filterMap (rR s i f):=by unfold AN;rw[<-y1];rfl
   rw[B1]at z0;refine Lp.intro (γ:=Nat) (λq=>s.qs.length-q) (λq vs m4 lo=>∃P,vs=[.int .i64 q]/\q<=s.qs.length/\fE sf s=P++((if S=true then []else((List.range s.qs.length).drop q).filterMap (rR s i f))++((D.drop (j+1)).flatMap (AN s i)++((List.range s.ts.length).drop (i+1)).flatMap (qZ sf s (np s))))/\I P.length m4/\e0.n<=m4.n/\Sl m4 D H0/\m4.get m2.n=.cells f.c 53 none/\B<=lo/\((lo=m.n/\P=[])\/lo < m.n)) 0 ⟨P,rfl,abh _,z0,k0,aa4 _,w1,v0,C0,H⟩ ?_;clear a0 z0 B1 H y0 K0 z1 d33 k0 w1 v0;rintro q vs m4 g3 ⟨P,rfl,hq,a0,L0,i3,s4,g4,C1,H⟩;have d4:=hD _ _ L0;have⟨ql,z1,y0,K0⟩:=d4.V.qs;have A1:ql.length=s.qs.length:=by grind
   rw[aB,aM,ae,aj];refine ak (λE0=>?_) (λG2=>?_)
   ·have E0:q < s.qs.length:=by grind
    obtain⟨x',D1⟩:∃x,ql[q]?=some x:=⟨_,aa5 (by omega)⟩
    have P1:s.qs[q]?=some x'.q:=by grind
    have⟨a',T1,q1,q2,q3⟩:=y0.index rF (k:=.i64) D1;obtain⟨rfl,a2⟩:T1=x'.c/\Go.D.one x'.w=true:=q3;have q2:ah TE m4 79 a'=some x'.v:=q2;have⟨c2,d2⟩:=K0 x' (abb D1);have j3:=d2.len;rw[q1,ae,q2,ae];refine av λk3 H2 E1 I2=>?_;refine aC SE E1 rfl rfl (by show(true && (Go.D.one x'.w && true))=true;rw[a2];rfl) λN0 J2 F1 K2=>?_;have g2:N0.get m4.n=.cells x'.c 79 none:=F1;have o0:Ext m4 N0:=⟨by omega,by grind⟩
    have l3:=o0.n;have p0:=hI _ _ _ L0 o0;have b0:=o0.cells g4;have O0:=s4.aF o0;have Q0:rR s i f q=if f∈x'.q.pD then some ⟨i,f,q⟩else none:=by unfold rR;rw[P1]
    rw[zj E0,adh,Q0]at a0;refine aW (λvs m5 lo=>∃stop:Bool,vs=[.bool stop]/\B<=lo/\(stop=true->J m5/\lo < m.n)/\(stop=false->∃P,fE sf s=P++((if S=true then []else((List.range s.qs.length).drop (q+1)).filterMap (rR s i f))++((D.drop (j+1)).flatMap (AN s i)++((List.range s.ts.length).drop (i+1)).flatMap (qZ sf s (np s))))/\I P.length m5/\e0.n<=m5.n/\Sl m5 D H0/\m5.get m2.n=.cells f.c 53 none/\((lo=m.n/\P=[])\/lo < m.n))) (λQ hQ=>?_) ?_
    ·rw[bj,ae,aj];refine ak (λhs=>?_) (λhs=>hQ _ _ _ ⟨false,rfl,by omega,λh=>(by cases h),λ_=>⟨P,?_,p0,by omega,O0,b0,H.elim (λh=> .inl ⟨by omega,h.2⟩) (λh=> .inr (by omega))⟩⟩)
     ·rw[abz]at hs;rw[hs,abd (by decide)]at a0;rw[(Ql g2).2.1,ae,(tP b0).2.2,ae];refine aE (mC hX (c2.aF o0) (by omega) f) ?_;rw[aj];refine ak (λhc=>?_) (λhc=>?_)
      ·have hc:=aba hc;rw[abe hc]at a0;rw[(tP b0).2.2,ae,Ws,ae,cf]
       have i2:(Xa (fE sf s))[P.length]?=some [Ls.v ⟨i,f,q⟩]:=by
        grind
       obtain⟨v,m5,b5,r0,n3,o3,G1,H1⟩:=q0 P.length _ N0 (by omega) i2 p0;refine aE r0 ?_;have n5:=r0.1;rcases H1 with⟨rfl,j2⟩ |⟨rfl,k2⟩
       ·rw[bj,ae];refine hQ _ _ _ ⟨false,rfl,by omega,λh=>(by cases h),λ_=>⟨P++ [⟨i,f,q⟩],?_,?_,by omega,JI O0 λad n k cs g e hg=>G1 _ ?_ (M.bk hg) ⟨cs,g,hg⟩,?_,.inr (by omega)⟩⟩
        ·rw[hs,abd (by decide)];rw[a0];simp only[abL,aeo,aci,ab6]
        ·rw[abO,aem];exact j2
        ·have:=O1 ad n k e;omega
        rw[G1 _ (by omega) (by omega) ⟨_,_,b0⟩];exact b0
       rw[bj,ae];exact hQ _ _ _ ⟨true,rfl,by omega,λ_=>⟨k2,by omega⟩,λh=>(by cases h)⟩
      rw[abd (aa6 hc)]at a0;exact hQ _ _ _ ⟨false,rfl,by omega,λh=>(by cases h),λ_=>⟨P,by grind,p0,by omega,O0,b0,H.elim (λh=> .inl ⟨by omega,h.2⟩) (λh=> .inr (by omega))⟩⟩
     rw[abu]at hs;rw[hs,abe rfl]at a0⊢;exact a0
    rintro _ m5 r3 ⟨stop,rfl,h1,h2,h3⟩;rw[aB,aj];refine ak (λhs=>?_) (λhs=>?_)
    ·have⟨h4,h5⟩:=h2 hs;exact .inr ⟨.inr h5,by omega,.inr h4⟩
    have⟨P',b1,b2,b3,b4,b5,b6⟩:=h3 hs;rw[aQ,ae,wrap64 (by omega) (by omega)];exact⟨q+1,by omega,P',rfl,by omega,b1,b2,b3,b4,b5,h1,b6⟩
   obtain rfl:q=s.qs.length:=by
    grind
   rw[ac3 (by grind),adk,ite_self,ab6]at a0;rw[aQ,ae,wrap64 (by omega) (by omega)];exact⟨j+1,by omega,P,rfl,by omega,a0,L0,by omega,s4,C1,H⟩
  obtain rfl:j=D.length:=by
   grind
  rw[adK,List.flatMap_nil,ab6]at a0;rw[aQ,ae,wrap64 (by omega) (by omega)];exact⟨i+1,by omega,P,rfl,by omega,a0,o1,by omega,by omega,p1,H⟩
 obtain rfl:i=s.ts.length:=by
  grind
 rw[ac3 (by grind),List.flatMap_nil,abJ]at a0;have hlen:(Xa (fE sf s)).length=P.length:=by grind
 rcases H with⟨h1,h2⟩ |h
 ·subst h2;refine .inl ⟨rfl,by omega,by omega,.inl ?_⟩;rw[hlen];exact h0
 refine .inr ⟨.inr h,by omega,.inl ?_⟩;rw[hlen];exact s0
end
section
variable {X:aK} {m:M}
instance:aZ Ls where
 ty:=55
 sz:=4
 agg:=true
 eB:=[]
 rep _ x cs:=cs=x.c
 pos:=by decide
 one:=by grind
 len:=by grind
 fB:=by rintro _ _ _ rfl;rfl
 aY:=by grind
theorem M8:oP TE 45 55 Ls:=⟨ag.t45,ag.t55,by kernel_rfl,⟨_,rfl⟩,rfl,by kernel_rfl,rfl,rfl⟩
theorem WG:ur TE 45 Ls:=⟨ag.t45,ag.t55,by kernel_rfl,rfl,rfl,by kernel_rfl,by decide,rfl⟩
theorem TZ{x:Ls}:aG TE m 45 1 [(0,x.v)]=some (.slice (some ⟨m.n,0,none⟩) 1 1,m.push (.cells x.c 55 none)):=by kernel_rfl
theorem Gk{α β:Type}{f:α->List β}{c:Nat}:∀{l:List α},(∀x∈l,(f x).length<=c)->(l.flatMap f).length<=l.length*c
 |[],_=>by simp
 |x::l,h=>by
  have h1:=h x abN
  have h2:=Gk (l:=l) λy H=>h y (abS _ H)
  rw[acw,abO,abr,Nat.succ_mul]
  omega
theorem AM{H:List Fc->List Fc}(hS:zG X H){s:qP}(hP:Lt s):(fE H s).length<=320:=by
 have hq:∀i f,(AH s i f).length<=4:=λi f=>by have:=adB (rR s i f) (List.range s.qs.length);rw[adF]at this;have:=hP.ql;rw[NV];omega
 have ht:∀i∈List.range s.ts.length,(qZ H s (np s) i).length<=40:=λi _=>by
  unfold qZ;split
  ·rename_i t _;have h1:=vD hS hP.y.tR t
   have h2:=Gk (l:=mg H s.y.us t) (f:=λf=>if DE s (np s) i f=true then []else AH s i f) (c:=4) λf _=>by
    grind
   omega
  simp
 have:=Gk ht;rw[adF]at this;have:=hP.tl;unfold fE;omega
theorem Ot{b:Nat}{v:aeM}{g:Option Nat}(h:m.get b=.cells [v] 45 g):ah TE m 45 (aeK b 0)=some v:=by rw[Ro,aI h];rfl
theorem Xf{b:Nat}{x:Ls}{g:Option Nat}(h:m.get b=.cells x.c 55 g):ah TE m 55 (aeK b 0)=some x.v:=by rw[Rn,aN (n:=4) h (by grind)];rfl
theorem Sx.aF{s:qP}{r r2 st rc mo tv pv qv:aeM}{sb vb ob:Nat}{m':M}(h:Sx s r r2 st rc mo tv pv qv sb vb ob m)(H:Ext m m'):Sx s r r2 st rc mo tv pv qv sb vb ob m':=
 ⟨H.cells h.sc,H.cells h.vf,H.cells h.od,h.V.aF H⟩
set_option maxHeartbeats 1000000 in
theorem EW(hX:cC X){sf:List Fc->List Fc}(hS:zG X sf){s:qP}{r r2 st rc mo tv pv qv:aeM}{sb vb ob:Nat}(hP:Lt s)(d0:Sx s r r2 st rc mo tv pv qv sb vb ob m):
  ∃v m',C X (.func 75) [aeQ,.func (.func 77) #[] #[ptrTo sb,ptrTo vb]] m m.n v m'/\Ext m m'/\Sl m' (fE sf s) v:=by
 have key:=Cl.iX (E:=TE) (X:=X) (f:=75) (args:=[aeQ,.func (.func 77) #[] #[ptrTo sb,ptrTo vb]]) (m:=m) (R:=λrv m' b=>b=m.n/\Ext m m'/\Sl m' (fE sf s) rv) (hX.no _ rfl) (aa3 func75) rfl ?_
 ·obtain⟨rv,m',b,hc,rfl,h⟩:=key;exact⟨rv,m',hc,h⟩
 have hL:=AM hS hP
 have H:∀R:aeN->M->Nat->Prop,(∀(v:aeM) (m':M) (lo:Nat),m.n<=lo->Ext m m'->Sl m' (fE sf s) v->R [v] m' lo)->dE TE (aL TE X) f75 [aeQ,.func (.func 77) #[] #[ptrTo sb,ptrTo vb]] m R:=by
  intro R hR;rw[F75];dsimp only[δ,ι,κ,ν,ρ,ς,υ,φ,Γ];refine av λm1 z0 k0 l0=>?_;have x1:Ext m m1:=⟨by omega,l0⟩
  have g1:m1.get m.n=.cells [aeQ] 45 none:=k0;rw[cf]
  refine⟨_,Xa (fE sf s),_,λk m'=>m1.n<=m'.n/\Ext m m'/\∃r,m'.get m.n=.cells [r] 45 none/\Ow (m1.n+1) m' ((fE sf s).take k) r,
   λ_ _=>False,m.n,⟨_,rfl⟩,FZ (r:=r) (r2:=r2) (st:=st) (rc:=rc) (mo:=mo) (tv:=tv) (pv:=pv) (qv:=qv) (ob:=ob) hX hS hP,by omega,?_,?_,?_,⟨aa4 _,x1,_,g1,.nil⟩,?_,?_,?_⟩
  ·rintro k m' ⟨h1,h2, -⟩;exact d0.aF h2
  ·rintro k m' n0 ⟨h1,h2,r',h4,h5⟩ hk;have A0:=hk.n;refine⟨by omega,⟨by grind,λc hc=>by rw[hk.get c (by omega) (by omega),h2.get c hc]⟩,r',by rw[hk.get _ (by omega) (by omega),h4],SP rfl h5 λa n k e=>?_⟩;have⟨cs,g,hb,o0⟩:=pz h5 e;exact hk.get _ (M.bk hb) (by omega)
  ·rintro e m' n0 h;exact h.elim
  ·rintro k args m3 B0 e0 ⟨h1,h2,r',h4,h5⟩
   obtain⟨x,hx,rfl⟩:∃x,(fE sf s)[k]?=some x/\args=[x.v]:=by rw[ack]at e0;have⟨x,hx,e⟩:=abq.1 e0;exact⟨x,hx,e.symm⟩
   rw[aB,BB];refine av λm7 C0 p0 D0=>?_;unfold ptrTo;refine aC SF p0 rfl rfl rfl λm8 E0 q0 F0=>?_;have fR:∀c,c < m3.n->m8.get c=m3.get c:=by grind
   refine⟨λc _ hc=>fR c hc,λm10 v0 g0=>?_⟩;dsimp only;have gx:m10.get m3.n=.cells x.c 55 none:=by rw[g0 _ (by omega)];exact q0
   have h0:∀c,c < m3.n->c≠m1.n->m10.get c=m3.get c:=by grind
   have g10:m10.get m.n=.cells [r'] 45 none:=by grind
   have r0:Ow (m1.n+1) m10 ((fE sf s).take k) r':=SP rfl h5 λad n k e=>by have⟨cs,g,hb,o0⟩:=pz h5 e;exact h0 _ (M.bk hb) (by omega)
   have G0:=(aa9.1 hx).1;rw[Ot g10,ae,Xf gx,ae];refine eT (T:=45) (x:=x) WG rfl r0 (by omega) (by grind) TZ (λ_=>rfl) λs0 m16 w2 n2 k2 u0 l2=>?_;have g16:m16.get m.n=.cells [r'] 45 none:=by grind
   refine cg WY g16 (by rw[w2.sl.cells];rfl) (by rw[w2.sl.cells];show 0+1<=1;decide) (by rw[w2.sl.cells];simp[w2.sl.one]) λm17 y0 i0 a0=>?_;refine⟨by omega,λc H0 I0 b0=>?_,by omega,⟨by omega,λc hc=>by rw[a0 c (by omega),k2 c (by omega),h0 c (by omega) (by omega),h2.get c hc]⟩,s0,by rw[i0,w2.sl.cells];rfl,?_⟩
   ·rw[a0 c (by omega)];rcases b0 with rfl |⟨cs,g,b0⟩;·exact k2 _ (by omega)
    exact u0 c (by omega) λJ0 g' e=>by rw[b0]at e;cases e
   rw[abt,hx];exact w2.tH rfl λc h1 h2=>a0 c (by omega)
  ·rintro m2 fS ⟨h1,h2,r',h4,h5⟩ j0;rw[abH,abR]at h5;unfold ptrTo;rw[Ot h4,ae];exact hR _ _ _ (by omega) h2 h5.sl
  rintro e m2 fS _ h;exact h.elim
 refine H _ λv m' lo j0 hx hs=>?_;show(bB v=true/\m.n<=lo/\(m.n=m.n/\Ext m m/\Sl m _ v))\/((bB v=false\/lo < m.n)/\(min m.n lo=m.n/\Ext m m'/\Sl m' _ v));rcases hs with⟨rfl,e⟩ |⟨b,o,c,bc,g,rfl,hr⟩;·exact .inl ⟨rfl,j0,rfl,.refl,by rw[e];exact .nil⟩
 exact .inr ⟨.inl rfl,by omega,hx,.inr ⟨b,o,c,bc,g,rfl,hr⟩⟩
end
section
variable {X:aK} {m:M}
theorem CL(hX:cC X){H:List Fc->List Fc}(hS:zG X H){s:qP}{r r2 st rc mo tv pv qv:aeM}{sb vb ob:Nat}(hP:Lt s)(d0:Sx s r r2 st rc mo tv pv qv sb vb ob m):
  ∃v m',C X (.func 31) [.func (.func 77) #[] #[ptrTo sb,ptrTo vb]] m m.n v m'/\Ext m m'/\Sl m' (fE H s) v:=by
 have key:=Cl.iX (E:=TE) (X:=X) (f:=31) (args:=[.func (.func 77) #[] #[ptrTo sb,ptrTo vb]]) (m:=m) (R:=λrv m' b=>b=m.n/\Ext m m'/\Sl m' (fE H s) rv) (hX.no _ rfl) (aa3 func31) rfl ?_
 ·obtain⟨rv,m',b,hc,rfl,h⟩:=key;exact⟨rv,m',hc,h⟩
 rw[F31];dsimp only[χ];have⟨v,m2,c2,x2,s2⟩:=EW hX hS hP d0;refine aE c2 ?_;rcases s2 with⟨rfl,e⟩ |⟨b,o,c,bc,g,rfl,hr⟩;·exact .inl ⟨rfl,by omega,by grind,.refl,by rw[e];exact .nil⟩
 exact .inr ⟨.inl rfl,by omega,x2,.inr ⟨b,o,c,bc,g,rfl,hr⟩⟩
theorem Kh(hX:cC X){s:qP}{r r2 st rc mo tv pv qv:aeM}(hV:wY m s r r2 st rc mo tv pv qv):
  ∃H vb ob m',C X (.func 32) [zM r r2 st rc mo tv pv qv] m m.n (.func (.func 77) #[] #[ptrTo H,ptrTo vb]) m'/\Ext m m'/\Sx s r r2 st rc mo tv pv qv H vb ob m':=by
 have key:=Cl.iX (E:=TE) (X:=X) (f:=32) (args:=[zM r r2 st rc mo tv pv qv]) (m:=m) (R:=λrv m' b=>b=m.n/\∃H vb ob,rv=.func (.func 77) #[] #[ptrTo H,ptrTo vb]/\Ext m m'/\Sx s r r2 st rc mo tv pv qv H vb ob m') (hX.no _ rfl) (aa3 func32) rfl ?_
 ·obtain⟨rv,m',b,hc,rfl,H,vb,ob,rfl,h⟩:=key;exact⟨H,vb,ob,m',hc,h⟩
 rw[F32];dsimp only[δ,ι,ρ,ς,υ,φ,χ,ω];refine av λm1 n0 d0 e0=>?_;have x1:Ext m m1:=⟨by omega,e0⟩
 have g1:m1.get m.n=.cells (scc r r2 st rc mo tv pv qv) 43 none:=d0;unfold ptrTo;rw[(qS g1).2.2.2.2,ae];have⟨m4,c4,x4⟩:=rL hX (hV.aF x1);refine aE c4 ?_;have n4:=x4.n;have g0:=hV.ps.one;refine av λm6 o0 h0 p0=>?_;refine aC Mc h0 rfl rfl (by show(true && (D.one pv && true))=true;rw[g0];rfl) λm7 q0 i0 r0=>?_;have g7:m7.get m4.n=.cells [aeP (s.ts.length:Int),pv] 75 none:=i0;have x7:Ext m4 m7:=⟨by omega,by grind⟩
 have n7:=x7.n;refine av λm9 s0 j0 u0=>?_;refine cg Tp j0 rfl (by show 0+1<=1;decide) rfl λm10 k0 b0 l0=>?_;have g10:m10.get m7.n=.cells [Ni m.n m4.n] 155 none:=b0;have a0:Ext m7 m10:=⟨by omega,by grind⟩
 have xx:=x1.trans (x4.trans (x7.trans a0));exact .inr ⟨.inl rfl,by omega,m.n,m7.n,m4.n,rfl,xx,⟨(x4.trans (x7.trans a0)).cells g1,g10,a0.cells g7,hV.aF xx⟩⟩
theorem PG(H:cC X){sf:List Fc->List Fc}(hS:zG X sf){s:qP}{r r2 st rc mo tv pv qv:aeM}(hP:Lt s)(hV:wY m s r r2 st rc mo tv pv qv):
  ∃v m',C X (.func 8) [zM r r2 st rc mo tv pv qv] m m.n (.tuple #[v,aeP 0]) m'/\Ext m m'/\Sl m' (fE sf s) v:=by
 have key:=Cl.iX (E:=TE) (X:=X) (f:=8) (args:=[zM r r2 st rc mo tv pv qv]) (m:=m) (R:=λrv m' b=>b=m.n/\∃v,rv=.tuple #[v,aeP 0]/\Ext m m'/\Sl m' (fE sf s) v) (H.no _ rfl) (aa3 func8) rfl ?_
 ·obtain⟨rv,m',b,hc,rfl,v,rfl,h⟩:=key;exact⟨v,m',hc,h⟩
 rw[F8];dsimp only[aL];refine av λm1 h0 a0 b0=>?_;have x1:Ext m m1:=⟨by omega,b0⟩
 have g1:m1.get m.n=.cells (scc r r2 st rc mo tv pv qv) 43 none:=a0;unfold ptrTo;rw[(qS g1).2.2.2.2,ae];refine aE (Bd H hP (hV.aF x1)) ?_;rw[bj,ae,aj];show iW false _ _;rw[aO,(qS g1).2.2.2.2,ae];have⟨sb,vb,ob,m9,c9,x9,d9⟩:=Kh H (hV.aF x1);refine aE c9 ?_;have⟨v,m12,d0,e0,g0⟩:=CL H hS hP d9;refine aE d0 ?_;have n9:=x9.n;have hx:=x1.trans (x9.trans e0);rcases g0 with⟨rfl,e⟩ |⟨b,o,c,bc,g,rfl,hr⟩;·exact .inl ⟨rfl,by omega,by grind,_,rfl,.refl,by rw[e];exact .nil⟩
 exact .inr ⟨.inl rfl,by omega,_,rfl,hx,.inr ⟨b,o,c,bc,g,rfl,hr⟩⟩
end
section
variable {X:aK} {m:M}
theorem FJ(H:cC X){c n:Int}(hc:lN c)(hn:0 < n):C X (.func 14) [aeP c,aeP n] m m.n (aeP (dR c n)) m:=by refine Cl.cd (H.no _ rfl) (aa3 func14) rfl rfl ?_;rw[F14];dsimp only[η,ο,φ];simp only[jn,aB];exact mS hc hn (P:=λv=>bC [v]=aeP (dR c n)/\m.n<=m.n) ⟨rfl,aa4 _⟩
theorem S1{b:Nat}{x:Ls}{g:Option Nat}(h:m.get b=.cells x.c 55 g):
  ah TE m 3 (aeK b (0+0))=some (aeP x.task)/\ah TE m 53 (aeK b (0+1))=some x.f.v/\ah TE m 3 (aeK b (0+3))=some (aeP x.q)/\
  ah TE m 3 (aeK b (0+1+0))=some (aeP x.f.un)/\ah TE m 3 (aeK b (0+1+1))=some (aeP x.f.side):=by
 refine⟨?_,?_,?_,?_,?_⟩;·rw[bI,aI h];rfl
 ·rw[xJ,aN (n:=2) h (by grind)];rfl
 ·rw[bI,aI h];rfl
 ·rw[bI,aI h];rfl
 rw[bI,aI h];rfl
set_option maxHeartbeats 4000000 in
theorem pQ(hX:cC X){sf:List Fc->List Fc}(hS:zG X sf)(D0:∀m1:M,m.n<=m1.n->C X (.func 6) [] m1 m1.n aeR m1){xs:List I6}{ks:List I4}{vb vk va:aeM}(hv:Ff m xs vb)(k2:∀x∈xs,x.ok)(hlen:xs.length < 9223372036854775808)(hk:oJ m ks vk)(l1:∀x∈ks,x.ok)(E0:ks.length < 9223372036854775808)(l2:D.one va=true)
  {ws:List I6} {vw:aeM} (hw:Ff m ws vw) (o1:∀x∈ws,x.ok) (F0:ws.length < 9223372036854775808) {ps:List Int} {vp:aeM} (hp:oJ m ps vp) (p1:∀x∈ps,lN x) (G0:ps.length < 9223372036854775808)
  {qs:List I4} {vq:aeM} (hq:oJ m qs vq) (r1:∀x∈qs,x.ok) (H0:qs.length < 9223372036854775808) {wh:Int} (m2:lN wh):
  C X (.func 5) [.agg #[vb,vk,va],vw,vp,vq,.int .i64 wh] m m.n aeR m:=by
 refine Cl.cd (hX.no _ rfl) (aa3 func5) rfl rfl ?_;rw[F5];dsimp only[aL];refine av λm1 L3 o2 w2=>?_;have x1:Ext m m1:=⟨by omega,w2⟩
 have g1:m1.get m.n=.cells [vb,vk,va] 25 none:=o2;unfold ptrTo;simp only[iO,eV,lC,lB,eh,zb,za,yZ,cW,dm,cz,ck,cF,ae];refine aE (D0 m1 (by omega)) ?_;rw[bj,ae,aj];show iW false _ _;rw[aO,show ah TE m1 25 (.pointer (some ⟨m.n,0,none⟩))=some (.agg #[vb,vk,va]) by rw[Ck,aN (n:=3) g1 (by show 0+3<=3;decide)];rfl,ae];have⟨s,r,r2,st,rc,mo,tv,pv,qv,m8,c8,x8,hM,hV⟩:=Kc (m:=m1) hX (hv.aF x1) k2 hlen (hk.aF x1) l1 E0 l2 (hw.aF x1) o1 F0 (hp.aF x1) p1 G0 (hq.aF x1) r1 H0;refine aE c8 ?_;have n8:=x8.n;have hP:=hM.toLt;have N3:=hP.tl;have O3:=hP.ql;refine av λm10 z3 w1 A3=>?_;refine aC MQ w1 rfl rfl hV.fB λm11 B3 y1 C3=>?_;have gS:m11.get m8.n=.cells (scc r r2 st rc mo tv pv qv) 43 none:=y1;have z1:Ext m8 m11:=⟨by omega,by grind⟩
 have n11:=z1.n;have v0:=hV.aF z1;rw[(qS gS).2.2.2.2,ae];have⟨lv,m15,y2,I0,A1⟩:=PG hX hS hP v0;refine aE y2 ?_;have n15:=I0.n;rw[aH,aH];simp only[aa8,aa7,ae];rw[bR,ae,aj];show iW false _ _;rw[aO,A1.len M8,aA,aS,ae,aj];refine ak (λ_=>⟨rfl,by omega⟩) (λh0=>?_);have h0:=aa6 h0;have hL:=AM hS hP;rw[aA];obtain⟨k,z2,e⟩:=jC (c:=wh) (n:=(fE sf s).length) (by omega);refine aE (FJ hX m2 (by omega)) ?_;rw[e];obtain⟨x,hx⟩:∃x,(fE sf s)[k]?=some x:=⟨_,aa5 z2⟩
 have⟨a,cs,e1,e2,e3⟩:=A1.index M8 (k:=.i64) hx;obtain rfl:cs=x.c:=e3;have e2:ah TE m15 55 a=some x.v:=e2;rw[e1,ae,e2,ae];refine av λa4 D3 B1 E3=>?_;refine aC SF B1 rfl rfl rfl λJ0 F3 C1 G3=>?_;have gL:J0.get m15.n=.cells x.c 55 none:=C1;have K0:Ext m15 J0:=⟨by omega,by grind⟩
 have n29:=K0.n;have⟨i,q,t,y,D1,A2,B2,C2,D2,E2,F2,G2⟩:=Ki (abb hx);have L0:i < s.ts.length:=(aa9.1 B2).1;have b4:q < s.qs.length:=(aa9.1 C2).1;have y0:=K0.cells (I0.cells gS);have z0:=v0.aF (I0.trans K0);rw[(qS y0).2.2.2.2,ae,(S1 gL).1,ae,D1];have⟨wv,N0,H2,u0,O0⟩:=ED (m:=J0) hX hP z0 L0;refine aE H2 ?_;have n35:=u0.n;rw[aH,aH];simp only[aa8,aa7,ae];have H:=u0.cells y0;have j0:=u0.cells gL;have a0:=z0.aF u0;have hO:=Cd hP;obtain⟨Q0,d0⟩:=yK (n:=s.ts.length) (t:=np s) (zo hO).tr (Bm hO) s.ts.length [] .nil (by simp);obtain⟨L,I2⟩:∃L,L=iJ s.ts.length (np s) s.ts.length []:=⟨_,rfl⟩
 rw[<-I2]at Q0 d0 O0;have hW:=Th (zo hO).tr (Bm hO) Q0 d0 L0;have J2:(oQ (np s) L i).length=s.ts.length:=by rw[(Dj Q0 d0 L0 (Bm hO)).length_eq,d0]
 have a1:∀{ma:M},ma.get m15.n=.cells x.c 55 none->ah TE ma 3 (.pointer (some ⟨m15.n,0+0,none⟩))=some (.int .i64 (i:Int)):=λh=>D1 ▸(S1 h).1;have E1:∀{ma:M},ma.get m15.n=.cells x.c 55 none->ah TE ma 3 (.pointer (some ⟨m15.n,0+3,none⟩))=some (.int .i64 (q:Int)):=λh=>A2 ▸(S1 h).2.2.1;have⟨tl,F1,k0,G1⟩:=a0.ts;have A0:tl.length=s.ts.length:=by grind
 have⟨ql,H3,H1,K2⟩:=a0.qs;have I3:ql.length=s.qs.length:=by grind
 have I1:=a0.ps.cells;refine aW (λvs mm lo=>vs=[aeS]/\N0=mm/\m.n<=lo) (λQ hQ=>?_) ?_
 ·rw[bR,ae,aj];show iW false _ _;rw[aO,a1 j0,ae,aM,ae,aj,abk (by omega),aO,ae,(qS H).2.1,ae,k0.len jR,aA,cB,ae,aj,abk (by omega),aO,E1 j0,ae,aM,ae,aj,abk (by omega),aO,ae,(qS H).2.2.2.1,ae,H1.len rF,aA,cB,ae,aj,abk (by omega),aO];rw[ae,k0.len jR,aA,(qS H).2.2.1,ae,A0];rw[show aJ TE 75 [(0,.int .i64 (s.ts.length:Int)),(1,pv)]=some (HH s.ts.length pv) by rw[ub rfl (by rw[I1];rfl),I1];rfl,ae];refine aE (Ko hX hO a0.ps O0 hW J2) ?_;rw[bj,ae];exact hQ _ _ _ ⟨rfl,rfl,by omega⟩
 rintro _ _ lo ⟨rfl,rfl,c4⟩;obtain⟨xt,J1⟩:∃xt,tl[i]?=some xt:=⟨_,aa5 (by omega)⟩
 have K1:xt.t=t:=by
  grind
 have⟨ta,L2,t1,t2,t3⟩:=k0.index jR (k:=.i64) J1;obtain⟨rfl,d4⟩:L2=xt.c/\D.one xt.w=true:=t3;have t2:ah TE N0 62 ta=some (xt.t.v xt.w):=t2;have⟨M2,e4,N2⟩:=G1 xt (abb J1);rw[aB,aj,aO,(qS H).1,ae,(qS H).2.1,ae,a1 j0,ae,t1,ae,t2,ae];obtain⟨dv,d1,O2,i0,L1⟩:=CF (m:=N0) (t:=xt.t) hX hS a0.y hP.y M2 (by omega) N2;refine aE O2 ?_;have f4:=i0.n;rw[aH,aH];simp only[aa8,aa7,ae];have l0:=i0.cells H;have g0:=i0.cells j0;have B0:=a0.aF i0;rw[K1]at L1;have g4:=vD hS hP.y.tR t;have J3:=hP.y.TJ;refine aW (λvs mm lo=>vs=[aeS]/\d1=mm/\m.n<=lo) (λQ hQ=>?_) ?_
 ·rw[bR,ae,aj];show iW false _ _;rw[aO,(S1 g0).2.1,ae];refine aE (tJ hX L1 (by omega) x.f) ?_;rw[abl D2,bj,ae,aj];show iW false _ _;obtain⟨qx,N1⟩:∃qx,ql[q]?=some qx:=⟨_,aa5 (by omega)⟩
  have O1:qx.q=y:=by
   grind
  have⟨P2,Q2⟩:=K2 qx (abb N1);have h4:=Q2.len;have⟨qb,qo,j4,qg,T2,u1,a3,c3,d3,g3⟩:=(H1.aF i0).gM rF (k:=.i64) N1;obtain⟨rfl, -⟩:T2=qx.c/\D.one qx.w=true:=c3
  have lq:ah TE d1 35 (.pointer (some ⟨qb,qo+1,none⟩))=some qx.w:=by rw[qC,aI a3];exact g3 1 (by show 1 < 2;decide)
  rw[aO,(qS l0).2.2.2.1,ae,E1 g0,ae,u1,ae,iN,ae,lq,ae,(S1 g0).2.1,ae];refine aE (tJ hX (P2.aF i0) (by omega) x.f) ?_;rw[O1,abl E2,bj,ae,aj];show iW false _ _;rw[aO,Ng l0,ae,(S1 g0).2.1,ae];refine aE (tJ hX B0.y.rc (by omega) x.f) ?_;rw[abk F2];exact hQ _ _ _ ⟨rfl,rfl,by omega⟩
 rintro _ _ fS ⟨rfl,rfl,P1⟩;rw[aB,aj,aO];have T1:=O0.aF i0;have h3:(ri (oQ (np s) L i)).length=s.ts.length:=by grind
 have⟨tl,F1,k0,G1⟩:=B0.ts;have A0:tl.length=s.ts.length:=by grind
 refine Lp.intro (γ:=Nat) (λj=>s.ts.length-j) (λj vs mm lo=>∃z,vs=[z,.int .i64 j]/\j<=s.ts.length/\m.n<=lo/\Ext d1 mm/\∀j',j' < j->(oQ (np s) L i)[j']?≠some i) 0 ⟨_,rfl,abh _,P1,.refl,λj' h=>by omega⟩ ?_;rintro j vs mm k4 ⟨z,rfl,hj,C0,xm,a2⟩;rw[aB,aB];have n0:=T1.aF xm;have i3:=xm.cells l0;have b2:=xm.cells g0;have nm:=xm.n;refine aW (λvs m' h1=>∃b:Bool,vs=[.bool b]/\mm=m'/\m.n<=h1/\(b=true->∃w,(oQ (np s) L i)[j]?=some w/\w≠i)) (λQ hQ=>?_) ?_
 ·rw[n0.len dV,h3,aA,aM,ae,aj];refine ak (λc=>?_) (λ_=>hQ _ _ _ ⟨_,rfl,rfl,C0,λh=>by cases h⟩);have j3:j < s.ts.length:=by grind
  obtain⟨w,e0⟩:∃w,(oQ (np s) L i)[j]?=some w:=⟨_,aa5 (by omega)⟩
  obtain⟨pa,i1,v1,v2,v3⟩:=n0.index dV (k:=.i64) (show(ri (oQ (np s) L i))[j]?=some (w:Int) by grind);obtain rfl:i1=[.int .i64 (w:Int)]:=v3;have v2:ah TE mm 3 pa=some (.int .i64 (w:Int)):=v2;rw[v1,ae,v2,ae,a1 b2,ae,bR,ae];refine hQ _ _ _ ⟨_,rfl,rfl,C0,λh=>⟨w,e0,λe=>?_⟩⟩;rw[e,abl rfl]at h;cases h
 rintro _ _ l4 ⟨b,rfl,rfl,d2,hb⟩;rw[aB,aj];refine ak (λc=>?_) (λ_=>⟨rfl,d2⟩);have⟨w,e0,g2⟩:=hb c;have j3:=(aa9.1 e0).1
 have k3:dT (np s) i w=true:=by
  have l3:j < (wH (np s) L i).length:=by
   refine Nat.lt_of_not_le λm4=>?_
   have o0:(oQ (np s) L i)[(wH (np s) L i).length]?=some i:=by unfold oQ;rw[acp (aa4 _),aea];rfl
   rcases adS (wH (np s) L i).length j with h |h;·exact a2 _ h o0
   have:j=(wH (np s) L i).length:=by omega
   rw[<-this,e0]at o0;exact g2 (Option.some.inj o0)
  unfold oQ at e0;rw[acJ l3]at e0;exact(abW.1 (abb e0)).2
 have n4:w < s.ts.length:=hW.lt w (abb e0);obtain⟨ut,m3⟩:∃ut,tl[w]?=some ut:=⟨_,aa5 (by omega)⟩
 have h2:s.ts[w]?=some ut.t:=by grind
 have p0:=G2 w ut.t h2 k3;have⟨ua,n3,u1,u2,u3⟩:=(k0.aF xm).index jR (k:=.i64) m3;obtain⟨rfl,i2⟩:n3=ut.c/\D.one ut.w=true:=u3;have u2:ah TE mm 62 ua=some (ut.t.v ut.w):=u2;obtain⟨pa,i1,v1,v2,v3⟩:=n0.index dV (k:=.i64) (show(ri (oQ (np s) L i))[j]?=some (w:Int) by grind);obtain rfl:i1=[.int .i64 (w:Int)]:=v3;have v2:ah TE mm 3 pa=some (.int .i64 (w:Int)):=v2;rw[(qS i3).2.1,ae,v1,ae,v2,ae,u1,ae,u2,ae];refine av λK3 o3 j1 r3=>?_;refine aC og j1 rfl rfl (Tk.cR i2) λq0 w3 k1 y3=>?_;have gU:q0.get mm.n=.cells (ut.t.c ut.w) 62 none:=k1;have r0:Ext mm q0:=⟨by omega,by grind⟩
 have n149:=r0.n;obtain⟨b0,b1, -,b3, -⟩:=oK gU;have s0:=r0.cells b2;refine aW (λvs m' h1=>vs=[aeS]/\q0=m'/\m.n<=h1) (λQ hQ=>?_) ?_
 ·unfold FD at p0;rw[b0,ae,aS,ae,aj];refine ak (λc1=>?_) (λc1=>hQ _ _ _ ⟨rfl,rfl,by omega⟩);rw[b1,ae,(S1 s0).2.2.2.1,ae,aS,ae,aj];refine ak (λc2=>?_) (λc2=>hQ _ _ _ ⟨rfl,rfl,by omega⟩);rw[b3,ae,(S1 s0).2.2.2.2,ae,aS,ae];refine hQ _ _ _ ⟨?_,rfl,by omega⟩;rw[c1,c2,abG,abG]at p0;rw[p0]
 rintro _ _ o4 ⟨rfl,rfl,j2⟩;rw[aB,aj,aO,aQ,ae,wrap64 (by omega) (by omega)];refine⟨j+1,by omega,z,rfl,by omega,j2,xm.trans r0,λj' r4=>?_⟩;by_cases ej:j'=j;·rw[ej,e0];exact λh=>g2 (Option.some.inj h)
 exact a2 j' (by omega)
end
end Go.Proofs.YtigpcbodmjjaiaaGreatDoor
