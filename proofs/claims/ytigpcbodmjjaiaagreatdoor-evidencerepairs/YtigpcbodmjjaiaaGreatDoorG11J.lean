/- putlogref29.Same: of two copies .. -/
import Derived.Test.YtigpcbodmjjaiaaGreatDoorG10J
set_option maxRecDepth 100000
noncomputable section
namespace Go.Proofs.YtigpcbodmjjaiaaGreatDoor
open Go Go.D Go.Proofs.Tryz
section
variable {X:aK} {m:M}
theorem SE{x:Fc}:aA TE .neq 53 x.v x.v=some Zf:=by
 have h:aA TE .neq 53 x.v x.v=some (.bool (!((x.un==x.un) && ((x.side==x.side) && true)))):=by kernel_rfl
 grind
theorem ab8{x:Mo}:aA TE .neq 109 x.v x.v=some Zf:=by
 have h:aA TE .neq 109 x.v x.v=some (.bool (!((x.a==x.a) && ((x.b==x.b) && ((x.du==x.du) && true))))):=by kernel_rfl
 grind
theorem W5{x:Nat×Nat}:aA TE .neq 69 (.agg (yi x).toArray) (.agg (yi x).toArray)=some Zf:=by
 have h:aA TE .neq 69 (.agg (yi x).toArray) (.agg (yi x).toArray)=some (.bool (!(((x.1:Int)==(x.1:Int)) && (((x.2:Int)==(x.2:Int)) && true)))):=by kernel_rfl
 grind
theorem SJ{l:List KW}{st:Φ}(h:Sl m l st){i:Nat}{x:KW}(hx:l[i]?=some x):∃b o,ak TE 34 st (YR i)=some (Ga b o)/\ah TE m 60 (Ga b (o+0))=some (x.u.v x.w)/\ah TE m 31 (Ga b (o+6))=some x.mv:=by
 have⟨b,o,H,g,cs,q1,q2,q3,q4,q5⟩:=h.fa eM (k:=.i64) hx;obtain⟨rfl, -, -⟩:cs=x.c/\one x.w/\one x.mv:=q3;have q4:o+7<=H.length:=q4;refine⟨b,o,q1,?_,?_⟩
 ·rw[nF,aQ (n:=6) q2 (by omega)];have:(H.drop (o+0)).take 6=x.u.c x.w:=by
   apply OG;intro j;rw[FM];split
   ·rename_i hj;rw[Kb,PD,q5 j (by show j<7;omega)];grind
   ·grind
  grind
 rw[ki,aI q2];exact q5 6 (by show 6<7;decide)
theorem ad9(hX:cd X){l:List Fc}{v v':Φ}(h:Sl m l v)(h':Sl m l v')(hb:l.length<1000000):C X (.func 21) [v,v'] m m.n Ku m:=by
 refine Cl.fG hX (Kg func21) ?_;rw[F21];dsimp only[δ,ζ,η,κ,χ];rw[h.len dA,az,h'.len dA,az,bL,ae,aj,CM,V8,aN];refine Lp.intro (γ:=Nat) (λi=>l.length-i) (λi vs mm lo=>vs=[Zf,YR i]/\i<=l.length/\m=mm/\m.n<=lo) 0 ⟨rfl,ZE _,rfl,Ox _⟩ ?_;rintro i vs _ lo ⟨rfl,hi,rfl,a0⟩;rw[aB,aB,h.len dA,az,aM,ae,aj];refine an (λH=>?_) (λ_=>⟨rfl,a0⟩);have H:i<l.length:=by grind
 obtain⟨x,hx⟩:∃x,l[i]?=some x:=⟨_,Fx H⟩
 have⟨a,e1,e2⟩:=lZ h hx;have⟨b,e3,e4⟩:=lZ h' hx;rw[e1,ae,e2,ae,e3,ae,e4,ae,SE,ae,aj,aN,aP,ae,wrap64];exact⟨i+1,by omega,rfl,H,rfl,a0⟩
theorem su(hX:cd X){l l':List TW}{v v':Φ}(h:Sl m l v)(h':Sl m l' v')(ht:zt m l)(a0:zt m l')(he:l.map TW.t=l'.map TW.t)(hb:l.length<1000000):C X (.func 12) [v,v'] m m.n Ku m:=by
 have b0:l.length=l'.length:=by have:=congrArg List.length he;rwa[Gv,Gv]at this
 refine Cl.fG hX (Kg func12) ?_;rw[F12];dsimp only[δ,ζ,η,κ,ο,χ,ψ];rw[h.len cV,az,h'.len cV,az,b0,bL,ae,aj,CM,V8,aN];refine Lp.intro (γ:=Nat) (λi=>l.length-i) (λi vs mm lo=>vs=[Zf,YR i]/\i<=l.length/\m=mm/\m.n<=lo) 0 ⟨rfl,ZE _,rfl,Ox _⟩ ?_;rintro i vs _ lo ⟨rfl,hi,rfl,d0⟩;rw[aB,aB,h.len cV,az,aM,ae,aj];refine an (λH=>?_) (λ_=>⟨rfl,d0⟩);have H:i<l.length:=by grind
 obtain⟨x,hx⟩:∃x,l[i]?=some x:=⟨_,Fx H⟩
 obtain⟨y,hy⟩:∃y,l'[i]?=some y:=⟨_,Fx (by omega)⟩
 have e0:x.t=y.t:=by
  have:=congrArg (λq:List Tk=>q[i]?) he;grind
 have⟨a,cs,e1,e2,e3⟩:=h.index cV (k:=.i64) hx;obtain⟨rfl, -⟩:cs=x.c/\one x.w:=e3;have⟨b,cs,f1,f2,f3⟩:=h'.index cV (k:=.i64) hy;obtain⟨rfl, -⟩:cs=y.c/\one y.w:=f3;have e2:ah TE m 62 a=some (x.t.v x.w):=e2;have f2:ah TE m 62 b=some (y.t.v y.w):=f2;have h1:=ht x (LZ hx);rw[e1,ae,e2,ae,f1,ae,f2,ae];refine aG (Ah hX h1.1 (a0 y (LZ hy)).1 (by omega)) ?_;rw[IH e0,bk,ae,aj];show gH false _ _;rw[aN,aP,ae,wrap64];exact⟨i+1,by omega,rfl,H,rfl,by omega⟩
set_option maxHeartbeats 1000000 in
theorem adq(hX:cd X){y:Yd}{r r2 st rc mo r' r2' g0 i0 j0:Φ}(h:lR m y r r2 st rc mo)(h':lR m y r' r2' g0 i0 j0)(hP:qG y):C X (.func 38) [yv r r2 st rc mo,yv r' r2' g0 i0 j0] m m.n Ku m:=by
 refine Cl.fG hX (Kg func38) ?_;rw[F38];dsimp only[δ,ε,ζ,η,κ,ο,ρ,υ,χ,ψ,ω];refine aw λm1 L0 v0 N0=>?_;refine aw λm2 O0 y0 z0=>?_;have x2:Ext m m2:=⟨by omega,by grind⟩
 have g1:m2.get m.n=.cells (yc r r2 st rc mo) 38 none:=(z0 m.n (by omega)).trans v0;have g2:m2.get m1.n=.cells (yc r' r2' g0 i0 j0) 38 none:=y0;have⟨⟨us,m0,hF⟩,A0,⟨kl,B0,hK⟩,k0,l0⟩:=h.aE x2;have⟨⟨bM,n0,C0⟩,o0,⟨p0,q0,b0⟩,d0,e0⟩:=h'.aE x2
 have D0:us.length < 1000000:=by have h1:=hP.qE.len;rw[<-m0]at h1;have:(Go.Proofs.YtigpcbodmjjaiaaGreatDoor.bM us).length=us.length:=Gv _;omega
 have P0:y.ms.length < 1000000:=by
  have h1:=hP.Jf
  have h2:(allM y.ms y.st).length=(y.ms++(allM [] y.st)).length:=by unfold allM;simp
  grind
 have H0:=hP.Qq
 have E0:kl.length=p0.length:=by
  grind
 have I0:kl.length<=12:=by grind
 have J0:=hP.Ss;have K0:=hP.SF;unfold ptrTo;simp only[cF,dG,dF,eV,bW,cO,ae];refine aZ (λvs mm lo=>vs=[Zf]/\m2=mm/\m.n<=lo) (λQ hQ=>?_) ?_
 ·rw[(dW g1).1,ae,(dW g2).1,ae];refine aG (Jr hX hF C0 D0 A0 o0 (by omega)) ?_;rw[IH (m0.trans n0.symm),IH rfl,bk,ae,aj];show gH false _ _
  rw[aN,(dW g1).2.1,ae,hK.sl.len eM,az,(dW g2).2.1,ae,b0.sl.len eM,az,E0,bL,ae,aj,CM,V8,aN,
   (dW g1).2.2.1,ae,k0.len dA,az,(dW g2).2.2.1,ae,d0.len dA,az,bL,ae,aj,CM,V8,aN,
   (dW g1).2.2.2.1,ae,l0.len jH,az,(dW g2).2.2.2.1,ae,e0.len jH,az,bL,ae,CM]
  exact hQ _ _ _ ⟨rfl,rfl,by omega⟩
 rintro _ _ lo ⟨rfl,rfl,H⟩;rw[aB,aj,aN];refine Lp.intro (γ:=Nat) (λi=>kl.length-i) (λi vs mm lo=>vs=[Zf,.int .i64 i]/\i<=kl.length/\m2=mm/\m.n<=lo) 0 ⟨rfl,ZE _,rfl,H⟩ ?_;clear H;rintro i vs _ lo ⟨rfl,hi,rfl,H⟩;rw[aB,aB,(dW g1).2.1,ae,hK.sl.len eM,az,aM,ae,aj];refine an (λa0=>?_) (λ_=>?_)
 ·have a0:i < kl.length:=by grind
  obtain⟨x,hx⟩:∃x,kl[i]?=some x:=⟨_,Fx a0⟩
  obtain⟨z,hz⟩:∃x,p0[i]?=some x:=⟨_,Fx (by omega)⟩
  have r0:x.k=z.k:=by
   have:=congrArg (λq:List Kp=>q[i]?) (B0.trans q0.symm)
   grind
  have F0:x.u=z.u:=congrArg Kp.un r0;have G0:x.ms=z.ms:=congrArg Kp.ms r0;have mx:=LZ hx;have mz:=LZ hz;have⟨b,o,e1,e2,e3⟩:=SJ hK.sl hx;have⟨b',o',f1,f2,f3⟩:=SJ b0.sl hz;have l1:=hK.ln x mx;have l2:=hK.lm x mx;refine aZ (λvs mm lo=>vs=[Zf]/\m2=mm/\m.n<=lo) (λQ hQ=>?_) ?_
  ·rw[ae,e1,ae,bW,ae,e2,ae,(dW g2).2.1,ae,f1,ae,bW,ae,f2,ae];refine aG (uc hX (hK.sh x mx) (b0.sh z mz) (by omega)) ?_;rw[IH F0,bk,ae,aj];show gH false _ _;rw[aN,(dW g1).2.1,ae,e1,ae,cO,ae,e3,ae,(dW g2).2.1,ae,f1,ae,cO,ae,f3,ae];refine aG (Ag hX (hK.mv x mx) (b0.mv z mz) (by omega)) ?_;rw[IH G0,bk,ae];exact hQ _ _ _ ⟨rfl,rfl,by omega⟩
  rintro _ _ a1 ⟨rfl,rfl,u0⟩;rw[aB,aj,aN,aP,ae,wrap64];exact⟨i+1,by omega,rfl,a0,rfl,u0⟩
 refine Lp.intro (γ:=Nat) (λi=>y.rc.length-i) (λi vs mm lo=>vs=[Zf,.int .i64 i]/\i<=y.rc.length/\m2=mm/\m.n<=lo) 0 ⟨rfl,ZE _,rfl,H⟩ ?_;clear H hi;rintro i vs _ lo ⟨rfl,hi,rfl,H⟩;rw[aB,aB,(dW g1).2.2.1,ae,k0.len dA,az,aM,ae,aj];refine an (λa0=>?_) (λ_=>?_)
 ·have a0:i < y.rc.length:=by grind
  obtain⟨x,hx⟩:∃x,y.rc[i]?=some x:=⟨_,Fx a0⟩
  have⟨a,e1,e2⟩:=lZ k0 hx;have⟨b,e3,e4⟩:=lZ d0 hx;rw[ae,e1,ae,e2,ae,(dW g2).2.2.1,ae,e3,ae,e4,ae,SE,ae,aj,aN,aP,ae,wrap64];exact⟨i+1,by omega,rfl,a0,rfl,H⟩
 refine Lp.intro (γ:=Nat) (λi=>y.mo.length-i) (λi vs mm lo=>vs=[Zf,.int .i64 i]/\i<=y.mo.length/\m2=mm/\m.n<=lo) 0 ⟨rfl,ZE _,rfl,H⟩ ?_;clear H hi;rintro i vs _ lo ⟨rfl,hi,rfl,H⟩;rw[aB,aB,(dW g1).2.2.2.1,ae,l0.len jH,az,aM,ae,aj];refine an (λa0=>?_) (λ_=>⟨rfl,H⟩);have a0:i < y.mo.length:=by grind
 obtain⟨x,hx⟩:∃x,y.mo[i]?=some x:=⟨_,Fx a0⟩
 obtain⟨a,o,e1,e2, -, -⟩:=Au l0 hx;obtain⟨b,o',e3,e4, -, -⟩:=Au e0 hx;rw[ae,e1,ae,e2,ae,(dW g2).2.2.2.1,ae,e3,ae,e4,ae,ab8,ae,aj,aN,aP,ae,wrap64];exact⟨i+1,by omega,rfl,a0,rfl,H⟩
theorem Su{l:List QW}{v:Φ}(h:Sl m l v){i:Nat}{x:QW}(H:l[i]?=some x):∃b o,ak TE 41 v (YR i)=some (Ga b o)/\ah TE m 3 (Ga b (o+0))=some (YR x.q.id)/\ah TE m 35 (Ga b (o+1))=some x.w:=by
 have⟨b,o,bc,g,cs,q1,q2,q3,q4,q5⟩:=h.fa kQ (k:=.i64) H;obtain⟨rfl, -⟩:cs=x.c/\one x.w:=q3;refine⟨b,o,q1,?_,?_⟩;·rw[bF,aI q2];exact q5 0 (by show 0<2;decide)
 rw[nG,aI q2];exact q5 1 (by show 1<2;decide)
set_option maxHeartbeats 1000000 in
theorem Jq(hX:cd X){s:jk}{r r2 st rc mo tv pv qv r' r2' e0 g0 i0 j0 k0 l0:Φ}(hP:EN s)(h:oQ m s r r2 st rc mo tv pv qv)(h':oQ m s r' r2' e0 g0 i0 j0 k0 l0):C X (.func 11) [nj r r2 st rc mo tv pv qv,nj r' r2' e0 g0 i0 j0 k0 l0] m m.n Ku m:=by
 refine Cl.fG hX (Kg func11) ?_;rw[F11];dsimp only[δ,ε,ζ,η,κ,ο,ρ,υ,χ,ψ,ω];refine aw λm1 L0 D0 N0=>?_;refine aw λm2 O0 E0 F0=>?_;have x2:Ext m m2:=⟨by omega,by grind⟩
 have g1:m2.get m.n=.cells (scc r r2 st rc mo tv pv qv) 43 none:=(F0 m.n (by omega)).trans D0;have g2:m2.get m1.n=.cells (scc r' r2' e0 g0 i0 j0 k0 l0) 43 none:=E0;have⟨hY,⟨tl,o0,G0,H0⟩,m0,⟨ql,p0,n0,I0⟩⟩:=h.aE x2;have⟨J0,⟨P0,q0,r0,u0⟩,b0,⟨v0,y0,d0,z0⟩⟩:=h'.aE x2;have lt:=hP.tl;have lp:=hP.od.len;have lq:=hP.ql
 have K0:ql.length=v0.length:=by
  grind
 rw[<-o0,Gv]at lt;rw[<-p0,Gv]at lq;unfold ptrTo;simp only[dE,cX,dZ,eU,ae];refine aZ (λvs mm lo=>vs=[Zf]/\m2=mm/\m.n<=lo) (λQ hQ=>?_) ?_
 ·rw[(fK g1).1,ae,(fK g2).1,ae];refine aG (adq hX hY J0 hP.y) ?_;rw[bk,ae,aj];show gH false _ _;rw[aN,(fK g1).2.1,ae,(fK g2).2.1,ae];refine aG (su hX G0 r0 H0 u0 (o0.trans q0.symm) (by omega)) ?_;rw[bk,ae,aj];show gH false _ _
  rw[aN,(fK g1).2.2.1,ae,m0.len iM,az,(fK g2).2.2.1,ae,b0.len iM,az,bL,ae,aj,CM,V8,aN,
   (fK g1).2.2.2.1,ae,n0.len kQ,az,(fK g2).2.2.2.1,ae,d0.len kQ,az,K0,bL,ae,CM]
  exact hQ _ _ _ ⟨rfl,rfl,by omega⟩
 rintro _ _ lo ⟨rfl,rfl,H⟩;rw[aB,aj,aN];refine Lp.intro (γ:=Nat) (λi=>s.ps.length-i) (λi vs mm lo=>vs=[Zf,.int .i64 i]/\i<=s.ps.length/\m2=mm/\m.n<=lo) 0 ⟨rfl,ZE _,rfl,H⟩ ?_;clear H;rintro i vs _ lo ⟨rfl,hi,rfl,H⟩;rw[aB,aB,(fK g1).2.2.1,ae,m0.len iM,az,aM,ae,aj];refine an (λa0=>?_) (λ_=>?_)
 ·have a0:i < s.ps.length:=by grind
  obtain⟨x,hx⟩:∃x,s.ps[i]?=some x:=⟨_,Fx a0⟩
  have⟨a,cs,e1,e2,e3⟩:=m0.index iM (k:=.i64) hx;obtain rfl:cs=yi x:=e3;have⟨b,cs,f1,f2,f3⟩:=b0.index iM (k:=.i64) hx;obtain rfl:cs=yi x:=f3;have e2:ah TE m2 69 a=some (.agg (yi x).toArray):=e2;have f2:ah TE m2 69 b=some (.agg (yi x).toArray):=f2;rw[ae,e1,ae,e2,ae,(fK g2).2.2.1,ae,f1,ae,f2,ae,W5,ae,aj,aN,aP,ae,wrap64];exact⟨i+1,by omega,rfl,a0,rfl,H⟩
 refine Lp.intro (γ:=Nat) (λi=>ql.length-i) (λi vs mm lo=>vs=[Zf,.int .i64 i]/\i<=ql.length/\m2=mm/\m.n<=lo) 0 ⟨rfl,ZE _,rfl,H⟩ ?_;clear H hi;rintro i vs _ lo ⟨rfl,hi,rfl,H⟩;rw[aB,aB,(fK g1).2.2.2.1,ae,n0.len kQ,az,aM,ae,aj];refine an (λa0=>?_) (λ_=>⟨rfl,H⟩);have a0:i < ql.length:=by grind
 obtain⟨x,hx⟩:∃x,ql[i]?=some x:=⟨_,Fx a0⟩
 obtain⟨z,hz⟩:∃x,v0[i]?=some x:=⟨_,Fx (by omega)⟩
 have A0:x.q=z.q:=by
  have:=congrArg (λq:List Qn=>q[i]?) (p0.trans y0.symm)
  grind
 have⟨hn,hQ⟩:=I0 x (LZ hx);have a1:=hQ.len;have B0:=(z0 z (LZ hz)).1;rw[<-A0]at B0;have⟨b,o,e1,e2,e3⟩:=Su n0 hx;have⟨b',o',f1,f2,f3⟩:=Su d0 hz;rw[<-A0]at f2;refine aZ (λvs mm lo=>vs=[Zf]/\m2=mm/\m.n<=lo) (λQ hQ=>?_) ?_
 ·rw[ae,e1,ae,fY,ae,e2,ae,(fK g2).2.2.2.1,ae,f1,ae,fY,ae,f2,ae,bL,ae,aj,CM,V8,aN,
   ae,e1,ae,eT,ae,e3,ae,ae,f1,ae,eT,ae,f3,ae]
  refine aG (ad9 hX hn B0 (by omega)) ?_;rw[bk,ae];exact hQ _ _ _ ⟨rfl,rfl,by omega⟩
 rintro _ _ b1 ⟨rfl,rfl,C0⟩;rw[aB,aj,aN,aP,ae,wrap64];exact⟨i+1,by omega,rfl,a0,rfl,C0⟩
end
section
def oP(acc:List Fc)(f:Fc):List Fc:=if f∈acc then acc else acc++ [f]
def cS(l:List Ls):List Fc:=l.foldl (λacc x=>oP acc x.f) []
theorem nL(l:List Ls)(f:Fc):f∈cS l↔∃x∈l,x.f=f:=by
 have key:∀(l:List Ls) (acc:List Fc),f∈l.foldl (λacc x=>oP acc x.f) acc↔f∈acc\/∃x∈l,x.f=f:=by
  intro l;induction l with
  |nil=>intro acc;simp
  |cons x r ih=>
   intro acc;rw[IW,ih];unfold oP;split
   ·rename_i h;constructor
    ·rintro(h1|⟨y,H,e⟩);·exact .inl h1
     exact .inr ⟨y,W6 _ H,e⟩
    rintro(h1|⟨y,H,e⟩);·exact .inl h1
    rcases RN.1 H with rfl|H;·exact .inl (e ▸ h)
    exact .inr ⟨y,H,e⟩
   rw[OH,Qk];constructor
   ·rintro((h1|h1)|⟨y,H,e⟩);·exact .inl h1
    ·exact .inr ⟨x,zN,h1.symm⟩
    exact .inr ⟨y,W6 _ H,e⟩
   rintro(h1|⟨y,H,e⟩);·exact .inl (.inl h1)
   rcases RN.1 H with rfl|H;·exact .inl (.inr e.symm)
   exact .inr ⟨y,H,e⟩
 unfold cS;rw[key];simp
theorem GL{acc:List Fc}(h:acc.Nodup)(f:Fc):(oP acc f).Nodup:=by
 unfold oP;split;·exact h
 rename_i H;rw[JQ];exact⟨h,by simp,λa ha b hb=>by rw[Qk.1 hb];rintro rfl;exact H ha⟩
theorem Ci(l:List Ls):(cS l).Nodup:=by
 have key:∀(l:List Ls) (acc:List Fc),acc.Nodup->(l.foldl (λacc x=>oP acc x.f) acc).Nodup:=by
  intro l;induction l with
  |nil=>exact λacc h=>h
  |cons x r H=>exact λacc h=>H _ (GL h _)
 exact key l [] List.nodup_nil
def tH(sf:List Fc->List Fc)(us:List Un)(t:Tk)(f:Fc):Bool:=((decide (t.kind=2) ||decide (t.kind=4)) && decide (t.id=f.un)) ||decide (f∈lI sf us t)
def Bw(sf:List Fc->List Fc)(s:jk)(r:Nat)(f:Fc)(k:Nat):Option (Nat×Nat):=match s.ts[k]? with
 |some t=>if tH sf s.y.us t f=true then some (r,k)else none
 |none=>none
def Dp(sf:List Fc->List Fc)(s:jk)(F:List Fc)(j:Nat):List (Nat×Nat):=match F[j]? with
 |some f=>(List.range s.ts.length).filterMap (Bw sf s (s.ts.length+j) f)
 |none=> []
def nz(sf:List Fc->List Fc)(s:jk)(F:List Fc):List (Nat×Nat):=(List.range F.length).flatMap (Dp sf s F)
def eP(sf:List Fc->List Fc)(s:jk)(F:List Fc):jk:=⟨s.y,s.ts++F.map fo,s.ps++nz sf s F,s.qs⟩
theorem Dn{sf:List Fc->List Fc}{s:jk}{F:List Fc}{p:Nat×Nat}:p∈nz sf s F↔∃j f k t,F[j]?=some f/\s.ts[k]?=some t/\tH sf s.y.us t f/\p=(s.ts.length+j,k):=by
 unfold nz;rw[KB];constructor
 ·rintro⟨j,hj,h⟩;unfold Dp at h;split at h
  ·rename_i f H;have⟨k,hk,h⟩:=Po.1 h;unfold Bw at h;split at h
   ·rename_i t ht;split at h;·rename_i ha;cases h;exact⟨j,f,k,t,H,ht,ha,rfl⟩
    cases h
   cases h
  cases h
 rintro⟨j,f,k,t,H,ht,ha,rfl⟩;refine⟨j,Bv.2 (OJ.1 H).1,?_⟩;unfold Dp;rw[H];refine Po.2 ⟨k,Bv.2 (OJ.1 ht).1,?_⟩;unfold Bw;rw[ht];show(if tH sf s.y.us t f=true then some (s.ts.length+j,k)else none)=_;rw[Tf ha]
theorem M4{sf:List Fc->List Fc}{s:jk}{F:List Fc}:(nz sf s F).length<=F.length*s.ts.length:=by
 have h1:∀j,(Dp sf s F j).length<=s.ts.length:=λj=>by
  unfold Dp;split;·have:=WR (Bw sf s (s.ts.length+j) ‹Fc›) (List.range s.ts.length);rwa[QR]at this
  exact ZE _
 have H:∀l:List Nat,(l.flatMap (Dp sf s F)).length<=l.length*s.ts.length:=by
  intro l;induction l with
  |nil=>simp
  |cons j r ih=>rw[Fw,NN,zG,JY,KR];have:=h1 j;omega
 have:=H (List.range F.length);rwa[QR]at this
section
variable {sf:List Fc->List Fc} {s:jk} {F:List Fc}
theorem yp(H:It s){p:Nat×Nat}(h:p∈(eP sf s F).ps):(p∈s.ps/\p.1<p.2/\p.2<s.ts.length)\/∃j f k t,F[j]?=some f/\s.ts[k]?=some t/\tH sf s.y.us t f/\p=(s.ts.length+j,k):=by
 rcases OH.1 h with h|h;·exact .inl ⟨h,H.Y5 p h⟩
 exact .inr (Dn.1 h)
def Am(n k:Nat):Nat:=if k < n then k+1 else 0
theorem Nw{us:List Un}{f:Fc}:ru us (fo f):=by unfold ru fo;simp
theorem QK(H:It s)(h1:s.ts.length+F.length<=8)(h2:s.ps.length+(nz sf s F).length<=28):CO (eP sf s F).ts.length (eP sf s F).ps:=by
 have el:(eP sf s F).ts.length=s.ts.length+F.length:=by show(s.ts++F.map fo).length=_;rw[NN,Gv]
 rw[el];refine .BK (Am s.ts.length) h1 (by show(s.ps++nz sf s F).length<=28;rw[NN];exact h2) λp hp=>?_;rcases yp H hp with⟨-,a,b⟩|⟨j,f,k,t,a,b,c,rfl⟩;·unfold Am;rw[WD,Tf b];omega
 have hj:=(OJ.1 a).1;have hk:=(OJ.1 b).1;unfold Am;dsimp only;rw[im,Tf hk];omega
theorem Fz(H:It s)(hF:∀f∈F,(0<=f.un/\f.un<=99)/\ -2<=f.side/\f.side<=7)(h1:s.ts.length+F.length<=8)(h2:s.ps.length+(nz sf s F).length<=28):EN (eP sf s F) where
 y:=H.y
 ts:=λt ht=>by
  rcases OH.1 ht with h|h;·exact H.ts t h
  ·obtain⟨f,hf,rfl⟩:=LY.1 h;exact⟨AH (hF f hf),Nw⟩
 od:=QK H h1 h2
 qs:=H.qs
 ql:=H.ql
 tP:=H.tP
theorem AL(H:It s):∀f∈cS (dM sf s),(0<=f.un/\f.un<=99)/\ -2<=f.side/\f.side<=7:=by intro f hf;obtain⟨x,hx,rfl⟩:=(nL _ _).1 hf;obtain⟨i,q,t,y, -, -, -,hy, -,hn, -⟩:=uF hx;exact(H.qs y (LZ hy)).ok _ hn
theorem Ho{k:Nat}{t:Tk}(h:s.ts[k]?=some t):(eP sf s F).ts[k]?=some t:=by show(s.ts++F.map fo)[k]?=_;rw[QH (OJ.1 h).1,h]
theorem Hn{j:Nat}{f:Fc}(h:F[j]?=some f):(eP sf s F).ts[s.ts.length+j]?=some (fo f):=by show(s.ts++F.map fo)[s.ts.length+j]?=_;rw[zC (by omega),Gg,Z0,h];rfl
theorem ur{k:Nat}{t:Tk}(h:(eP sf s F).ts[k]?=some t):s.ts[k]?=some t\/∃j f,k=s.ts.length+j/\F[j]?=some f/\t=fo f:=by
 have h:(s.ts++F.map fo)[k]?=some t:=h;by_cases hk:k<s.ts.length;·rw[QH hk]at h;exact .inl h
 rw[zC (by omega),Z0,Tq]at h;obtain⟨f,H,rfl⟩:=h;exact .inr ⟨k-s.ts.length,f,by omega,H,rfl⟩
theorem Pr{us:List Un}{f:Fc}:lI sf us (fo f)=[]:=by
 unfold lI fo;dsimp only;split;·rfl
 rfl
theorem Bx{f g:Fc}:yd (fo f) g↔f=g:=by unfold yd fo;cases f;cases g;simp
theorem abg(hM:It s)(hF:∀x∈dM sf s,x.f∈F)(hO:CO (eP sf s F).ts.length (eP sf s F).ps):dM sf (eP sf s F)=[]:=by
 refine Z4.2 λx hx=>?_;have⟨i,q,t,y,e1,e2,ht,hy,hf,hn,hr,ho⟩:=uF hx;rcases ur ht with ht|⟨j,f,rfl,hj,rfl⟩
 ·have hs:x∈dM sf s:=by
   refine DO e1 e2 ht hy hf hn hr λk u hu hb=>ho k u (Ho hu) ?_;have hle:s.ts.length<=(eP sf s F).ts.length:=by show s.ts.length<=(s.ts++F.map fo).length;rw[NN];omega
   have c1:=iX (n:=s.ts.length) (t:=jF s.ps) (by rw[iw];exact hM.tl) (nV hM.tl λp H=>⟨(hM.od.ok p H).1,(hM.od.ok p H).2.1⟩);have c2:=iX (n:=(eP sf s F).ts.length) (t:=jF (eP sf s F).ps) (by rw[iw];exact hO.le) (nV hO.le λp H=>⟨(hO.ok p H).1,(hO.ok p H).2.1⟩);refine c1.least (λb a=>iK (vN (eP sf s F)) b a=true) (λb a hb=>c2.sub b a ?_) c2.tr i k hb;unfold jF at hb⊢;rw[pU s.ps kc (λp H=>by have:=(hM.od.ok p H).2.1;have:=hM.tl;show p.2<8;omega),nT,Qw,JL]at hb;rw[pU _ kc (λp H=>by have:=(hO.ok p H).2.1;have:=hO.le;show p.2<8;omega),nT,Qw,JL];have⟨p,H,e⟩:=hb;exact⟨p,List.mem_append_left _ H,e⟩
  have⟨j,hj⟩:=KF.1 (hF x hs);have h:=ho (s.ts.length+j) (fo x.f) (Hn hj) ?_;·rw[Bx.2 rfl]at h;cases h
  have c2:=iX (n:=(eP sf s F).ts.length) (t:=jF (eP sf s F).ps) (by rw[iw];exact hO.le) (nV hO.le λp H=>⟨(hO.ok p H).1,(hO.ok p H).2.1⟩);refine c2.sub _ _ ?_;unfold jF;rw[pU _ kc (λp H=>by have:=(hO.ok p H).2.1;have:=hO.le;show p.2<8;omega),nT,Qw,JL];refine⟨(s.ts.length+j,i),List.mem_append_right _ (Dn.2 ⟨j,x.f,i,t,hj,ht,?_,rfl⟩),by simp⟩;unfold tH;rw[Qf,EU];exact .inr hf
 rw[Pr]at hf;cases hf
def fb(k a:Nat):Nat:=if k < a then a-1 else a
def wP(ps:List (Nat×Nat))(k:Nat):List (Nat×Nat):=(ps.filter λp=> !decide (p.1=k) && !decide (p.2=k)).map λp=>(fb k p.1,fb k p.2)
def wS(s:jk)(k:Nat):jk:=⟨s.y,s.ts.take k++s.ts.drop (k+1),wP s.ps k,s.qs⟩
theorem Lw{ps:List (Nat×Nat)}{k:Nat}{p:Nat×Nat}:p∈wP ps k↔∃q∈ps,q.1≠k/\q.2≠k/\p=(fb k q.1,fb k q.2):=by
 unfold wP;rw[LY];constructor;·rintro⟨q,H,rfl⟩;rw[RL]at H;simp only[JJ,Jd,Nd]at H;exact⟨q,H.1,H.2.1,H.2.2,rfl⟩
 rintro⟨q,H,h1,h2,rfl⟩;refine⟨q,RL.2 ⟨H,?_⟩,rfl⟩;simp[h1,h2]
theorem Se{j k:Nat}(hj:j<F.length):(wS (eP sf s F) (s.ts.length+j)).ts[k]?=(eP sf s F).ts[if k<s.ts.length+j then k else k+1]?:=by
 show((s.ts++F.map fo).take (s.ts.length+j)++(s.ts++F.map fo).drop (s.ts.length+j+1))[k]?=(s.ts++F.map fo)[if k<s.ts.length+j then k else k+1]?;have H:((s.ts++F.map fo).take (s.ts.length+j)).length=s.ts.length+j:=by rw[Gy,NN,Gv];omega
 by_cases hk:k<s.ts.length+j;·rw[QH (by omega),NU hk,Tf hk]
 ·rw[zC (by omega),H,Kb,QL hk];congr 1;omega
theorem adf{j:Nat}(H:j<F.length):(wS (eP sf s F) (s.ts.length+j)).ts.length=s.ts.length+F.length-1:=by show((s.ts++F.map fo).take (s.ts.length+j)++(s.ts++F.map fo).drop (s.ts.length+j+1)).length=_;rw[NN,Gy,VY,NN,Gv];omega
theorem Sd(hM:It s)(h1:s.ts.length+F.length<=8)(h2:s.ps.length+(nz sf s F).length<=28){j:Nat}(hj:j<F.length):
  CO (wS (eP sf s F) (s.ts.length+j)).ts.length (wS (eP sf s F) (s.ts.length+j)).ps:=by
 rw[adf hj];have hle:(wP (eP sf s F).ps (s.ts.length+j)).length<=28:=by unfold wP;rw[Gv];refine YB (Ei _ _) ?_;show(s.ps++nz sf s F).length<=28;rw[NN];exact h2
 refine .BK (Am s.ts.length) (by omega) hle λp hp=>?_;obtain⟨q,hq,n1,n2,rfl⟩:=Lw.1 hp;rcases yp hM hq with⟨-,a,b⟩|⟨H,f,k,t,a,b,c,rfl⟩;·unfold Am fb;dsimp only;rw[im,im,WD,Tf b];omega
 have a0:=(OJ.1 a).1;have hk:=(OJ.1 b).1;dsimp only at n1 n2⊢;have e:fb (s.ts.length+j) k=k:=by unfold fb;rw[im]
 have e1:s.ts.length<=fb (s.ts.length+j) (s.ts.length+H)/\fb (s.ts.length+j) (s.ts.length+H)< s.ts.length+F.length-1:=by unfold fb;split <;>omega
 rw[e];unfold Am;rw[im,Tf hk];omega
theorem abB(H:It s)(hF:∀f∈F,(0<=f.un/\f.un<=99)/\ -2<=f.side/\f.side<=7)(h1:s.ts.length+F.length<=8)(h2:s.ps.length+(nz sf s F).length<=28){j:Nat}(hj:j<F.length):EN (wS (eP sf s F) (s.ts.length+j)) where
 y:=H.y
 ts:=λt ht=>by
  refine(Fz (sf:=sf) H hF h1 h2).ts t ?_;rcases OH.1 ht with h|h;·exact OO h
  ·exact ZJ h
 od:=Sd H h1 h2 hj
 qs:=H.qs
 ql:=H.ql
 tP:=H.tP
theorem S7(hM:It s)(h1:s.ts.length+F.length<=8)(h2:s.ps.length+(nz sf s F).length<=28)(hN:F.Nodup){j:Nat}{f:Fc}(hj:F[j]?=some f){x:Ls}(hx:x∈dM sf s)(b0:x.f=f):x∈dM sf (wS (eP sf s F) (s.ts.length+j)):=by
 have a0:=(OJ.1 hj).1;have⟨i,q,t,y,e1,e2,ht,hy,hf,hn,hr,ho⟩:=uF hx;have d0:=(OJ.1 ht).1;have hw:=Sd (sf:=sf) hM h1 h2 a0;have key:∀b a,iK (vN (wS (eP sf s F) (s.ts.length+j))) b a->s.ts.length<=a\/iK (vN s) b a:=by
  have c1:=iX (n:=s.ts.length) (t:=jF s.ps) (by rw[iw];exact hM.tl) (nV hM.tl λp hp=>⟨(hM.od.ok p hp).1,(hM.od.ok p hp).2.1⟩);have c2:=iX (n:=(wS (eP sf s F) (s.ts.length+j)).ts.length) (t:=jF (wS (eP sf s F) (s.ts.length+j)).ps) (by rw[iw];exact hw.le) (nV hw.le λp hp=>⟨(hw.ok p hp).1,(hw.ok p hp).2.1⟩);refine c2.least (λb a=>s.ts.length<=a\/iK (vN s) b a) (λb a hb=>?_) (λb j a h1 h2=>?_)
  ·unfold jF at hb;rw[pU _ kc (λp hp=>by have:=(hw.ok p hp).2.1;have:=hw.le;show p.2<8;omega),nT,Qw,JL]at hb;have⟨p,hp,e⟩:=hb;rw[JJ,EU,EU]at e;obtain⟨rfl,rfl⟩:=e;obtain⟨q,hq,n1,n2,rfl⟩:=Lw.1 hp;rcases yp hM hq with⟨hq,a,b⟩|⟨j',f,k,t,a,b,c,rfl⟩
   ·refine .inr ?_;have d1:fb (s.ts.length+j) q.1=q.1:=by unfold fb;rw[im]
    have d2:fb (s.ts.length+j) q.2=q.2:=by unfold fb;rw[im]
    dsimp only;rw[d1,d2];refine c1.sub _ _ ?_;unfold jF;rw[pU s.ps kc (λp hp=>by have:=(hM.od.ok p hp).2.1;have:=hM.tl;show p.2<8;omega),nT,Qw,JL];exact⟨q,hq,by simp⟩
   refine .inl ?_;have n1:s.ts.length+j'≠s.ts.length+j:=n1;show s.ts.length<=fb (s.ts.length+j) (s.ts.length+j');unfold fb;split <;>omega
  rcases h2 with h2|h2;·exact .inl h2
  have g0:=(c1.bd j a h2).1;rcases h1 with h1|h1;·omega
  exact .inr (c1.tr b j a h1 h2)
 refine DO e1 e2 (by rw[Se a0,WD];exact Ho ht) hy hf hn hr λk u hu hb=>?_;rw[Se a0]at hu;by_cases hk:k<s.ts.length+j
 ·rw[Tf hk]at hu;rcases ur hu with hu|⟨j',g,rfl,H,rfl⟩
  ·rcases key i k hb with h|h;·have:=(OJ.1 hu).1;omega
   exact ho k u hu h
  ·cases hc:yd (fo g) x.f with
   |false=>rfl
   |true=>have e:=Bx.1 hc;rw[e,b0]at H;have:=(List.getElem?_inj (OJ.1 H).1 hN).1 (H.trans hj.symm);omega
 rw[QL hk]at hu;rcases ur hu with hu|⟨j',g,e0,H,rfl⟩;·have:=(OJ.1 hu).1;omega
 ·cases hc:yd (fo g) x.f with
  |false=>rfl
  |true=>have e:=Bx.1 hc;rw[e,b0]at H;have:=(List.getElem?_inj (OJ.1 H).1 hN).1 (H.trans hj.symm);omega
end
end
section
variable {X:aK} {m:M}
theorem aey(H:cd X){c n:Int}(hc:lM c)(hn:0<n):C X (.func 14) [YR c,YR n] m m.n (YR (dR c n)) m:=by refine Cl.fG H (Kg func14) ?_;rw[F14];dsimp only[η,ο,χ];simp only[jn,aB];exact mP hc hn (P:=λv=>bh [v]=YR (dR c n)/\m.n<=m.n) ⟨rfl,Ox _⟩
theorem lsf{b:Nat}{x:Ls}{g:Option Nat}(h:m.get b=.cells x.c 55 g):
  ah TE m 3 (Ga b (0+0))=some (YR x.task)/\ah TE m 53 (Ga b (0+1))=some x.f.v/\ah TE m 3 (Ga b (0+3))=some (YR x.q)/\
  ah TE m 3 (Ga b (0+1+0))=some (YR x.f.un)/\ah TE m 3 (Ga b (0+1+1))=some (YR x.f.side):=by
 refine⟨?_,?_,?_,?_,?_⟩;·rw[bF,aI h];rfl
 ·rw[sU,aQ (n:=2) h (by grind)];rfl
 ·rw[bF,aI h];rfl
 ·rw[bF,aI h];rfl
 rw[bF,aI h];rfl
end
section
variable {X:aK} {m:M} {sf:List Fc->List Fc} {s0:jk}
theorem WV{H:Bt}{o:Nat}{a b:Φ}(h1:H[o]?=some a)(h2:H[o+1]?=some b):(H.drop o).take 2=[a,b]:=by
 apply OG;grind
theorem Xa{l:List Ls}{v:Φ}(h:Sl m l v){i:Nat}{x:Ls}(hx:l[i]?=some x):
  ∃b o,ak TE 45 v (YR i)=some (Ga b o)/\ah TE m 3 (Ga b (o+0))=some (YR x.task)/\ah TE m 53 (Ga b (o+1))=some x.f.v:=by
 have⟨b,o,bc,g,cs,e1,hb,hr,hle,H⟩:=h.fa Bo (k:=.i64) hx;obtain rfl:cs=x.c:=hr;have hle:o+4<=bc.length:=hle;refine⟨b,o,e1,?_,?_⟩;·rw[bF,aI hb];exact H 0 (by show 0<4;decide)
 rw[sU,aQ (n:=2) hb (by omega),WV (H 1 (by show 1<4;decide)) (H 2 (by show 2<4;decide))];rfl
theorem MR{α:Type}[aW α]{l H:List α}{v:Φ}(h:Sl m l v)(h':tJ m H v):tJ m l v:=by
 rcases h' with⟨rfl,rfl⟩|⟨-,b,o,c,bc,g,rfl,h2,h3,h4⟩;·exact .inl ⟨(dK h rfl).1,rfl⟩
 have⟨a',c',e⟩:=h.form;have e2:H.length=l.length:=by grind
 exact .inr ⟨h,b,o,c,bc,g,by rw[e2],by omega,h3,h4⟩
theorem ad8{a b:Int}:aJ TE 62 [(0,YR 8),(2,YR a),(4,YR b)]=some ((fo ⟨a,b⟩).v YM):=zg rfl rfl rfl
end
section
variable {X:aK} {m:M}
theorem acL{l:List (Nat×Nat)}{p:Nat×Nat}{k:Nat}:wP (l++ [p]) k=wP l k++if p.1=k\/p.2=k then []else [(fb k p.1,fb k p.2)]:=by
 unfold wP;grind
theorem tA{k a:Nat}:((fb k a:Nat):Int)=if(k:Int)< a then(a:Int)-1 else a:=by
 unfold fb;grind
theorem ac4{r r2 st rc mo qv:Φ}(h:cells qv=[qv]):aJ TE 43 [(0,yv r r2 st rc mo),(3,qv)]=some (nj r r2 st rc mo YM YM qv):=by rw[CA rfl (by grind),h];rfl
theorem yF{b:Nat}{x y:Φ}{g:Option Nat}(h:m.get b=.cells [x,y] 69 g):ah TE m 3 (Ga b 0)=some x/\ah TE m 3 (Ga b (0+1))=some y/\ah TE m 69 (Ga b 0)=some (.agg #[x,y]):=by
 refine⟨?_,?_,?_⟩;·rw[bF,aI h];rfl
 ·rw[bF,aI h];rfl
 rw[Q5,aQ (n:=2) h (by grind)];rfl
set_option maxHeartbeats 2000000 in
theorem ER(hX:cd X){s:jk}{r r2 st rc mo tv pv qv:Φ}{k:Nat}(hk:k < s.ts.length)(B2:s.ts.length<=8)(C2:s.ps.length<=28)(y1:∀p∈s.ps,p.1 < 8/\p.2 < 8)(hV:oQ m s r r2 st rc mo tv pv qv)(hN:∃l:List TW,tJ m l tv):
  ∃rv m',C X (.func 13) [nj r r2 st rc mo tv pv qv,.int .i64 k] m m.n rv m'/\Ext m m'/\∃l0 a0,rv=nj r r2 st rc mo l0 a0 qv/\oQ m' (wS s k) r r2 st rc mo l0 a0 qv:=by
 refine Cl.EL hX (Kg func13) ?_;rw[F13];dsimp only[δ,ε,ζ,η,θ,ι,κ,ν,ρ,ς,υ,χ,Δ,ω];refine aw λm1 D2 z1 E2=>?_;refine aw λm2 F2 A1 B1=>?_;have x2:Ext m m2:=⟨by omega,by grind⟩
 have g1:m2.get m.n=.cells (scc r r2 st rc mo tv pv qv) 43 none:=(B1 m.n (by omega)).trans z1;have g2:m2.get m1.n=.cells (scc YM YM YM YM YM YM YM YM) 43 none:=A1;have C1:=hV.aE x2;have⟨hY,⟨l,hl,D1,E1⟩,F1,⟨q,hq,I0,H1⟩⟩:=C1;have⟨l',hN⟩:=hN;have J0:tJ m2 l tv:=MR D1 (hN.aV λc cs t g H _=>x2.cells H);have H2:l.length=s.ts.length:=by grind
 unfold ptrTo;simp only[dE,cX,dZ,eU,ae];rw[(fK g1).1,ae,(fK g1).2.2.2.1,ae,ac4 I0.cells,ae]
 have o1:(scc r r2 st rc mo YM YM qv).all one=true:=by have:=hV.dS;simp only[Zb,JJ]at this⊢;exact⟨this.1,this.2.1,this.2.2.1,this.2.2.2.1,this.2.2.2.2.1,rfl,rfl,this.2.2.2.2.2.2.2.1,rfl⟩
 refine aw λm8 I2 I1 J2=>?_;refine aC oW I1 rfl rfl o1 λm9 K2 J1 L2=>?_;have g9:m9.get m2.n=.cells (scc r r2 st rc mo YM YM qv) 43 none:=J1;have x9:Ext m2 m9:=⟨by omega,by grind⟩
 rw[show aF TE m9 39 0 []=some (.slice (some ⟨m9.n,0,none⟩) 0 0,m9.push (.cells [] 62 none)) by kernel_rfl,az];obtain⟨m12,i0⟩:∃q,q=m9.push (.cells [] 62 none):=⟨_,rfl⟩
 have C0:Ext m9 m12:=i0 ▸ Ext.refl.push;have g12:m12.get m9.n=.cells [] 62 none:=by rw[i0];exact M.aX
 have n12:m12.n=m9.n+1:=by rw[i0];rfl
 rw[<-i0,(fK ((x9.trans C0).cells g1)).2.1,ae];have K0:tJ m12 l tv:=J0.aV λc cs t g H _=>(x9.trans C0).cells H;obtain⟨M2,K1,L1⟩:=K0.to cV (by kernel_rfl) (i:=k) (by omega);rw[K1,ae];obtain⟨N2,m17,N1,O1,n17,P1,T1⟩:=P9.append (m:=m12) (n1:=m9.n) (l:=([]:List TW)) zr rfl (.inr ⟨rfl,m9.n,rfl,Ox _,g12⟩) (.inl L1) (by omega) (by grind);rw[N1,az];refine⟨P1.2 rfl,?_⟩;have u0:∀c,c < m9.n->m17.get c=m9.get c:=λc H=>(T1 c H).trans (C0.get c H);have m0:∀c,c < m2.n->m17.get c=m2.get c:=λc H=>(u0 c (by omega)).trans (x9.get c H);rw[(fK ((m0 m.n (by omega)).trans g1)).2.1,ae,aP,ae,wrap64];have L0:tJ m17 l tv:=J0.aV λc cs t g H _=>(m0 c (M.aU H)).trans H;obtain⟨v21,D0,a2⟩:=L0.from cV (by kernel_rfl) (i:=k+1) (by omega)
 have D0:slice? TE m17 39 tv (some (.int .i64 ((k:Int)+1))) none none=some v21:=D0;rw[D0,ae];obtain⟨v22,m23,c2,N0,n23,O2,d2⟩:=P9.append (m:=m17) (n1:=m9.n) zr rfl O1 a2 (by omega) (by grind);rw[c2,az];have v0:∀c,c < m9.n->m23.get c=m9.get c:=λc H=>(d2 c H).trans (u0 c H);have n0:=N0.sl;refine bS Sm ((v0 m2.n (by omega)).trans g9) (by rw[n0.cells];rfl) (by rw[n0.cells];show 0+5+1<=8;decide) (by rw[n0.cells];simp[n0.one]) λE0 o2 O0 P0=>?_;have i2:E0.get m2.n=.cells (scc r r2 st rc mo v22 YM qv) 43 none:=by rw[O0,n0.cells];rfl
 have d0:∀c,c < m2.n->E0.get c=m2.get c:=λc H=>by grind
 have P2:=(v0 m2.n (by omega)).trans g9
 have a1:ko m2.n m2.n m2 E0 s.y r r2 st rc mo v22 YM qv (l.take k++l.drop (k+1)) (wP (s.ps.take 0) k) q:=by
  refine⟨i2,hY.aV λc cs t g H _=>(d0 c (M.aU H)).trans H,ig (m:=m23) (t0:=43) rfl (λc cs t g H ht _=>(P0 c λe=>by grind).trans H) (by decide) (oR.mono (show oR m9.n m23 (l.take k++l.drop (k+1)) v22 from N0.imp And.right id) (by omega)),λx hx=>?_,.inl .nil,I0.aV λc cs t g H _=>(d0 c (M.aU H)).trans H,H1.aV λc cs g H=>(d0 c (M.aU H)).trans H,by omega,d0⟩
  refine(E1.aV λc cs g H=>(d0 c (M.aU H)).trans H) x ?_
  grind
 refine Lp.intro (γ:=Nat) (λi=>s.ps.length-i) (λi vs mm lo=>∃a0,vs=[.int .i64 i]/\i<=s.ps.length/\m.n<=lo/\ko m2.n m2.n m2 mm s.y r r2 st rc mo v22 a0 qv (l.take k++l.drop (k+1)) (wP (s.ps.take i) k) q) 0 ⟨_,rfl,ZE _,by omega,a1⟩ ?_;rintro i vs mm lo ⟨a0,rfl,hi,Q2,hO⟩;have nO:=hO.n;have G1:=(hO.fr m.n (by omega)).trans g1;have y0:Sl mm s.ps pv:=F1.aV λc cs t g H _=>(hO.fr c (M.aU H)).trans H
 have wl:(wP (s.ps.take i) k).length<=28:=by
  unfold wP
  grind
 rw[aB,(fK G1).2.2.1,ae,y0.len iM,az,aM,ae,aj];refine an (λF0=>?_) (λc1=>?_)
 ·have F0:i < s.ps.length:=by grind
  obtain⟨p,hp⟩:∃x,s.ps[i]?=some x:=⟨_,Fx F0⟩
  have⟨ad,cs,e1,e2,e3⟩:=y0.index iM (k:=.i64) hp;obtain rfl:cs=yi p:=e3;have e2:ah TE mm 69 ad=some (.agg (yi p).toArray):=e2;have T2:=y1 p (LZ hp)
  have d1:wP (s.ps.take (i+1)) k=wP (s.ps.take i) k++if p.1=k\/p.2=k then []else [(fb k p.1,fb k p.2)]:=by rw[Q1,hp];exact acL
  refine aZ (λvs m' lo=>vs=[]/\m.n<=lo/\∃a0,ko m2.n m2.n m2 m' s.y r r2 st rc mo v22 a0 qv (l.take k++l.drop (k+1)) (wP (s.ps.take (i+1)) k) q) (λQ hQ=>?_) ?_
  ·rw[ae,e1,ae,e2,ae];refine aw λa3 u2 i1 v2=>?_;refine aC Si i1 rfl rfl rfl λe0 w2 j1 y2=>?_;have G0:e0.get mm.n=.cells [.int .i64 p.1,.int .i64 p.2] 69 none:=j1;have k1:Ext mm e0:=⟨by omega,by grind⟩
   refine aZ (λvs m' lo=>vs=[.bool (decide (p.1=k\/p.2=k))]/\e0=m'/\m.n<=lo) (λQ' g0=>?_) ?_
   ·rw[uL.1,ae,(yF G0).1,ae,aS,ae,aj];refine an (λh=>g0 _ _ _ ⟨?_,rfl,by omega⟩) (λh=>?_);·rw[IH (.inl (by grind))]
    ·rw[uL.2,ae,(yF G0).2.1,ae,aS,ae]
     refine g0 _ _ _ ⟨?_,rfl,by omega⟩
     congr 2
     grind
   rintro _ _ j2 ⟨rfl,rfl,j0⟩;rw[aB,aj];refine an (λh=>?_) (λh=>?_)
   ·refine hQ _ _ _ ⟨rfl,j0,a0,?_⟩;rw[d1,Tf (NT h),Zu];exact hO.aE (Ox _) k1
   have h:=Ja h;refine Lp.intro (γ:=Nat) (λj=>2-j) (λj vs m' lo=>vs=[.int .i64 j]/\j<=2/\m.n<=lo/\m'.n=e0.n/\(∀c,c≠mm.n->m'.get c=e0.get c)/\m'.get mm.n=.cells [.int .i64 ((if 0 < j then fb k p.1 else p.1:Nat):Int),.int .i64 ((if 1 < j then fb k p.2 else p.2:Nat):Int)] 69 none) 0 ⟨rfl,by omega,j0,rfl,λ_ _=>rfl,G0⟩ ?_;rintro j vs m' fO ⟨rfl,hj,z0,l1,o0,g'⟩;rw[aB,aM,ae,aj];refine an (λp0=>?_) (λz2=>?_)
   ·have p0:j < 2:=by grind
    refine aZ (λvs k0 lo=>vs=[]/\m.n<=lo/\k0.n=e0.n/\(∀c,c≠mm.n->k0.get c=e0.get c)/\k0.get mm.n=.cells [.int .i64 ((if 0 < j+1 then fb k p.1 else p.1:Nat):Int),.int .i64 ((if 1 < j+1 then fb k p.2 else p.2:Nat):Int)] 69 none) (λQ' g0=>?_) ?_
    ·match j,p0 with
     |0,_=>
      have g':m'.get mm.n=.cells [.int .i64 p.1,.int .i64 p.2] 69 none:=g';rw[(show ak TE 69 (.pointer (some ⟨mm.n,0,none⟩)) (.int .i64 ((0:Nat):Int))=_ from uL.1),ae,(yF g').1,ae,bP,ae,aj];refine an (λH=>?_) (λH=>g0 _ _ _ ⟨rfl,z0,l1,o0,?_⟩)
      ·have H:=NT H;rw[ae,(yF g').1,ae,dt,ae,wrap64,ae];refine bS rf g' rfl (by show 0+1<=2;decide) rfl λk0 p1 q0 r0=>?_;refine g0 _ _ _ ⟨rfl,by omega,by omega,λc H=>(r0 c H).trans (o0 c H),q0.trans ?_⟩;show _=Ob.cells [.int .i64 ((fb k p.1:Nat):Int),.int .i64 ((p.2:Nat):Int)] _ _;rw[tA,Tf (by omega)];rfl
      have H:=Ja H;rw[g'];show _=Ob.cells [.int .i64 ((fb k p.1:Nat):Int),.int .i64 ((p.2:Nat):Int)] _ _;rw[tA,QL (by omega)]
     |1,_=>
      have g':m'.get mm.n=.cells [.int .i64 (fb k p.1:Nat),.int .i64 p.2] 69 none:=g';rw[(show ak TE 69 (.pointer (some ⟨mm.n,0,none⟩)) (.int .i64 ((1:Nat):Int))=_ from uL.2),ae,(yF g').2.1,ae,bP,ae,aj];refine an (λH=>?_) (λH=>g0 _ _ _ ⟨rfl,z0,l1,o0,?_⟩)
      ·have H:=NT H;rw[ae,(yF g').2.1,ae,dt,ae,wrap64,ae];refine bS rf g' rfl (by show 0+1+1<=2;decide) rfl λk0 p1 q0 r0=>?_;refine g0 _ _ _ ⟨rfl,by omega,by omega,λc H=>(r0 c H).trans (o0 c H),q0.trans ?_⟩;show _=Ob.cells [.int .i64 ((fb k p.1:Nat):Int),.int .i64 ((fb k p.2:Nat):Int)] _ _;rw[@tA k p.2,Tf (by omega)];rfl
      have H:=Ja H;rw[g'];show _=Ob.cells [.int .i64 ((fb k p.1:Nat):Int),.int .i64 ((fb k p.2:Nat):Int)] _ _;rw[@tA k p.2,QL (by omega)]
    rintro _ k0 c3 ⟨rfl,r1,h1,h2,h3⟩;rw[aP,ae,wrap64];exact⟨j+1,by omega,rfl,p0,r1,h1,h2,h3⟩
   obtain rfl:j=2:=by grind
   have g':m'.get mm.n=.cells [.int .i64 (fb k p.1:Nat),.int .i64 (fb k p.2:Nat)] 69 none:=g';have u1:=hO.aE (Ox _) (⟨by omega,λc H=>(o0 c (by omega)).trans (k1.get c H)⟩:Ext mm m');rw[(fK u1.cell).2.2.1,ae,(yF g').2.2,ae];obtain⟨z,d3,r',g3,i3,b1,b2,b3,b4,H0,b5, -⟩:=u1.Sw (Ox _) (Ox _) (x:=(fb k p.1,fb k p.2)) (by omega);rw[(show aF TE m' 40 1 [(0,.agg #[.int .i64 (fb k p.1:Nat),.int .i64 (fb k p.2:Nat)])]=_ from b1),az,b2,az,b3,az];refine hQ _ _ _ ⟨rfl,by omega,r',?_⟩;rw[d1,QL h];exact H0
  rintro _ m' j2 ⟨rfl,j0,k2,H0⟩;rw[aP,ae,wrap64];exact⟨i+1,by omega,k2,rfl,F0,j0,H0⟩
 have c1:i=s.ps.length:=by grind
 subst c1;rw[V9]at hO;have hS:=hO.nj (s:=wS s k) rfl (by rw[Cu,RE,List.map_drop,hl];rfl) rfl hq;rw[(fK hO.cell).2.2.2.2,ae];refine aC oW ((hO.fr m1.n (by omega)).trans g2) rfl rfl hS.dS λv1 A2 w1 A0=>?_;have l2:v1.get m1.n=.cells (scc r r2 st rc mo v22 a0 qv) 43 none:=w1;rw[(fK l2).2.2.2.2,ae];have G2:=(hO.fr m1.n (by omega)).trans g2;have B0:oQ v1 (wS s k) r r2 st rc mo v22 a0 qv:=hS.aV λc cs t g H ht _=>(A0 c λe=>by grind).trans H;refine sX (h0:=trivial) (lo:=min lo m1.n) (m:=m) (vs:=[nj r r2 st rc mo v22 a0 qv]) (Q:=λrv m'=>∃l0 a0,rv=nj r r2 st rc mo l0 a0 qv/\oQ m' (wS s k) r r2 st rc mo l0 a0 qv) (by omega) ⟨by omega,λc H=>by rw[A0 c (by omega),hO.fr c (by omega),x2.get c H]⟩ ⟨_,_,rfl,B0⟩ λhf=>⟨_,_,rfl,?_⟩
 have b0:(D.bw r && (D.bw r2 && (D.bw st && (D.bw rc && (D.bw mo && (D.bw v22 && (D.bw a0 && (D.bw qv && true))))))))=true:=hf;simp only[JJ]at b0;exact B0.flat ⟨b0.1,b0.2.1,b0.2.2.1,b0.2.2.2.1,b0.2.2.2.2.1,b0.2.2.2.2.2.1,b0.2.2.2.2.2.2.1,b0.2.2.2.2.2.2.2.1⟩ m
theorem FH(hX:cd X){n:Nat}{ps:List (Nat×Nat)}{pv:Φ}(hp:Sl m ps pv)(hn:n<1000000)(hl:8<n\/28<ps.length):C X (.func 112) [JF n pv] m m.n Zf m:=by
 refine Cl.fG hX (Kg func112) ?_;rw[YS];dsimp only[δ,ε,η,κ,ο,ρ,υ,χ,ψ];refine aw λm1 g0 H a0=>?_;have g1:m1.get m.n=.cells [YR n,pv] 75 none:=H;have b0:=hp.aE ⟨by omega,a0⟩;obtain⟨d0,d1, -⟩:=EI g1;unfold ptrTo;simp only[fZ,lC,ae];refine aZ (λvs mm lo=>vs=[Ku]/\m.n<=lo) (λQ hQ=>?_) ?_;·rw[d0,ae,aM,ae,aj,tx,aN,ae,bP,ae,aj];refine an (λ_=>hQ _ _ _ ⟨rfl,Ox _⟩) (λh=>?_);have h:=Ja h;rw[d1,ae,b0.len iM,az,bP,ae,CM];exact hQ _ _ _ ⟨rfl,Ox _⟩
 rintro _ _ lo ⟨rfl,e0⟩;rw[aB,aj,bH];exact⟨rfl,e0⟩
theorem Y4:aJ TE 120 []=some (Tn kc):=by kernel_rfl
theorem abx(hX:cd X){n:Nat}{ps:List (Nat×Nat)}{pv:Φ}(hp:Sl m ps pv)(hn:n<1000000)(hl:8<n\/28<ps.length):C X (.func 50) [JF n pv] m m.n (.tuple #[Tn kc,Zf]) m:=by
 refine Cl.th (hX.no _ rfl) (Kg func50) rfl FX ?_;rw[F50];dsimp only[δ,θ,ι,ξ,ο,ρ,ς,υ,χ,ψ,Γ,ω];refine aw λm1 k0 a0 l0=>?_;refine aw λm2 m0 b0 d0=>?_;have e0:Ext m m2:=⟨by omega,by grind⟩
 have g1:m2.get m.n=.cells [YR n,pv] 75 none:=by rw[d0 _ (by omega)];exact a0
 have gz:m2.get m1.n=.cells (vW kc) 120 none:=b0;have g0:=hp.aE e0;unfold ptrTo;rw[(EI g1).2.2,ae];refine aG (FH hX g0 hn hl) ?_;rw[bk,ae,aj];show gH true _ _;rw[bH,Y4,ae];refine aC tU gz rfl rfl rfl λm18 i0 H j0=>?_;have g18:m18.get m1.n=.cells (vW kc) 120 none:=H;rw[BW g18 rfl,ae];exact⟨rfl,by omega⟩
theorem JB(hX:cd X){n:Nat}{ps:List (Nat×Nat)}{pv:Φ}(hp:Sl m ps pv)(hn:n<1000000)(hl:8<n\/28<ps.length):C X (.func 53) [JF n pv] m m.n Zf m:=by refine Cl.fG hX (Kg func53) ?_;rw[F53];dsimp only[δ,ι,ξ,ρ,ς,υ,χ,ψ,ω];refine aw λm1 d0 H a0=>?_;have g1:m1.get m.n=.cells [YR n,pv] 75 none:=H;unfold ptrTo;rw[(EI g1).2.2,ae];refine aG (abx hX (hp.aE ⟨by omega,a0⟩) hn hl) ?_;rw[aH,aH];simp only[zi,F9,ae];refine aw λm8 e0 b0 g0=>?_;refine aC tU b0 rfl rfl rfl λm9 i0 j0 k0=>?_;exact⟨rfl,by omega⟩
theorem ads(hX:cd X){s:jk}{r r2 st rc mo tv pv qv:Φ}(hn:s.ts.length<1000000)(hl:8<s.ts.length\/28<s.ps.length)(hV:oQ m s r r2 st rc mo tv pv qv):C X (.func 23) [nj r r2 st rc mo tv pv qv] m m.n Zf m:=by
 refine Cl.fG hX (Kg func23) ?_;rw[F23];dsimp only[δ,ε,η,κ,ο,ρ,υ,χ,ψ,Γ,ω];refine aw λm1 e0 a0 b0=>?_;have x1:Ext m m1:=⟨by omega,b0⟩
 have g1:m1.get m.n=.cells (scc r r2 st rc mo tv pv qv) 43 none:=a0;have H:=hV.aE x1;unfold ptrTo;simp only[dE,cX,eU,ae];refine aZ (λvs mm lo=>vs=[Ku]/\m.n<=lo) (λQ hQ=>?_) ?_;·rw[(fK g1).2.2.2.2,ae];have⟨m8,c8,x8⟩:=rn (m:=m1) hX H;refine aG c8 ?_;have n8:=x8.n;refine aG (JB hX (H.ps.aE x8) hn hl) ?_;rw[bk,ae,aj];exact hQ _ _ _ ⟨rfl,by omega⟩
 rintro _ _ lo ⟨rfl,d0⟩;rw[aB,aj,bH];exact⟨rfl,d0⟩
def MF(m:M)(r:Nat)(L:List Fc):Prop:=∃es,m.get r=.map es L.length/\es.map (λe=>(e.key,e.val))=L.map λf=>(f.v,Value.bool true)
theorem adY{a b:Fc}:eq? TE 53 a.v b.v=some (decide (a=b)):=by
 have h:eq? TE 53 a.v b.v=some ((a.un==b.un) && ((a.side==b.side) && true)):=by kernel_rfl
 rw[h];have⟨H,a2⟩:=a;have⟨b1,b2⟩:=b;congr 1;grind
theorem Ch{f:Fc}:∀(es:List MapEntry) (L:List Fc) (i:Nat),es.map (λe=>(e.key,e.val))=L.map (λf=>(f.v,Value.bool true))->∃q,findKey TE 53 f.v es i=some q/\(f∈L->∃j,q=some (j,Ku))/\(f∉L->q=none)
 |[],[],i,_=>⟨_,rfl,λh=>(by cases h),λ_=>rfl⟩
 |[],_::_,_,h=>by cases h
 |_::_,[],_,h=>by cases h
 |e::es,g::L,i,h=>by
  simp only[Kt,Zj,xU]at h;have⟨⟨h1,h2⟩,h3⟩:=h;unfold findKey;rw[h1,adY,h2];by_cases H:f=g;·simp_all
  ·rw[Dh H];have⟨q,e1,e2,e3⟩:=Ch (f:=f) es L (i+1) h3;grind
theorem NZ{f:Fc}:keyed TE 53 f.v=true:=by kernel_rfl
theorem abH{r:Nat}{L:List Fc}(h:MF m r L)(f:Fc):kh TE m 98 (.map (some r)) f.v false=some (.bool (decide (f∈L))):=by
 have⟨es,h1,h2⟩:=h;have⟨q,e1,e2,e3⟩:=Ch (f:=f) es L 0 h2;unfold kh;rw[LD];simp only[ag.t98,h1,NZ,e1,cond_true];by_cases H:f∈L;·grind
 rw[e3 H,Dh H];rfl
theorem S8{r:Nat}{L:List Fc}(h:MF m r L){f:Fc}(hf:f∉L):∃m',iE TE m 98 (.map (some r)) f.v Ku=some (m',r)/\MF m' r (L++ [f])/\m'.n=m.n/\∀c,c≠r->m'.get c=m.get c:=by
 have⟨es,h1,h2⟩:=h;have⟨q,e1,e2,e3⟩:=Ch (f:=f) es L 0 h2;have H:r<m.n:=M.jN (by grind);refine⟨m.set r (.map (es++ [{key:=f.v,val:=Ku,born:=L.length}]) (L.length+1)),?_,⟨_,(M.dw H).trans (by rw[NN];rfl),by grind⟩,rfl,λc hc=>M.dg hc⟩;have key:dN TE m 98 (.map (some r)) f.v Ku=some (m.set r (.map (es++ [{key:=f.v,val:=Ku,born:=L.length}]) (L.length+1))):=by unfold dN;rw[LD];simp only[ag.t98,h1,NZ,e1,e3 hf,cond_true]
 unfold iE;grind
theorem vK{l:List Ls}{x:Ls}:cS (l++ [x])=oP (cS l) x.f:=by unfold cS;rw[RR];rfl
theorem qt(l:List Ls):(cS l).length<=l.length:=by
 have key:∀(l:List Ls) (acc:List Fc),(l.foldl (λacc x=>oP acc x.f) acc).length<=acc.length+l.length:=by
  intro l;induction l with
  |nil=>intro acc;simp
  |cons x r H=>
   intro acc;rw[IW,zG];refine YB (H _) ?_;have:(oP acc x.f).length<=acc.length+1:=by unfold oP;split <;>simp
   omega
 have:=key l [];simpa[cS]using this
theorem Xe{b:Nat}{v:Φ}{g:Option Nat}(h:m.get b=.cells [v] 98 g):ah TE m 98 (Ga b 0)=some v:=by rw[abE,aI h];rfl
theorem FN{b:Nat}{v:Φ}{g:Option Nat}(h:m.get b=.cells [v] 35 g):ah TE m 35 (Ga b 0)=some v:=by rw[nG,aI h];rfl
theorem MF.aV{r:Nat}{L:List Fc}{m':M}(h:MF m r L)(e:m'.get r=m.get r):MF m' r L:=by have⟨es,h1,H⟩:=h;exact⟨es,e.trans h1,H⟩
theorem adZ:aJ TE 43 []=some (nj YM YM YM YM YM YM YM YM):=by kernel_rfl
def YP(s:jk)(F:List Fc)(P:List (Nat×Nat))(o:jk)(rv:Φ)(m:M):Prop:=
 ∃a b c d e tv H qv,(scc a b c d e tv H qv).all one=true/\((rv=.tuple #[nj a b c d e tv H qv,.int .i64 0]/\s.ts.length+F.length<=8/\s.ps.length+P.length<=28/\oQ m o a b c d e tv H qv/\(o.ts≠ []->∃l:List TW,tJ m l tv))\/
  (rv=.tuple #[nj a b c d e tv H qv,.int .i64 290]/\(8 < s.ts.length+F.length\/28 < s.ps.length+P.length)))
set_option maxHeartbeats 4000000 in
theorem acR(hX:cd X){sf:List Fc->List Fc}(hS:zu X sf){s:jk}{r r2 st rc mo tv pv qv:Φ}(hM:It s)(hV:oQ m s r r2 st rc mo tv pv qv){F:List Fc}(hF:F=sf (cS (dM sf s))):
  ∃rv m',C X (.func 9) [nj r r2 st rc mo tv pv qv] m m.n rv m'/\Ext m m'/\YP s F (nz sf s F) (eP sf s F) rv m':=by
 refine Cl.EL hX (Kg func9) ?_;have hP:=hM.toEN;have hL:=uG hS hP;obtain⟨L,C1⟩:∃L,L=dM sf s:=⟨_,rfl⟩
 rw[<-C1]at hL hF;have I5:=qt L;have y2:F.Perm (cS L):=hF ▸ hS.perm _;have J5:F.length<=320:=by rw[y2.length_eq];omega
 have o1:∀f∈F,(0<=f.un/\f.un<=99)/\ -2<=f.side/\f.side<=7:=λf hf=>AL (sf:=sf) hM f (C1 ▸ y2.mem_iff.1 hf);have K5:=hM.tl6;have L5:=hM.W3;rw[abm];dsimp only[aL];refine aw λm1 N5 G3 O5=>?_;refine aw λm2 a6 H3 I3=>?_;have x2:Ext m m2:=⟨by omega,by grind⟩
 have g1:m2.get m.n=.cells (scc r r2 st rc mo tv pv qv) 43 none:=(I3 m.n (by omega)).trans G3;have g2:m2.get m1.n=.cells (scc YM YM YM YM YM YM YM YM) 43 none:=H3;have D1:=hV.aE x2;unfold ptrTo;simp only[dE,cX,dZ,cn,bZ,cW,dj,lD,ae];rw[(fK g1).2.2.2.2,ae];refine aG (uQ hX hP D1) ?_;rw[bk,ae,aj];show gH false _ _;rw[aN];refine aw λm12 K4 z2 L4=>?_;have J3:MF m12 m2.n []:=⟨[],z2,rfl⟩
 refine aw λm13 N4 A2 B2=>?_;refine aC LD A2 rfl rfl rfl λm14 O4 C2 D2=>?_;have g14:m14.get m12.n=.cells [.map (some m2.n)] 98 none:=C2;refine aw λm16 R4 E2 u1=>?_;have g16:m16.get m14.n=.cells [YM] 35 none:=E2;have E1:Ext m2 m16:=⟨by omega,by grind⟩
 rw[(fK (E1.cells g1)).2.2.2.2,ae];have⟨sb,vb,ob,m19,K3,H0,d19⟩:=Ax hX (D1.aE E1);refine aG K3 ?_;have n19:=H0.n;rw[cg];have W4:m19.get m12.n=.cells [.map (some m2.n)] 98 none:=by rw[H0.get _ (by omega),u1 _ (by omega)];exact g14
 have I0:MF m19 m2.n []:=J3.aV (by rw[H0.get _ (by omega),u1 _ (by omega),D2 _ (by omega),B2 _ (by omega)]);have F2:=H0.cells g16;have L3:∀c,c < m2.n->m19.get c=m2.get c:=λc H=>by rw[H0.get c (by omega),E1.get c H]
 refine⟨.own m14.n,WC L,_,λk mm=>m19.n<=mm.n/\(∀c,c < m19.n->c≠m2.n->c≠m14.n->mm.get c=m19.get c)/\MF mm m2.n (cS (L.take k))/\∃r,mm.get m14.n=.cells [r] 35 none/\Ow (m19.n+1) mm (cS (L.take k)) r,
  λ_ _=>False,m.n,⟨_,rfl⟩,C1 ▸ yy (r:=r) (r2:=r2) (st:=st) (rc:=rc) (mo:=mo) (tv:=tv) (pv:=pv) (qv:=qv) (ob:=ob) (pc:=m14.n) hX hS hP,by omega,?_,?_,?_,⟨Ox _,λ_ _ _ _=>rfl,I0,_,F2,.nil⟩,?_,?_,?_⟩
 ·rintro k m' ⟨h1,h2,h3,r',h4,h5⟩
  have kk:∀c cs t g,m19.get c=.cells cs t g->t≠35->m'.get c=.cells cs t g:=λc cs t g H ht=>by obtain⟨es,c6, -⟩:=I0;rw[h2 c (M.aU H) (λe=>by grind) (λe=>by grind),H]
  refine⟨⟨kk _ _ _ _ d19.sc (by decide),kk _ _ _ _ d19.vf (by decide),kk _ _ _ _ d19.od (by decide),⟨d19.V.y.aV λc cs t g H ht=>kk c cs t g H (by grind),?_,?_,?_⟩⟩,by omega,λv e g hv a n k ha=>?_⟩
  ·have⟨l,h1,h2,h3⟩:=d19.V.ts;exact⟨l,h1,h2.aV λc cs t g H ht=>kk c cs t g H (by simp only[aW.ty,aW.cT,RN,ZX,or_false]at ht;subst ht;decide),h3.aV λc cs g H=>kk c cs _ g H (by decide)⟩
  ·exact d19.V.ps.aV λc cs t g H ht=>kk c cs t g H (by simp only[aW.ty,aW.cT,RN,ZX,or_false]at ht;subst ht;decide)
  ·have⟨l,h1,h2,h3⟩:=d19.V.qs;exact⟨l,h1,h2.aV λc cs t g H ht=>kk c cs t g H (by simp only[aW.ty,aW.cT,RN,ZX,or_false]at ht;subst ht;decide),h3.aV λc cs g H=>kk c cs _ g H (by decide)⟩
  rw[h4]at hv;cases hv;obtain⟨cs,g,hb, -⟩:=eR h5 ha;exact M.aU hb
 ·rintro k m' N3 ⟨h1,h2,h3,r',h4,h5⟩ hk;have d6:=hk.n;refine⟨by omega,λc H k0 o0=>(hk.get c (by omega) (by omega)).trans (h2 c H k0 o0),h3.aV (hk.get _ (by omega) (by omega)),r',(hk.get _ (by omega) (by omega)).trans h4,yn rfl h5 λa n k e=>?_⟩;have⟨cs,g,hb,F1⟩:=eR h5 e;exact hk.get _ (M.aU hb) (by omega)
 ·rintro e m' N3 h;exact h.elim
 ·rintro k args m22 a5 e6 ⟨h1,h2,h3,r',h4,h5⟩
  obtain⟨x,hx,rfl⟩:∃x,L[k]?=some x/\args=[x.v]:=by
   grind
  have g0:cS (L.take (k+1))=oP (cS (L.take k)) x.f:=by rw[Q1,hx];exact vK
  rw[aB,wI];refine aw λf6 c5 H2 d5=>?_;refine aC Sj H2 rfl rfl rfl λO3 e5 I2 f5=>?_;have fh:∀c,c < m22.n->O3.get c=m22.get c:=λc H=>by grind
  refine⟨λc _ H=>fh c H,λA0 g5 J2=>?_⟩;dsimp only;have gx:A0.get m22.n=.cells x.c 55 none:=by rw[J2 _ (by omega)];exact I2
  have i1:∀c,c < m22.n->c≠m19.n->A0.get c=m22.get c:=λc H j1=>by grind
  have v1:A0.get m14.n=.cells [r'] 35 none:=by grind
  have K2:A0.get m12.n=.cells [.map (some m2.n)] 98 none:=by grind
  have G1:MF A0 m2.n (cS (L.take k)):=h3.aV (i1 _ (by omega) (by omega))
  have H1:Ow (m19.n+1) A0 (cS (L.take k)) r':=yn rfl h5 λad n k e=>by have⟨cs,g,hb,F1⟩:=eR h5 e;exact i1 _ (M.aU hb) (by omega)
  have hle:=qt (L.take k);rw[Xe K2,ae,(lsf gx).2.1,ae,abH G1 x.f,ae,bk,ae,aj];refine an (λhs=>?_) (λhs=>?_)
  ·have hs:x.f∉cS (L.take k):=by grind
   rw[ae,ae];have⟨I1,a4,f38,n38,J1⟩:=S8 G1 hs;rw[a4,az];have L2:I1.get m14.n=.cells [r'] 35 none:=by grind
   have M2:I1.get m22.n=.cells x.c 55 none:=by grind
   have N2:Ow (m19.n+1) I1 (cS (L.take k)) r':=yn rfl H1 λad n k e=>by
    have⟨cs,g,hb,F1⟩:=eR H1 e
    grind
   rw[FN L2,ae,(lsf M2).2.1,ae];refine yf (T:=35) (x:=x.f) ve rfl N2 (by omega) (by grind) FD (λ_=>rfl) λO2 c4 w2 n2 k2 g6 l2 k3 k4=>?_;have d4:c4.get m14.n=.cells [r'] 35 none:=by grind
   refine bS CZ d4 (by rw[w2.sl.cells];rfl) (by rw[w2.sl.cells];show 0+1<=1;decide) (by rw[w2.sl.cells];simp[w2.sl.one]) λe4 i5 P2 u0=>?_;have Q2:e4.get m14.n=.cells [O2] 35 none:=by rw[P2,w2.sl.cells];rfl
   have l0:oP (cS (L.take k)) x.f=cS (L.take k)++ [x.f]:=by unfold oP;rw[QL hs]
   refine⟨by omega,λc k0 o0=>⟨by omega,λH=>?_,λK1=>⟨?_,λv e g hv a n k ha=>?_⟩⟩,by omega,λc H k0 o0=>?_,?_,O2,Q2,?_⟩;·rw[u0 c (by omega),k2 c (by omega),J1 c (by omega)]
   ·rw[u0 c (by omega),k3 c (by omega) λa n k e=>K1 r' _ _ h4 a n k e,J1 c (by omega)]
   ·rw[Q2]at hv;cases hv;have:=k4 a n k ha;omega
   ·rw[u0 c (by omega),k2 c (by omega),J1 c k0,i1 c (by omega) (by omega)];exact h2 c H k0 o0
   ·rw[g0,l0];exact f38.aV (by grind)
   rw[g0,l0];exact w2.om rfl λc h1 h2=>u0 c (by omega)
  have hs:x.f∈cS (L.take k):=by grind
  have l0:oP (cS (L.take k)) x.f=cS (L.take k):=by unfold oP;rw[Tf hs]
  refine⟨by omega,λc k0 o0=>⟨by omega,λ_=>rfl,λK1=>⟨rfl,λv e g hv a n k ha=>?_⟩⟩,by omega,λc H k0 o0=>?_,?_,r',v1,?_⟩
  ·rw[v1]at hv;cases hv;exact K1 r' _ _ h4 a n k ha
  ·rw[i1 c (by omega) (by omega)];exact h2 c H k0 o0
  ·rw[g0,l0];exact G1
  rw[g0,l0];exact H1
 ·rintro f4 j5 ⟨h1,h2, -,r',h4,h5⟩ h6;rw[Gv,V9]at h5;rw[FN h4,ae];obtain⟨a0,i6,g4,T2,k5,j6,l5⟩:=hS.fc f4 m19.n (cS L) r' h1 (h5.mono (by omega)) (by omega);refine aG g4 ?_;rw[<-hF]at T2;have F1:∀{c:Nat},c < m19.n->∀a n k,r'=.slice (some a) n k->c≠a.block:=λH=>Nl (h5.mono (show m19.n<=m19.n+1 by omega)) H;have J0:∀c,c < m2.n->a0.get c=m2.get c:=λc H=>by grind
  have a3:a0.get m14.n=.cells [r'] 35 none:=by grind
  have k1:∀{mm:M},(∀c,c < m2.n->mm.get c=m2.get c)->oQ mm s r r2 st rc mo tv pv qv:=λh=>D1.aV λc cs t g H _ _=>(h c (M.aU H)).trans H;have gm:∀{mm:M},(∀c,c < m2.n->mm.get c=m2.get c)->mm.get m.n=.cells (scc r r2 st rc mo tv pv qv) 43 none:=λh=>(h _ (by omega)).trans g1;rw[(fK (gm J0)).2.2.2.2,ae];obtain⟨_,p0,j4,c3,a,b,c,d,e,L1,N1,d0,ts,qs,rfl,hY,l4,tO,tk,pO,d3,qO,qk⟩:=Ge (m:=a0) hX hP (k1 J0);refine aG j4 ?_;have n57:=c3.n;have w1:oQ p0 s a b c d e L1 N1 d0:=⟨hY,⟨ts,l4,tO.sl,tk⟩,pO.sl,⟨qs,d3,qO,qk⟩⟩
  refine aw λk6 m5 g3 n5=>?_;refine aC oW g3 rfl rfl w1.dS λO1 o5 i3 r5=>?_;have m4:O1.get p0.n=.cells (scc a b c d e L1 N1 d0) 43 none:=i3;have q0:Ext p0 O1:=⟨by omega,by grind⟩
  have r0:=c3.trans q0;have K0:ko a0.n p0.n a0 O1 s.y a b c d e L1 N1 d0 ts s.ps qs:=⟨m4,hY.aE q0,tO.aE q0,tk.aV λ_ _ _ H=>q0.cells H,pO.aE q0,qO.aE q0,qk.aV λ_ _ _ H=>q0.cells H,by omega,λc H=>r0.get c H⟩
  have n4:m2.n<=a0.n:=by omega
  have B0:∀{mm:M},(∀c,c < a0.n->mm.get c=a0.get c)->∀c,c < m2.n->mm.get c=m2.get c:=λh c H=>(h c (by omega)).trans (J0 c H);have j3:∀{mm:M},(∀c,c < a0.n->mm.get c=a0.get c)->Sl mm F r':=λh=>T2.sl.aV λc cs t g H _=>(h c (M.aU H)).trans H;rw[FN (r0.cells a3),ae,(j3 K0.fr).len dA,az]
  refine Lp.intro (γ:=Nat) (λj=>F.length-j) (λj vs mm lo=>∃acc i0 m0 ps,vs=[.int .i64 j]/\j<=F.length/\m.n<=lo/\ko a0.n p0.n a0 mm s.y a b c d e i0 m0 d0 acc ps qs/\acc.map TW.t=s.ts++(F.take j).map fo/\ps=s.ps++(List.range j).flatMap (Dp sf s F)/\ps.length<=15+j*6) 0
   ⟨ts,_,_,s.ps,rfl,ZE _,by omega,K0,by grind,by simp,by omega⟩ ?_
  clear K0 r0 hY tO tk pO qO w1;rintro j vs mm lo ⟨acc,i0,m0,ps,rfl,hj,u5,hO,C0,l3,v5⟩;have nO:=hO.n
  have o4:acc.length=s.ts.length+j:=by
   have:=congrArg List.length C0
   grind
  rw[aB,aM,ae,aj];refine an (λP1=>?_) (λy1=>?_)
  ·have P1:j < F.length:=by grind
   obtain⟨f,hf⟩:∃f,F[j]?=some f:=⟨_,Fx P1⟩
   have⟨ad,e1,e2⟩:=lZ (j3 hO.fr) hf;rw[e1,ae,e2,ae];refine aw λl6 w5 m3 y5=>?_;refine aC qI m3 rfl rfl rfl λT1 z5 n3 A5=>?_;have a2:T1.get mm.n=.cells f.c 53 none:=n3;have r4:Ext mm T1:=⟨by omega,by grind⟩
   have L0:=hO.aE (Ox _) r4;rw[(fK L0.cell).2.1,ae,L0.tO.sl.len cV,az,o4,ae,(qq a2).1,ae,(qq a2).2.1,ae,ad8,ae];obtain⟨z,m6,r1,n6,o6,b1,b2,b3,b4,n0,b5,b6⟩:=L0.Sv (by omega) (Ox _) (x:=⟨fo f,YM⟩) ⟨.nil,ZE _,AH (o1 f (LZ hf))⟩ (by omega);rw[(show aF TE T1 39 1 [(0,(fo ⟨f.un,f.side⟩).v YM)]=_ from b1),az,b2,az,b3,az];have o3:=b6 _ _ _ _ a2 (by decide) (by decide);have r3:=n0.n;obtain⟨l,hl,l1, -⟩:=(k1 (B0 n0.fr)).ts;have c2:l.length=s.ts.length:=by grind
   rw[(fK (gm (B0 n0.fr))).2.1,ae,l1.len cV,c2,az];clear hl l1 c2
   refine Lp.intro (γ:=Nat) (λk=>s.ts.length-k) (λk vs mk lo=>∃N0 D0,vs=[.int .i64 k]/\k<=s.ts.length/\m.n<=lo/\ko a0.n p0.n a0 mk s.y a b c d e r1 N0 d0 (acc++ [⟨fo f,YM⟩]) D0 qs/\D0=ps++(List.range k).filterMap (Bw sf s (s.ts.length+j) f)/\D0.length<=15+j*6+k/\mk.get mm.n=.cells f.c 53 none) 0
    ⟨_,ps,rfl,ZE _,by omega,n0,by simp,by omega,o3⟩ ?_
   clear n0 o3 r3;rintro k vs mk fO ⟨N0,D0,rfl,hk,u3,hO,v0,u4,gf⟩;have r6:=hO.n;have s6:=M.aU gf;rw[aB,aM,ae,aj];refine an (λz1=>?_) (λB5=>?_)
   ·have z1:k < s.ts.length:=by grind
    have⟨l,hl,l1,u6⟩:=(k1 (B0 hO.fr)).ts;have c2:l.length=s.ts.length:=by grind
    obtain⟨x,hx⟩:∃x,l[k]?=some x:=⟨_,Fx (by omega)⟩
    have v6:s.ts[k]?=some x.t:=by grind
    have⟨ad,cs,e1,e2,e3⟩:=l1.index cV (k:=.i64) hx;obtain⟨rfl,v3⟩:cs=x.c/\one x.w=true:=e3;have e2:ah TE mk 62 ad=some (x.t.v x.w):=e2
    have d2:(List.range (k+1)).filterMap (Bw sf s (s.ts.length+j) f)=(List.range k).filterMap (Bw sf s (s.ts.length+j) f)++if tH sf s.y.us x.t f=true then [(s.ts.length+j,k)]else []:=by
     rw[Gm,Z1]
     congr 1
     unfold Bw
     grind
    refine aZ (λvs m' lo=>vs=[]/\m.n<=lo/\∃N0,ko a0.n p0.n a0 m' s.y a b c d e r1 N0 d0 (acc++ [⟨fo f,YM⟩]) (ps++(List.range (k+1)).filterMap (Bw sf s (s.ts.length+j) f)) qs/\m'.get mm.n=.cells f.c 53 none) (λQ hQ=>?_) ?_
    ·rw[(show ak TE 39 tv (.int .i64 k)=some ad from e1),ae,e2,ae];refine aw λC5 v4 i2 w4=>?_;refine aC mF i2 rfl rfl (Tk.cH v3) λe0 y4 j2 z4=>?_;have y0:e0.get mk.n=.cells (x.t.c x.w) 62 none:=j2;have O0:Ext mk e0:=⟨by omega,by grind⟩
     have j0:=O0.cells gf;refine aZ (λvs m' lo=>vs=[.bool ((decide (x.t.kind=2) ||decide (x.t.kind=4)) && decide (x.t.id=f.un))]/\e0=m'/\m.n<=lo) (λQ' E0=>?_) ?_
     ·rw[(nq y0).1,ae,aS,ae,aj];refine an (λh=>?_) (λh=>?_)
      ·rw[(nq y0).2.1,ae,(qq j0).1,ae,aS,ae];refine E0 _ _ _ ⟨?_,rfl,by omega⟩;rw[h];rfl
      rw[ae,aS,ae,aj];refine an (λh'=>?_) (λh'=>E0 _ _ _ ⟨?_,rfl,by omega⟩)
      ·rw[(nq y0).2.1,ae,(qq j0).1,ae,aS,ae];refine E0 _ _ _ ⟨?_,rfl,by omega⟩;rw[h,h'];rfl
      rw[h,h'];rfl
     rintro _ _ A4 ⟨rfl,rfl,P0⟩;rw[aB];refine aZ (λvs m' lo=>vs=[.bool (tH sf s.y.us x.t f)]/\Ext e0 m'/\m.n<=lo) (λQ' E0=>?_) ?_
     ·rw[aj];refine an (λh=>E0 _ _ _ ⟨?_,.refl,P0⟩) (λh=>?_);·unfold tH;rw[h];rfl
      have w3:=B0 (mm:=e0) λc H=>(O0.get c (by omega)).trans (hO.fr c H);rw[(fK (gm w3)).1,ae,gI y0,ae];obtain⟨v141,D5,y3,a1,z3, -⟩:=tz (m:=e0) (t:=x.t) hX hS (k1 w3).y hP.y v3;refine aG y3 ⟨Ox _,?_⟩;have n142:=a1.n;have dl:=uU hS hP.y.qE x.t;rw[(qq (a1.cells j0)).2.2,ae];refine aG (ji hX z3 (by omega) f) ?_;refine E0 _ _ _ ⟨?_,a1,by omega⟩;unfold tH;rw[h];rfl
     rintro _ m' w6 ⟨rfl,x',A3⟩;have y6:=x'.n;have o2:=hO.aE (Ox _) (O0.trans x');have B3:=x'.cells j0;rw[aB,aj];refine an (λh=>?_) (λh=>?_)
     ·rw[(fK o2.cell).2.2.1,ae,show aJ TE 69 [(0,.int .i64 ((s.ts.length+j:Nat):Int)),(1,.int .i64 (k:Nat))]=some (.agg (yi (s.ts.length+j,k)).toArray) by kernel_rfl,ae];obtain⟨z',E5,B4,G5,H5,p1,p2,p3,p4,C4,p5,p6⟩:=o2.Sw (by omega) (Ox _) (x:=(s.ts.length+j,k)) (by omega);rw[p1,az,p2,az,p3,az];refine hQ _ _ _ ⟨rfl,by omega,B4,?_,p6 _ _ _ _ B3 (by decide) (by decide)⟩;rw[d2,Tf h,<-WO,<-v0];exact C4
     refine hQ _ _ _ ⟨rfl,A3,N0,?_,B3⟩;rw[d2,QL (by grind),Zu,<-v0];exact o2
    rintro _ m' A4 ⟨rfl,P0,D4,E4,F4⟩;rw[aP,ae,wrap64];refine⟨k+1,by omega,D4,_,rfl,z1,P0,E4,rfl,?_,F4⟩;rw[d2,<-WO,<-v0,NN];split;·show D0.length+1<=_;omega
    show D0.length+0<=_;omega
   obtain rfl:k=s.ts.length:=by grind
   rw[aP,ae,wrap64];refine⟨j+1,by omega,_,_,_,_,rfl,P1,u3,hO,?_,?_,by omega⟩
   ·rw[Cu,C0,Q1,hf];simp
   ·rw[v0,l3,Gm,rJ,WO]
    congr 2
    simp[Dp,hf]
  have y1:j=F.length:=by grind
  subst y1;rw[V9]at C0;have F0:oQ mm (eP sf s F) a b c d e i0 m0 d0:=hO.nj rfl C0 l3 d3;have el:(eP sf s F).ts.length=s.ts.length+F.length:=by show(s.ts++F.map fo).length=_;rw[NN,Gv]
  have ep:(eP sf s F).ps.length=s.ps.length+(nz sf s F).length:=NN;have G2:=(B0 hO.fr m1.n (by omega)).trans g2;rw[(fK hO.cell).2.2.2.2,ae];by_cases G0:s.ts.length+F.length<=8/\s.ps.length+(nz sf s F).length<=28
  ·refine aG (uQ hX (Fz hM o1 G0.1 G0.2) F0) ?_;rw[bk,ae,aj];show gH false _ _;rw[aN,(fK hO.cell).2.2.2.2,ae];refine aC oW G2 rfl rfl F0.dS λz0 G4 u2 c1=>?_;have C3:z0.get m1.n=.cells (scc a b c d e i0 m0 d0) 43 none:=u2;rw[(fK C3).2.2.2.2,ae];have A1:∀c cs t g,mm.get c=.cells cs t g->t≠43->z0.get c=.cells cs t g:=λc cs t g H ht=>(c1 c λe=>by grind).trans H;have d1:oQ z0 (eP sf s F) a b c d e i0 m0 d0:=F0.aV λc cs t g H ht _=>A1 c cs t g H ht
   have D3:(eP sf s F).ts≠ []->∃l:List TW,tJ z0 l i0:=λj1=>⟨acc,by
    rcases hO.tO with h |⟨h, -⟩;·exact h.YU.aV λc cs t g H ht=>A1 c cs t g H (by simp only[aW.ty,aW.cT,RN,ZX,or_false]at ht;subst ht;decide)
    subst h;exact(j1 C0.symm).elim⟩
   refine sX (h0:=trivial) (lo:=min (min lo mm.n) m1.n) (m:=m) (vs:=[nj a b c d e i0 m0 d0,.int .i64 0]) (Q:=λrv m'=>YP s F (nz sf s F) (eP sf s F) rv m') (by omega) ⟨by omega,λc H=>by rw[c1 c (by omega),B0 hO.fr c (by omega),x2.get c H]⟩ ⟨_,_,_,_,_,_,_,_,F0.dS,.inl ⟨rfl,G0.1,G0.2,d1,D3⟩⟩ λhf=>⟨_,_,_,_,_,_,_,_,F0.dS,.inl ⟨rfl,G0.1,G0.2,?_,?_⟩⟩
   ·have b0:((D.bw a && (D.bw b && (D.bw c && (D.bw d && (D.bw e && (D.bw i0 && (D.bw m0 && (D.bw d0 && true)))))))) && (true && true))=true:=hf;simp only[JJ]at b0;have b0:=b0.1;exact d1.flat ⟨b0.1,b0.2.1,b0.2.2.1,b0.2.2.2.1,b0.2.2.2.2.1,b0.2.2.2.2.2.1,b0.2.2.2.2.2.2.1,b0.2.2.2.2.2.2.2.1⟩ m
   have b0:((D.bw a && (D.bw b && (D.bw c && (D.bw d && (D.bw e && (D.bw i0 && (D.bw m0 && (D.bw d0 && true)))))))) && (true && true))=true:=hf;simp only[JJ]at b0;obtain⟨e1, -⟩:=dK hO.tO.sl b0.1.2.2.2.2.2.1;intro j1;subst e1;exact(j1 C0.symm).elim
  have B1:8 < s.ts.length+F.length\/28 < s.ps.length+(nz sf s F).length:=by omega
  refine aG (ads hX (by omega) (by rw[el,ep];exact B1) F0) ?_;rw[bk,ae,aj];show gH true _ _;rw[bH,adZ,ae];refine aC oW G2 rfl rfl rfl λE3 H4 v2 J4=>?_;rw[(fK (show E3.get m1.n=.cells (scc YM YM YM YM YM YM YM YM) 43 none from v2)).2.2.2.2,ae];exact .inl ⟨rfl,by omega,trivial,.refl,_,_,_,_,_,_,_,_,rfl,.inr ⟨rfl,B1⟩⟩
 rintro e m2 fO _ h;exact h.elim
theorem WT{l:List TW}{v:Φ}(h:Sl m l v){i:Nat}{x:TW}(H:l[i]?=some x):∃b o,ak TE 39 v (YR i)=some (Ga b o)/\ah TE m 3 (Ga b (o+0))=some (YR x.t.kind)/\ah TE m 3 (Ga b (o+7))=some (YR x.t.id)/\ah TE m 3 (Ga b (o+9))=some (YR x.t.side):=by
 have⟨b,o,bc,g,cs,q1,q2,q3,q4,q5⟩:=h.fa cV (k:=.i64) H;obtain⟨rfl, -⟩:cs=x.c/\one x.w:=q3;refine⟨b,o,q1,?_,?_,?_⟩;·rw[bF,aI q2];exact q5 0 (by show 0<11;decide)
 ·rw[bF,aI q2];exact q5 7 (by show 7<11;decide)
 rw[bF,aI q2];exact q5 9 (by show 9<11;decide)
theorem abt{sf:List Fc->List Fc}{s:jk}:eP sf s []=s:=by unfold eP nz;simp
set_option maxHeartbeats 4000000 in
theorem acM(hX:cd X){sf:List Fc->List Fc}(hS:zu X sf)(J0:∀m1:M,m.n<=m1.n->C X (.func 6) [] m1 m1.n Ku m1){xs:List I6}{ks:List I4}{vb vk va:Φ}(hv:EM m xs vb)(i2:∀x∈xs,x.ok)(hlen:xs.length < 9223372036854775808)(hk:oK m ks vk)(i1:∀x∈ks,x.ok)(K0:ks.length < 9223372036854775808)(j2:one va=true)
  {ws:List I6} {vw:Φ} (hw:EM m ws vw) (j1:∀x∈ws,x.ok) (L0:ws.length < 9223372036854775808) {ps:List Int} {vp:Φ} (hp:oK m ps vp) (k1:∀x∈ps,lM x) (N0:ps.length < 9223372036854775808)
  {qs:List I4} {vq:Φ} (hq:oK m qs vq) (l1:∀x∈qs,x.ok) (O0:qs.length < 9223372036854775808) {wh:Int} (m2:lM wh):
  C X (.func 3) [.agg #[vb,vk,va],vw,vp,vq,.int .i64 wh] m m.n Ku m:=by
 refine Cl.fG hX (Kg func3) ?_;rw[F3];dsimp only[aL];refine aw λm1 n3 o2 u2=>?_;have x1:Ext m m1:=⟨by omega,u2⟩
 have g1:m1.get m.n=.cells [vb,vk,va] 25 none:=o2;unfold ptrTo;simp only[cX,dZ,ae];refine aG (J0 m1 (by omega)) ?_;rw[bk,ae,aj];show gH false _ _;rw[aN,show ah TE m1 25 (.pointer (some ⟨m.n,0,none⟩))=some (.agg #[vb,vk,va]) by rw[BS,aQ (n:=3) g1 (by show 0+3<=3;decide)];rfl,ae];have⟨s,r,r2,st,rc,mo,tv,pv,qv,m8,c8,x8,hM,hW⟩:=abr (m:=m1) hX (hv.aE x1) i2 hlen (hk.aE x1) i1 K0 j2 (hw.aE x1) j1 L0 (hp.aE x1) k1 N0 (hq.aE x1) l1 O0;refine aG c8 ?_;have n8:=x8.n;have hP:=hM.toEN;obtain⟨hV, -⟩:=hW;refine aw λm10 Q2 o1 T2=>?_;refine aC oW o1 rfl rfl hV.dS λm11 a3 p1 b3=>?_;have gS:m11.get m8.n=.cells (scc r r2 st rc mo tv pv qv) 43 none:=p1;have r1:Ext m8 m11:=⟨by omega,by grind⟩
 rw[(fK gS).2.2.2.2,ae];have⟨lv,m15,v2,P0,u1⟩:=yV hX hS hP (hV.aE r1);refine aG v2 ?_;have n15:=P0.n;rw[aH,aH];simp only[zi,F9,ae];have E0:=P0.cells gS;have F0:=hV.aE (r1.trans P0);have hL:=uG hS hP;obtain⟨F,hF⟩:∃F,F=sf (cS (dM sf s)):=⟨_,rfl⟩
 have hR:=acR (m:=m15) hX hS hM F0 hF;obtain⟨L,v0⟩:∃L,L=dM sf s:=⟨_,rfl⟩
 rw[<-v0]at u1 hL hF;obtain⟨G,hG⟩:∃G,G=cS L:=⟨_,rfl⟩
 have n0:F.Perm G:=hG ▸ hF ▸ hS.perm _;have y2:=n0.length_eq;have z2:G.length<=320:=by have:=qt L;rw[hG];omega
 have G0:∀f∈F,(0<=f.un/\f.un<=99)/\ -2<=f.side/\f.side<=7:=λf hf=>AL (sf:=sf) hM f (v0 ▸ hG ▸ n0.mem_iff.1 hf);have A2:∀x∈dM sf s,x.f∈F:=λx hx=>n0.mem_iff.2 (hG ▸(nL _ _).2 ⟨x,v0 ▸ hx,rfl⟩);have B2:F.Nodup:=n0.nodup_iff.2 (hG ▸ Ci L);have C2:=hM.tl6;have o3:=hM.W3;rw[(fK E0).2.2.2.2,ae];have⟨rv,m21,D2,y0,a,b,c,d,e,e0,z0,A0,dS,hR⟩:=hR;refine aG D2 ?_;have n21:=y0.n
 obtain⟨en,rfl,hE⟩:∃en:Int,rv=.tuple #[nj a b c d e e0 z0 A0,.int .i64 en]/\((en=0/\s.ts.length+F.length<=8/\s.ps.length+(nz sf s F).length<=28/\oQ m21 (eP sf s F) a b c d e e0 z0 A0/\((eP sf s F).ts≠ []->∃l:List TW,tJ m21 l e0))\/(en=290/\(8 < s.ts.length+F.length\/28 < s.ps.length+(nz sf s F).length))):=by
  grind
 rw[aH,aH];simp only[zi,F9,ae];refine aw λr3 c3 v1 d3=>?_;refine aC oW v1 rfl rfl dS λH g3 w1 i3=>?_;have y1:H.get m21.n=.cells (scc a b c d e e0 z0 A0) 43 none:=w1;have g0:Ext m21 H:=⟨by omega,by grind⟩
 have n26:=g0.n;have E2:=u1.aE (y0.trans g0);have z1:=(y0.trans g0).cells E0;have A1:=F0.aE (y0.trans g0);refine Lp.intro (γ:=Nat) (λk=>L.length-k) (λk vs mm lo=>∃rF,vs=[rF,.int .i64 k]/\k<=L.length/\m.n<=lo/\H.n<=mm.n/\(∀c,c < H.n->mm.get c=H.get c)/\Ow H.n mm (cS (L.take k)) rF) 0 ⟨_,rfl,ZE _,by omega,Ox _,λ_ _=>rfl,.nil⟩ ?_;rintro k vs mm lo ⟨rF,rfl,hk,B1,C1,fm,hO⟩;have xm:Ext H mm:=⟨C1,fm⟩
 have sm:=E2.aE xm;have hle:=qt (L.take k);rw[Gy]at hle;rw[aB,aB,sm.len Bo,az,aM,ae,aj];refine an (λi0=>?_) (λa1=>?_)
 ·have i0:k < L.length:=by grind
  obtain⟨x,hx⟩:∃x,L[k]?=some x:=⟨_,Fx i0⟩
  have p0:cS (L.take (k+1))=oP (cS (L.take k)) x.f:=by rw[Q1,hx];exact vK
  obtain⟨p,o,e1, -,e3⟩:=Xa sm hx;refine aZ (λvs m' lo=>∃rF,vs=[rF]/\m.n<=lo/\H.n<=m'.n/\(∀c,c < H.n->m'.get c=H.get c)/\Ow H.n m' (cS (L.take (k+1))) rF) (λQ hQ=>?_) ?_
  ·rw[e1,ae,lD,ae,e3,ae];refine aG (yK hX hO.sl (by omega) x.f) ?_;rw[bk,ae,aj];refine an (λh=>?_) (λh=>?_)
   ·have h:x.f∉cS (L.take k):=by grind
    rw[ae,lD,ae,e3,ae];refine fq (T:=35) (x:=x.f) ve rfl hO (by omega) (by omega) FD (λ_=>rfl) λF2 u3 w2 n2 k2 _ l2=>?_;refine hQ _ _ _ ⟨F2,rfl,by omega,by omega,λc hc=>(k2 c hc).trans (fm c hc),?_⟩;rw[p0];unfold oP;rw[QL h];exact w2
   have h:x.f∈cS (L.take k):=by grind
   refine hQ _ _ _ ⟨rF,rfl,by omega,C1,fm,?_⟩;rw[p0];unfold oP;rw[Tf h];exact hO
  rintro _ m' G2 ⟨H2,rfl,q0,h1,h2,h3⟩;rw[aB,aP,ae,wrap64];exact⟨k+1,by omega,H2,rfl,i0,q0,h1,h2,h3⟩
 have a1:k=L.length:=by grind
 subst a1;rw[V9,<-hG]at hO;have sG:=hO.sl;have B0:=xm.cells z1;have b1:=xm.cells y1;have C0:=A1.aE xm;have⟨l,hl,D1,v3⟩:=C0.ts;have E1:l.length=s.ts.length:=by grind
 rw[bL,ae,aj];show gH false _ _;rw[aN,bL,ae,aj];clear hR;rcases hE with⟨rfl,c1,d1,hOut,k0⟩ |⟨rfl,F1⟩
 ·show gH false _ _;have o0:=Fz (sf:=sf) hM G0 c1 d1;have D0:=hOut.aE (g0.trans xm);rw[aN,az,aS,ae,aj];refine an (λh0=>?_) (λh0=>?_)
  ·have h0:L=[]:=Je (by grind);have I2:F=[]:=Je (by grind);rw[I2,abt]at D0;rw[(fK B0).2.2.2.2,ae,(fK b1).2.2.2.2,ae];refine aG (Jq hX hP C0 D0) ?_;exact⟨rfl,by omega⟩
  have h0:L≠ []:=λe=>by grind
  have J2:0 < G.length:=by obtain⟨x,hx⟩:=List.exists_mem_of_ne_nil L h0;exact List.length_pos_of_mem (a:=x.f) (hG ▸(nL _ _).2 ⟨x,hx,rfl⟩)
  have el:(eP sf s F).ts.length=s.ts.length+F.length:=by show(s.ts++F.map fo).length=_;rw[NN,Gv]
  obtain⟨lc,k0⟩:=k0 (by grind);rw[(fK b1).2.2.2.2,ae];have⟨v91,j0,K2,a0,G1⟩:=yV hX hS o0 D0;rw[abg hM A2 o0.od]at G1;refine aG K2 ?_;have w3:=a0.n;rw[aH,aH];simp only[zi,F9,ae];have r0:=a0.cells B0;have u0:=a0.cells b1;have H0:=D0.aE a0;have⟨l2,H1,l0,I1⟩:=H0.ts;have I0:l2.length=s.ts.length+F.length:=by grind
  have J1:=C0.aE a0;have⟨l',L2,b0,K1⟩:=J1.ts;have m0:l'.length=s.ts.length:=by grind
  refine aZ (λvs mz lo=>vs=[Zf]/\j0=mz/\m.n<=lo) (λQ hQ=>?_) ?_
  ·rw[bL,ae,aj];show gH false _ _;rw[aN,G1.len Bo,az,bP,ae,aj];show gH false _ _;rw[aN,(fK u0).2.1,ae,l0.len cV,az,(fK r0).2.1,ae,b0.len cV,az,(sG.aE a0).len dA,az,aP,ae,wrap64,bL,ae,aj,I0,m0,CM,V8,aN,ae,ae,b0.len cV,m0,az];have L1:tJ j0 l2 e0:=MR l0 (k0.aV λc cs t g hc _=>(g0.trans (xm.trans a0)).cells hc);obtain⟨v117,N1,O1⟩:=L1.to cV (by kernel_rfl) (i:=s.ts.length) (by omega);rw[N1,ae,ae];refine aG (su hX O1 b0 (λx hx=>I1 x (OO hx)) K1 ?_ (by grind)) ?_
   ·rw[RE,H1,L2];show(s.ts++F.map fo).take s.ts.length=s.ts;rw[List.take_left]
   rw[bk,ae];exact hQ _ _ _ ⟨rfl,rfl,by omega⟩
  rintro _ _ G2 ⟨rfl,rfl,q0⟩;rw[aB,aj,aN,(fK r0).2.1,ae,b0.len cV,az,m0];refine Lp.intro (γ:=Nat) (λi=>F.length-i) (λi vs mz lo=>∃z,vs=[z,.int .i64 ((s.ts.length+i:Nat):Int)]/\i<=F.length/\j0=mz/\m.n<=lo) 0 ⟨_,rfl,ZE _,rfl,q0⟩ ?_;rintro i vs _ fO ⟨z,rfl,hi,rfl,j3⟩;rw[aB,aB,(fK u0).2.1,ae,l0.len cV,az,I0,aM,ae,aj];refine an (λi0=>?_) (λa1=>?_)
  ·have i0:i < F.length:=by grind
   obtain⟨f,hf⟩:∃f,F[i]?=some f:=⟨_,Fx i0⟩
   obtain⟨x,hx⟩:∃x,l2[s.ts.length+i]?=some x:=⟨_,Fx (by omega)⟩
   have M2:x.t=fo f:=by have h1:=Hn (sf:=sf) (s:=s) hf;rw[<-H1,Z0,hx]at h1;exact Option.some.inj h1
   have⟨p,o,e1,e2,e3,e4⟩:=WT l0 hx;rw[M2]at e2 e3 e4;have e1:ak TE 39 e0 (.int .i64 ((s.ts.length+i:Nat):Int))=_:=e1;refine aZ (λvs mz lo=>vs=[Zf]/\j0=mz/\m.n<=lo) (λQ hQ=>?_) ?_
   ·rw[ae,e1,ae,cn,ae,e2,ae,show aA TE .neq 3 (.int .i64 (fo f).kind) (.int .i64 8)=some Zf by kernel_rfl,ae,aj,aN,ae,e1,ae,bZ,ae,e3,ae,ae,e1,ae,cD,ae,e4,ae,
     show aJ TE 53 [(0,.int .i64 (fo f).id),(1,.int .i64 (fo f).side)]=some f.v by kernel_rfl,ae]
    refine aG (yK hX (sG.aE a0) (by omega) f) ?_;rw[IH (n0.mem_iff.1 (LZ hf)),bk,ae];exact hQ _ _ _ ⟨rfl,rfl,by omega⟩
   rintro _ _ P1 ⟨rfl,rfl,d0⟩;rw[aB,aj,aN,aP,ae,wrap64];exact⟨i+1,by omega,z,rfl,i0,rfl,d0⟩
  rw[(fK u0).2.2.2.2,ae,(fK r0).2.1,ae,b0.len cV,m0,az,(sG.aE a0).len dA,az];have⟨k,y3,ek⟩:=jq (c:=wh) (n:=G.length) J2;refine aG (aey hX m2 (by omega)) ⟨Ox _,?_⟩;rw[ek,aP,ae,wrap64];obtain⟨f,hf⟩:∃f,F[k]?=some f:=⟨_,Fx (by omega)⟩
  have N2:∀p∈(eP sf s F).ps,p.1 < 8/\p.2 < 8:=λp hp=>by have h1:=o0.od.ok p hp;have h2:=o0.od.le;omega
  obtain⟨z3,T1,a2,b2,A3,B3,rfl,hW⟩:=ER (m:=j0) (k:=s.ts.length+k) hX (by grind) o0.od.le o0.od.len N2 H0 ⟨lc,k0.aV λc cs t g hc _=>(g0.trans (xm.trans a0)).cells hc⟩;refine aG (show C X (.func 13) [nj a b c d e e0 z0 A0,.int .i64 ((s.ts.length:Int)+(k:Int))] j0 j0.n _ T1 from a2) ?_;have n179:=b2.n;obtain⟨k3,l3,c2,d2,g2⟩:=yV hX hS (abB (sf:=sf) hM G0 c1 d1 (j:=k) (by omega)) hW;refine aG c2 ?_;have n182:=d2.n;rw[aH,aH];simp only[zi,F9,ae]
  have m3:0 < (dM sf (wS (eP sf s F) (s.ts.length+k))).length:=by obtain⟨x,hx,O2⟩:=(nL L f).1 (hG ▸ n0.mem_iff.1 (LZ hf));exact List.length_pos_of_mem (S7 hM c1 d1 B2 hf (v0 ▸ hx) O2)
  refine aZ (λvs mz lo=>vs=[Ku]/\m.n<=lo) (λQ hQ=>?_) ?_
  ·rw[aS,ae,aj];show gH true _ _;rw[bH,g2.len Bo,az,bP,ae,CM];exact hQ _ _ _ ⟨rfl,by omega⟩
  rintro _ mz P1 ⟨rfl,d0⟩;rw[aB];exact⟨rfl,d0⟩
 show gH true _ _;rw[bH];refine aZ (λvs mz lo=>vs=[Ku]/\m.n<=lo) (λQ hQ=>?_) ?_
 ·rw[(fK B0).2.1,ae,D1.len cV,E1,az,sG.len dA,az,aP,ae,wrap64,bP,ae,aj];refine an (λ_=>hQ _ _ _ ⟨rfl,B1⟩) (λh=>?_);have h:=Ja h;have P2:=M4 (sf:=sf) (s:=s) (F:=F);rw[y2]at F1 P2;have hmul:G.length*s.ts.length<=320*6:=JV z2 C2;rw[(fK B0).2.2.1,ae,C0.ps.len iM,az,az,ae,D1.len cV,E1,az,fH,ae];rw[show((G.length:Int)*(s.ts.length:Int))=((G.length*s.ts.length:Nat):Int) by push_cast;rfl,wrap64,aP,ae,wrap64,bP,ae,CM];exact hQ _ _ _ ⟨rfl,B1⟩
 rintro _ mz P1 ⟨rfl,d0⟩;rw[aB];exact⟨rfl,d0⟩
end
end Go.Proofs.YtigpcbodmjjaiaaGreatDoor
namespace Go.D
open Go
section
section
variable {E:Env} {call:aK} {n:Nat}
def flat:Code->List Code
 |.seq a b=>flat a++flat b
 |c=> [c]
def iJ(f:Code->Fr->Option (Ex×Fr)):List Code->Fr->Option (Ex×Fr)
 |[],fr=>some (.normal,fr)
 |c::r,fr=>match f c fr with
  |some (.normal,fr)=>iJ f r fr
  |r=>r
theorem uN(f:Code->Fr->Option (Ex×Fr)):∀(a b:List Code) (fr:Fr),iJ f (a++b) fr=match iJ f a fr with|some (.normal,fr)=>iJ f b fr|r=>r
 |[],b,fr=>rfl
 |c::a,b,fr=>by
  show(match f c fr with|some (.normal,fr)=>iJ f (a++b) fr|r=>r)=match(match f c fr with|some (.normal,fr)=>iJ f a fr|r=>r)with|some (.normal,fr)=>iJ f b fr|r=>r
  cases h:f c fr with
  |none=>rfl
  |some p=>
   have⟨e,H⟩:=p;cases e with
   |normal=>exact uN f a b H
   |exit id=>rfl
   |ret=>rfl
theorem uO:∀(c:Code) (fr:Fr),bQ E call n c fr=iJ (bQ E call n) (flat c) fr
 |.seq a b,fr=>by
  rw[flat,uN,<-uO a fr];show(match bQ E call n a fr with|some (.normal,fr)=>bQ E call n b fr|r=>r)=_;cases h:bQ E call n a fr with
  |none=>rfl
  |some p=>
   have⟨e,H⟩:=p;cases e with
   |normal=>exact uO b H
   |exit id=>rfl
   |ret=>rfl
 |.skip,fr=>fx _ fr
 |.region _ _ _,fr=>fx _ fr
 |.cond _ _ _,fr=>fx _ fr
 |.block _ _,fr=>fx _ fr
 |.loop _,fr=>fx _ fr
 |.exit _,fr=>fx _ fr
 |.ret,fr=>fx _ fr
 |.label _,fr=>fx _ fr
 |.goto _,fr=>fx _ fr
 |.rangeFunc _ _ _ _,fr=>fx _ fr
 |.scope _,fr=>fx _ fr
 |.refuse _,fr=>fx _ fr
where
 fx (c:Code) (fr:Fr):bQ E call n c fr=iJ (bQ E call n) [c] fr:=by
  unfold iJ;cases h:bQ E call n c fr with
  |none=>rfl
  |some p=>
   have⟨e,H⟩:=p;cases e <;>rfl
theorem adJ{f:Code->Fr->Option (Ex×Fr)}{l:List Code}{fr H:Fr}(a k:Nat)(h:iJ f ((l.drop a).take k) fr=some (.normal,H)):iJ f (l.drop a) fr=iJ f (l.drop (a+k)) H:=by
 have e:l.drop a=(l.drop a).take k++l.drop (a+k):=by rw[<-WL,Gw]
 rw[e,uN,h]
theorem Cv{X:aK}{f:FuncId}{fn:Func}{c:Code}{args:Bt}{m:M}{fr:Fr}{v:Φ}(H:X (.func f) args m=none)(hf:E.fn.get f=some fn)(hb:fn.body=some c)(hle:Nat.ble args.length fn.ntmps)
  (he:bQ E (cC E X n) n c {T:=enter args 0,m:={m with low:=m.n}}=some (.ret,fr)) (hr:result? E fn fr.T fr.m=some v) (hv:bA v) (hl:Nat.ble m.n fr.m.low):cC E X (n+1) (.func f) args m=some (v,m):=by
 unfold cC;grind
end
end
section
section
variable {P:Program}
def JD(X Y:aK):aK:=λf args m=>match X f args m with |some r=>some r |none=>Y f args m
theorem uv{X Y:aK}{f:Fn}{args:Bt}{m:M}{r:Φ×M}(h:JD X Y f args m=some r):X f args m=some r\/Y f args m=some r:=by
 unfold JD at h;cases H:X f args m with
 |none=>rw[H]at h;exact .inr h
 |some r'=>rw[H]at h;exact .inl h
theorem Np{X Y:aK}(hX:dJ P X)(hY:dJ P Y):dJ P (JD X Y):=
 ⟨λf args m v H h=>(uv h).elim (hX.func f args m v H) (hY.func f args m v H),
  λl args m v H h=>(uv h).elim (hX.yield l args m v H) (hY.yield l args m v H),
  λf args m v H h=>(uv h).elim (hX.aV f args m v H) (hY.aV f args m v H)⟩
theorem Dz{X Y:aK}{f:Fn}{args:Bt}{m:M}(h1:X f args m=none)(H:Y f args m=none):JD X Y f args m=none:=by unfold JD;rw[h1];exact H
end
end
end Go.D
namespace Go.Proofs.YtigpcbodmjjaiaaGreatDoor
open Go Go.D Go.Proofs.Tryz
section
variable {m:M}
def sK:Nat->Bt->Option (List Pl)
 |0,_=>some []
 |n+1,.int .i64 x::.int .i64 y::r=>match sK n r with |some l=>some (⟨x,y⟩::l) |none=>none
 |_+1,_=>none
def Nf(m:M)(v:Φ):Option (List Pl):=
 match v with
 |.slice none 0 0=>some []
 |.slice (some a) n _=>match a.spot,m.get a.block with
  |none,.cells cs e _=>bif Nat.beq e 141 && Nat.ble (a.off+n*2) cs.length then sK n (cs.drop a.off)else none
  |_,_=>none
 |_=>none
theorem yj:∀{n:Nat} {cs:Bt} {l:List Pl},sK n cs=some l->l.length=n/\∀i p,l[i]?=some p->(cs.drop (i*2)).take 2=p.c
 |0,_,l,h=>by cases h;exact⟨rfl,λi p hi=>by cases hi⟩
 |n+1,cs,l,h=>by
  unfold sK at h;split at h;·omega
  ·rename_i n' x y r hn;cases hn;cases H:sK n r with
   |none=>rw[H]at h;cases h
   |some l'=>
    rw[H]at h;cases h;have⟨h1,h2⟩:=yj H;refine⟨by grind,λi p hi=>?_⟩;match i with
    |0=>cases hi;rfl
    |i+1=>
     grind
  ·cases h
theorem acF{v:Φ}{l:List Pl}(h:Nf m v=some l):Sl m l v:=by
 unfold Nf at h;split at h;·cases h;exact .inl ⟨rfl,rfl⟩
 ·rename_i a n c;split at h
  ·rename_i cs e g H hg;cases hc:(Nat.beq e 141 && Nat.ble (a.off+n*2) cs.length)with
   |false=>rw[hc]at h;cases h
   |true=>rw[hc,cond_true]at h;rw[JJ]at hc;obtain rfl:=vZ hc.1;have hle:=JO hc.2;have⟨h1,h2⟩:=yj h;have⟨ab,ao,sp⟩:=a;have H:sp=none:=H;subst H;refine .inr ⟨ab,ao,c,cs,g,by rw[h1],hg,by rw[h1];exact hle,λi p hi=>?_⟩;have:=h2 i p hi;rw[WL]at this;exact this
  cases h
 cases h
theorem QU:cd W7:=⟨λ_ _ _ _=>rfl⟩
def yh:aK:=λfn args m=>
 match fn with
 |.func f=>
  bif Nat.beq f 170 then
   match args with
   |[v]=>match Nf m v with |some l=>bif Nat.ble l.length 1000 then some (.bool (bI l),m)else none |none=>none
   |_=>none
  else none
 |_=>none
theorem Jx:dJ Tryz.prog yh:=by
 refine⟨λf args m v m' H σ w a0 hs hl=>?_,λl args m v m' H=>by simp[yh]at H,λf args m v m' H=>?_⟩
 ·unfold yh at H;dsimp only at H;cases h1:Nat.beq f 170 with
  |true=>
   obtain rfl:=vZ h1;rw[h1,cond_true]at H;split at H
   ·rename_i v0;split at H
    ·rename_i l hp;cases hlen:Nat.ble l.length 1000 with
     |false=>rw[hlen]at H;cases H
     |true=>rw[hlen,cond_true]at H;cases H;have hle:=JO hlen;have hc:=Cl.calls ag.ok abw (jm QU (acF hp) (by omega)) hs hl;exact⟨hc.1.mono λe w' h=>h.flat hs rfl,hc.2⟩
    cases H
   cases H
  |false=>
   grind
 ·unfold yh at H;cases f with
  |func f=>
   dsimp only at H;cases h1:Nat.beq f 170 with
   |true=>
    rw[h1,cond_true]at H;split at H
    ·split at H
     ·rename_i l hp;cases hlen:Nat.ble l.length 1000 with
      |false=>rw[hlen]at H;cases H
      |true=>rw[hlen,cond_true]at H;cases H;exact LK.refl
     cases H
    cases H
   |false=>
    grind
  |_=>cases H
end
end Go.Proofs.YtigpcbodmjjaiaaGreatDoor
