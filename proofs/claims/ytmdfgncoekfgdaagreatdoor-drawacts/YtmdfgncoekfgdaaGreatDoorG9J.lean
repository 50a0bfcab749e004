/- fabric.clone, fabric.Add. -/
import Derived.Test.YtmdfgncoekfgdaaGreatDoorG4J
import Derived.Test.YtmdfgncoekfgdaaGreatDoorG8J
import Derived.Test.YtmdfgncoekfgdaaGreatDoorG7J
import Derived.Test.YtmdfgncoekfgdaaGreatDoorG4J
set_option maxRecDepth 100000
namespace Go.Proofs.YtmdfgncoekfgdaaGreatDoor
open Go Go.D
section
variable {X:aG} {m:M}
theorem ze(hX:cV X){l:List UW}{r:aed}(hF:cJ m l r)(a1:∀x∈l,x.u.shape≠ [])(z1:l.length<=1000):
  ∃F m' l',C X (.func 361) [.agg #[r]] m m.n (.agg #[F]) m'/\Ext m m'/\bR l'=bR l/\(∀x∈l',Sl m' x.u.shape x.w)/\(∀x∈l',x.u.shape.length < 1000000)/\jU m.n m' l' F:=by
 have key:=Cl.gen (E:=TE) (X:=X) (f:=361) (args:=[.agg #[r]]) (m:=m) (R:=λv' m' b=>b=m.n/\∃F l',v'=.agg #[F]/\Ext m m'/\bR l'=bR l/\(∀x∈l',Sl m' x.u.shape x.w)/\(∀x∈l',x.u.shape.length < 1000000)/\jU m.n m' l' F) (hX.no _ rfl) Rw rfl ?_
 ·obtain⟨v',m',b,hc,rfl,F,l',rfl,h1,h2,h3,h4,h5⟩:=key;exact⟨F,m',l',hc,h1,h2,h3,h4,h5⟩
 rw[XZ];dsimp only[aI,δ,ε,ζ,η,θ,ι,κ,ς,υ,φ,χ,ψ];refine au λm1 K1 c1 d1=>?_;refine au λm2 L1 e1 H0=>?_;have r0:Ext m m2:=⟨by omega,λc hc=>by rw[H0 c (by omega),d1 c hc]⟩
 have g1:m2.get m.n=.cells [r] 31 none:=by rw[H0 _ (by omega)];exact c1
 have g2:m2.get m1.n=.cells [aeg] 31 none:=e1;unfold ptrTo;refine ai bu ?_;refine ai (show ah TE m2 29 (aeb m.n (0+0))=some r by rw[eJ,aF g1];rfl) ?_;obtain⟨F,m6,i1,s0,j0⟩:=Er (m:=m2) hX (hF.sl.aD r0) (by omega);refine az i1 ?_;have A1:=s0.n;have B1:=r0.n;have l0:one F=true:=j0.sl.one;obtain⟨ar,cr,j1⟩:=j0.sl.form;refine ai (show aR TE 31 [(0,F)]=some (.agg #[F]) by rw[j1];exact ED rfl) ?_;refine au λm9 N1 k1 o1=>?_;refine aC im k1 rfl rfl (by show(one F && true)=true;rw[l0];rfl) λe0 C1 I0 J0=>?_;have g10:e0.get m6.n=.cells [F] 31 none:=I0;have b0:Ext m6 e0:=⟨by omega,λc hc=>by rw[J0 c (by omega),o1 c hc]⟩
 have K0:=(r0.trans s0).trans b0;have u0:∀mm:M,mm.get m6.n=.cells [F] 31 none->ah TE mm 29 (aeb m6.n (0+0))=some F:=λmm hh=>by rw[eJ,aF hh];rfl
 refine ai bu (ai (u0 e0 g10) ?_);rw[(j0.sl.aD b0).len eg,aE];refine Lp.nc (γ:=Nat) (λi=>l.length-i) (λi vs mm lo=>∃acc,vs=[.int .i64 i]/\i<=l.length/\bR acc=bR l/\jU m2.n mm acc F/\(∀x∈acc,Sl mm x.u.shape x.w)/\(∀c,c < m2.n->mm.get c=e0.get c)/\mm.get m6.n=.cells [F] 31 none/\e0.n<=mm.n/\m.n<=lo) 0 ⟨l,rfl,aaQ _,rfl,j0.aD b0,λx hx=>(hF.sh x hx).aD K0,λ_ _=>rfl,g10,Ξ _,by omega⟩ ?_;rintro i vs mm lo ⟨acc,rfl,hi,H,o0,v0,hk,g6,O1,P1⟩ P hP
 have D1:acc.length=l.length:=by have:=congrArg List.length H;rw[dE,dE]at this;exact this
 rw[aH,aX,ae,an];refine aq (λz0=>?_) (λp1=>?_)
 ·have z0:i < l.length:=by simpa using z0
  obtain⟨x,hx⟩:∃x,acc[i]?=some x:=⟨_,Φ (by omega)⟩
  have L0:=aac hx;have A0:x.u∈bR l:=by rw[<-H];exact aaU.2 ⟨x,L0,rfl⟩
  obtain⟨z,hz,k0⟩:=pU A0;have M0:x.u.shape≠ []:=by rw[<-k0];exact a1 z hz
  have E1:x.u.shape.length < 1000000:=by rw[<-k0];exact hF.ln z hz
  have N0:Ow m2.n mm acc F:=by
   rcases o0 with h |⟨h, -⟩;·exact h
   subst h;simp at hx
  obtain⟨b,O0,Q1,⟨bc,bg,P0⟩,S1,⟨cs,hr,B0⟩,F1⟩:=DH (m:=mm) rfl N0 hx eg;have T1:b≠m6.n:=λe=>by subst e;rw[g6]at P0;cases P0
  obtain⟨rfl,U1⟩:cs=x.c/\one x.w=true:=hr;refine ai bu (ai (u0 mm g6) ?_);refine ai bu (ai (u0 mm g6) ?_);refine ai (O0 .i64) (ai bA ?_);refine ai (show ah TE mm 45 (aeb b (0+i*6+3))=some x.w by rw[kg];exact(B0 3 (by decide)).trans rfl) ?_;obtain⟨w',Q0,S0,d0,a0⟩:=ij (m:=mm) hX (v0 x L0) M0 (by omega);refine az S0 ?_;have n30:=a0.n;refine⟨Ξ _,?_⟩;obtain⟨b',C0,G1,⟨V1,X1,g0⟩,H1, -,D0⟩:=DH (m:=Q0) rfl (N0.aD a0) hx eg;refine ai (C0 .i64) (ai bA ?_);refine D0 3 45 _ ⟨x.u,w'⟩ w' kG rfl d0.sl.cells d0.sl.one (by decide) (λcs r1 m'=>⟨by obtain⟨rfl, -⟩:=r1;rfl,d0.sl.one⟩) _ λs1 I1 E0 h0=>?_;rw[aQ,ae,wrap64 (by omega) (by omega)]
  have T0:∀{sh:List Pl} {w:aed},Sl Q0 sh w->Sl s1 sh w:=λhs=>hs.bH λc cs t g hb ht=>by
   have ht:t=98:=by simpa[aP.ty,aP.fx]using ht
   subst ht;rw[h0 c (λe=>by subst e;rw[g0]at hb;cases hb),hb]
  have u1:b'≠m6.n:=λe=>by subst e;rw[a0.cells g6]at g0;cases g0
  refine hP (i+1) _ _ _ (by omega) ⟨acc.set i ⟨x.u,w'⟩,by push_cast;rfl,z0,?_,.inl E0,λy hy=>?_,λc hc=>?_,?_,by omega,by omega⟩
  ·rw[<-H];unfold bR;rw[ady];apply abt;intro j;rw[acN];split
   ·rename_i e;subst e;split;·rw[aaA,hx];rfl
    rename_i h;rw[aaB]at h;omega
   rfl
  ·rcases List.mem_or_eq_of_mem_set hy with hy |rfl;·exact T0 ((v0 y hy).aD a0)
   exact T0 d0.sl
  ·rw[h0 c (by omega),a0.get c (by omega),hk c hc]
  rw[h0 _ (Ne.symm u1),a0.cells g6]
 have Y1:i=l.length:=by
  have:¬(i:Int)< (l.length:Int):=by have:=abv p1;exact this
  omega
 refine ai (show ah TE mm 31 (aeb m6.n 0)=some (.agg #[F]) by rw[dp,aJ (n:=1) g6 (by show 0+1<=1;decide)];rfl) ?_;have U0:mm.get m1.n=.cells [aeg] 31 none:=by rw[hk _ (by omega),b0.get _ (by omega),s0.get _ (by omega),g2]
 refine aC im U0 rfl rfl (by show(one F && true)=true;rw[l0];rfl) λur J1 V0 q0=>?_;have v1:ur.get m1.n=.cells [F] 31 none:=V0;refine ai (show ah TE ur 31 (aeb m1.n 0)=some (.agg #[F]) by rw[dp,aJ (n:=1) v1 (by show 0+1<=1;decide)];rfl) ?_;have X0:Ext m ur:=⟨by omega,λc hc=>by rw[q0 c (by omega),hk c (by omega),K0.get c hc]⟩
 have F0:∀c cs t g,mm.get c=.cells cs t g->t≠31->ur.get c=.cells cs t g:=λc cs t g hc ht=>by rw[q0 c (λe=>by subst e;rw[U0]at hc;cases hc;exact ht rfl),hc]
 have G0:jU m.n ur acc F:=by
  rcases o0 with h |⟨h1,b,h2,h3,h4⟩;·exact .inl ((h.bH λb c t g hb ht=>F0 b c t g hb (by rintro rfl;simp[aP.ty,aP.fx]at ht)).mono (by omega))
  exact .inr ⟨h1,b,h2,by omega,F0 _ _ _ _ h4 (by show(87:Nat)≠31;decide)⟩
 have i0:∀x∈acc,Sl ur x.u.shape x.w:=λx hx=>(v0 x hx).bH λb c t g hb ht=>F0 b c t g hb (by rintro rfl;simp[aP.ty,aP.fx]at ht)
 have Y0:∀x∈acc,x.u.shape.length < 1000000:=λx hx=>by
  have A0:x.u∈bR l:=by rw[<-H];exact aaU.2 ⟨x,hx,rfl⟩
  obtain⟨z,hz,k0⟩:=pU A0;rw[<-k0];exact hF.ln z hz
 rcases G0 with(⟨h1,h2⟩ |⟨b,cs,h1,hh⟩) |⟨h1,b,h2,hh⟩
 ·subst h1;subst h2;have w1:bR l=[]:=H.symm;exact .inl ⟨by first |rfl |trivial,by omega,by first |rfl |trivial,_,[],rfl,.refl,w1.symm,λx hx=>(by cases hx),λx hx=>(by cases hx),.inl Ow.nil⟩
 ·exact .inr ⟨.inl (by rw[h1];first |rfl |trivial),by omega,F,acc,rfl,X0,H,i0,Y0,.inl (.inr ⟨b,cs,h1,hh⟩)⟩
 exact .inr ⟨.inl (by rw[h2];first |rfl |trivial),by omega,F,acc,rfl,X0,H,i0,Y0,.inr ⟨h1,b,h2,hh⟩⟩
section
variable {α:Type} [aP α]
def WN(T:TypeId)(fn:Func):Prop:=∃rest:Words->aed->aed->aed->M->(aee->M->Nat->Prop)->aed->aed->aed->Prop,∀(W:Words) (x0 x1 x2:aed) (m:M) (R:aee->M->Nat->Prop),dm TE W fn [x0,x1,x2] m R=
 (W.aj (slice? TE m T x0 (some x1) none none) λv1=>(W.aT (av TE m .len [T] [x2]) λv2 _=>(W.aj (aw TE .eql 3 v2 (.int .i64 0)) λv3=>(bD v3
 (R [x0] m (M.n m))
 (W.aT (av TE m .len [T] [x0]) λv4 _=>(W.aj (aw TE .eql 3 x1 v4) λv5=>(bD v5
 (W.aT (av TE (M.wl m (M.n m)) .append [T,T] [x0,x2]) λv6 F=>(R [v6] F (min (M.n m) (M.low F))))
 (rest W x0 x1 x2 m R v1 v2 v4))))))))
theorem HD{T t0:TypeId}(hT:uF TE T t0 α)(hA:AF TE T α)(d0:aP.fx α=[]){f:Nat}{fn:Func}(hf:TE.fn.get f=some fn)(hn:Nat.ble 3 fn.ntmps=true)(hF:WN T fn)
  (b0:∀m:M,slice? TE m T aeg (some (.int .i64 (0:Nat))) none none=some aeg)
  {n1:Nat} {l:List α} {v:aed} {bx:Nat} {x:α} {cs:aee} (hX:∀lw,X (.func f) [v,.int .i64 l.length,aec bx 0 1 1] (m.wl lw)=none) (h:jU n1 m l v) (hl:l.length < 1000000)
  (hx:m.get bx=.cells cs (aP.ty α) none) (hr:aP.rep m x cs) (a0:n1<=m.n):
  ∃F m' b,C X (.func f) [v,.int .i64 l.length,aec bx 0 1 1] m b F m'/\n1<=b/\Ow n1 m' (l++ [x]) F/\m.n<=m'.n/\(∀c,c < m.n->(∀a n k,v=.slice (some a) n k->c≠a.block)->m'.get c=m.get c):=by
 obtain⟨rest,hF⟩:=hF;have hy:Sl m [x] (aec bx 0 1 1):=Dq hx hr;have key:=Cl.XH (E:=TE) (X:=X) (f:=f) (args:=[v,.int .i64 l.length,aec bx 0 1 1]) (m:=m) (R:=λF m' b=>n1<=b/\Ow n1 m' (l++ [x]) F/\m.n<=m'.n/\(∀c,c < m.n->(∀a n k,v=.slice (some a) n k->c≠a.block)->m'.get c=m.get c)) hX hf hn ?_
 ·obtain⟨F,m',b,hc,h1⟩:=key;exact⟨F,m',b,hc,h1⟩
 rw[hF];dsimp only[aI];obtain⟨ti,te,t1,⟨e,t2⟩,t3,t4,t5,t6⟩:=id hT;have j0:=aP.pos (α:=α)
 have e0:∃w,slice? TE m T v (some (.int .i64 l.length)) none none=some w:=by
  rcases h with(⟨h1,rfl⟩ |⟨b,bc,rfl,h2,h3,h4,h5,h6⟩) |⟨h1,b,rfl,h2,h3⟩;·subst h1;exact⟨_,b0 m⟩
  ·obtain⟨a',ha, -⟩:=lD (o:=0) t1 t2 (by omega) h4 (.inr (by rw[t3])) (Ξ l.length) (Ξ l.length);exact⟨_,ha⟩
  subst h1;obtain⟨a',ha, -⟩:=lD (o:=0) (n:=0) (c:=0) (j:=0) t1 t2 (by omega) h3 (.inl rfl) (Ξ _) (Ξ _);exact⟨_,ha⟩
 obtain⟨w,hw⟩:=e0;rw[hw,ae,hy.len hT,aE,aY,ae,an];rw[show decide (((([x]:List α).length:Nat):Int)=0)=false from by simp,aM,h.sl.len hT,aE,aY,ae,an,aaX rfl,bU]
 have fin:∀(F:aed) (m1:M),av TE (m.wl m.n) .append [T,T] [v,aec bx 0 1 1]=some (F,m1)->Ow n1 m1 (l++ [x]) F->m.n<=m1.n->n1<=m1.low->
   aT (av TE (m.wl m.n) .append [T,T] [v,aec bx 0 1 1]) λv6 m7=>(bP (aO [v6])=true/\m.n<=min m.n m7.low/\(n1<=m.n/\Ow n1 m (l++ [x]) (aO [v6])/\m.n<=m.n/\(∀c,c < m.n->(∀a n k,v=.slice (some a) n k->c≠a.block)->m.get c=m.get c)))\/((bP (aO [v6])=false\/min m.n m7.low < m.n)/\(n1<=min m.n (min m.n m7.low)/\Ow n1 m7 (l++ [x]) (aO [v6])/\m.n<=m7.n/\(∀c,c < m.n->(∀a n k,v=.slice (some a) n k->c≠a.block)->m7.get c=m.get c))):=by
  intro F m1 he ho hn H
  rw[he,aE]
  refine .inr ⟨.inl (ho.flat (by simp)),by omega,ho,hn,λc hc g0=>iX he hc g0⟩
 rcases h with h |⟨h1,b,rfl,h2,h3⟩
 ·obtain⟨F,m1,he,ho,h0,H, -⟩:=h.append hA (by rw[d0];simp) hy a0 (by simp;omega);exact fin F m1 he ho h0.n H
 subst h1;obtain⟨F,m1,he,ho,i0,H⟩:=lO hA h3 hy (by simp) (by simp);exact fin F m1 he (ho.mono a0) i0.n (by rw[H];exact a0)
theorem za{T t0:TypeId}(hT:uF TE T t0 α)(hA:AF TE T α)(H:aP.fx α=[]){N:PG}{fn:Func}(hf:TE.fn.get N.S=some fn)(hn:Nat.ble 3 fn.ntmps=true)(hF:WN T fn)
  (b0:∀m:M,slice? TE m T aeg (some (.int .i64 (0:Nat))) none none=some aeg) (hk:N.k=aP.sz α) (he:N.e=aP.ty α) (hX:∀args m,X (.func N.S) args m=pD N (.func N.S) args m)
  {n1:Nat} {l:List α} {v:aed} {i bx:Nat} {x:α} {cs:aee} (h:jU n1 m l v) (hi:i<=l.length) (hl:l.length < 1000000)
  (hx:m.get bx=.cells cs (aP.ty α) none) (hr:aP.rep m x cs) (d0:n1<=m.n):
  ∃F m' b,C X (.func N.S) [v,.int .i64 i,aec bx 0 1 1] m b F m'/\n1<=b/\Ow n1 m' (l.take i++x::l.drop i) F/\m.n<=m'.n/\(∀c,c < m.n->(∀a n k,v=.slice (some a) n k->c≠a.block)->m'.get c=m.get c):=by
 by_cases e0:i < l.length
 ·rcases h with h |⟨rfl, -⟩
  ·obtain⟨F,m',b,h1,h2,h3,h4, -, -,h5⟩:=OB H hk he hX h e0 hl hx hr d0;exact⟨F,m',b,h1,h2,h3,h4,h5⟩
  simp at e0
 have e:i=l.length:=by omega
 subst e;obtain⟨a0,c0,hv⟩:=h.sl.form
 obtain⟨F,m',b,h1,h2,h3,h4⟩:=HD (X:=X) hT hA H hf hn hF b0 (λlw=>by
  rw[hX,hv]
  unfold pD
  dsimp only
  rw[aa4,cond_true]
  cases a0 with
  |none=>rfl
  |some a=>
   show(match(m.wl lw).get a.block,(m.wl lw).get bx with |.cells cs te (some k),.cells ds g0 none=>_ |_,_=>none)=none;split;·rw[aaa (by rintro⟨-, -,⟨h1,h2, -⟩, -⟩;omega)]
   rfl) h hl hx hr d0
 rw[abB,acS];exact⟨F,m',b,h1,h2,h3,h4⟩
end
structure me(X:aG):Prop where
 un:∀args m,X (.func 362) args m=pD ⟨362,6,87⟩ (.func 362) args m
 jL:∀args m,X (.func 280) args m=pD ⟨280,5,89⟩ (.func 280) args m
theorem OE:WN 29 Tryz.f362:=⟨_,λ_ _ _ _ _ _=>XY⟩
theorem OF:WN 58 Tryz.f280:=⟨_,λ_ _ _ _ _ _=>Yp⟩
theorem Lg(hI:me X){n1:Nat}{l:List UW}{v:aed}{i H:Nat}{x:UW}(h:jU n1 m l v)(hi:i<=l.length)(hl:l.length < 1000000)(hx:m.get H=.cells x.c 87 none)(hw:one x.w=true)(F:n1<=m.n):
  ∃rv m' b,C X (.func 362) [v,.int .i64 i,aec H 0 1 1] m b rv m'/\n1<=b/\Ow n1 m' (l.take i++x::l.drop i) rv/\m.n<=m'.n/\(∀c,c < m.n->(∀a n k,v=.slice (some a) n k->c≠a.block)->m'.get c=m.get c):=
 za (N:=⟨362,6,87⟩) eg tf rfl Rv rfl OE (λ_=>by kernel_rfl) rfl rfl hI.un h hi hl hx ⟨rfl,hw⟩ F
theorem Lh(hI:me X){n1:Nat}{l:List Mk}{v:aed}{i H:Nat}{x:Mk}(h:jU n1 m l v)(hi:i<=l.length)(hl:l.length < 1000000)(hx:m.get H=.cells x.c 89 none)(F:n1<=m.n):
  ∃rv m' b,C X (.func 280) [v,.int .i64 i,aec H 0 1 1] m b rv m'/\n1<=b/\Ow n1 m' (l.take i++x::l.drop i) rv/\m.n<=m'.n/\(∀c,c < m.n->(∀a n k,v=.slice (some a) n k->c≠a.block)->m'.get c=m.get c):=
 za (N:=⟨280,5,89⟩) eU Aw rfl RN rfl OF (λ_=>by kernel_rfl) rfl rfl hI.jL h hi hl hx rfl F
theorem Fh{l:List UW}{id:Int}:gJ (λx:UW=>x.u.id) l id=gJ (λu:Un=>u.id) (bR l) id:=by unfold gJ bR;rw[List.filter_map,aaB];rfl
theorem He{us:List Un}(F:cF us){u:Un}(h:∀v∈us,v.id≠u.id):us.take (gJ (λu:Un=>u.id) us u.id)++u::us.drop (gJ (λu:Un=>u.id) us u.id)=mR us u:=by
 obtain⟨H,h2⟩:=vv (key:=λu:Un=>u.id) (id:=u.id) F.CJ
 rw[H,h2]
 unfold mR
 congr 2
 apply adr
 intro v hv
 have:=h v hv
 rw[decide_eq_decide]
 omega
theorem QV{n1:Nat}{l:List UW}{r:aed}(h:Ow n1 m l r)(F:∀x∈l,Sl m x.u.shape x.w)(H:∀x∈l,x.u.shape.length < 1000000):cJ m l r:=
 ⟨h.sl,F,H,by
  rcases h with⟨_,h⟩ |⟨b,cs,h1,h2,h3,h4,h5,h6⟩
  ·exact .inl h
  ·exact .inr ⟨b,0,_,cs,_,h1,Ξ _,h4,.inr rfl⟩⟩
theorem Kv(H:cV X){l:List UW}{r w:aed}{u:Un}{U:Nat}{g:Option Nat}(hF:cJ m l r)(hl:l.length < 1000)(hU:m.get U=.cells (u.c w) 87 g)(hw:Sl m u.shape w)(hu:u.shape.length < 4611686018427387904):
  C X (.func 359) [r,.func (.func 360) #[] #[ptrTo U]] m m.n (.bool (l.any λv=>fE u v.u)) m:=by
 refine Cl.flat (H.no _ rfl) Ry rfl rfl ?_;rw[Yb];dsimp only[aI,η,χ,ψ];refine az (ki eg (H.no _ rfl) SC rfl HE (l:=l) (λv=>fE u v.u) (by omega) hF.sl λx hx cs hr=>?_) ?_
 ·obtain⟨rfl,h1⟩:cs=x.c/\one x.w=true:=hr;show C X (.func 360) [x.v,ptrTo U] m m.n (.bool (fE u x.u)) m;refine Cl.flat (H.no _ rfl) Rx rfl rfl ?_;rw[Ya];dsimp only[aI,δ,ς,φ,ψ];refine au λm1 d0 a0 b0=>?_;have F:Ext m m1:=⟨by omega,b0⟩
  have g1:m1.get m.n=.cells x.c 87 none:=a0;unfold ptrTo;refine ai (cg (F.cells hU)) (ai (cg g1) ?_);refine az (tg H (hw.aD F) ((hF.sh x hx).aD F) hu (by have:=hF.ln x hx;omega)) ?_;exact⟨rfl,by omega⟩
 simp only[cO,ae,qv,aO];exact⟨trivial,by omega⟩
def tO(m:M)(us:List Un)(u:Un)(F:aed):Prop:=
 if pE us u=true then∃H l',F=.tuple #[.agg #[H],.int .i64 0]/\bR l'=mR us u/\cJ m l' H else F=.tuple #[.agg #[.slice none 0 0],.int .i64 120]
set_option maxHeartbeats 1000000 in
theorem FF(hX:cV X)(hI:me X){l:List UW}{r w:aed}{u:Un}(hF:cJ m l r)(hP:cF (bR l))(hw:Sl m u.shape w)(hu:u.shape.length < 4611686018427387904):
  ∃rv m',C X (.func 317) [.agg #[r],u.v w] m m.n rv m'/\Ext m m'/\tO m' (bR l) u rv:=by
 have key:=Cl.gen (E:=TE) (X:=X) (f:=317) (args:=[.agg #[r],u.v w]) (m:=m) (R:=λrv m' b=>b=m.n/\Ext m m'/\tO m' (bR l) u rv) (hX.no _ rfl) RI rfl ?_
 ·obtain⟨rv,m',b,hc,rfl,h⟩:=key;exact⟨rv,m',hc,h⟩
 have o2:l.length<=12:=by have:=hP.len;rwa[dE]at this
 rw[Yj];dsimp only[aI,δ,ε,η,θ,ι,κ,ν,ξ,ο,ς,υ,φ,χ,ψ];refine au λm1 G2 K1 L1=>?_;refine au λm2 H2 N1 U0=>?_;refine au λm3 I2 O1 H0=>?_;have I0:Ext m m3:=⟨by omega,λc hc=>by rw[H0 c (by omega),U0 c (by omega),L1 c hc]⟩
 have g1:m3.get m.n=.cells [r] 31 none:=by rw[H0 _ (by omega),U0 _ (by omega)];exact K1
 have g2:m3.get m1.n=.cells (u.c w) 87 none:=by rw[H0 _ (by omega)];exact N1
 have g3:m3.get m2.n=.cells [aeg] 31 none:=O1;have q0:=hF.aD I0;have J0:=hw.aD I0;unfold ptrTo;have V0:∀mm:M,mm.get m.n=.cells [r] 31 none->ah TE mm 31 (.pointer (some ⟨m.n,0,none⟩))=some (.agg #[r]):=λmm hh=>by rw[dp,aJ (n:=1) hh (by show 0+1<=1;decide)];rfl
 have K0:∀mm:M,mm.get m.n=.cells [r] 31 none->ah TE mm 29 (.pointer (some ⟨m.n,0+0,none⟩))=some r:=λmm hh=>by rw[eJ,aF hh];rfl
 have fail:∀(lo:Nat),m.n<=lo->pE (bR l) u=false->
   aj (aR TE 31 []) λv24=>aT (aA TE m3 31 (.pointer (some ⟨m2.n,0,none⟩)) v24) λo0 L0=>aj (ah TE o0 31 (.pointer (some ⟨m2.n,0,none⟩))) λD0=>
    (bP (aO [D0,.int .i64 120])=true/\m.n<=min lo L0/\m.n=m.n/\Ext m m/\tO m (bR l) u (aO [D0,.int .i64 120]))\/
    ((bP (aO [D0,.int .i64 120])=false\/min lo L0 < m.n)/\min m.n (min lo L0)=m.n/\Ext m o0/\tO o0 (bR l) u (aO [D0,.int .i64 120])):=by
  intro lo X0 ha
  refine ai (show aR TE 31 []=some (.agg #[aeg]) by kernel_rfl) ?_
  refine aC im g3 rfl rfl rfl λo0 s2 Y0 u2=>?_
  have P1:o0.get m2.n=.cells [aeg] 31 none:=Y0
  refine ai (show ah TE o0 31 (.pointer (some ⟨m2.n,0,none⟩))=some (.agg #[aeg]) by rw[dp,aJ (n:=1) P1 (by show 0+1<=1;decide)];rfl) ?_
  exact .inl ⟨rfl,by omega,rfl,.refl,by unfold tO;rw[aaa (by rw[ha];decide)];rfl⟩
 refine cG (λvs m' lo=>vs=[.bool (!lq u ||decide (l.length=12))]/\m3=m'/\m.n<=lo) (λR hR=>?_) ?_
 ·refine ai (V0 m3 g1) ?_
  refine az (mA hX q0 (by omega)) ?_
  rw[jk hP,bM,ae,an,aal,aM]
  refine ai (cg g2) ?_
  refine az (kl hX J0 hu) ?_
  rw[bM,ae,an]
  refine aq (λh=>hR _ _ _ ⟨by rw[h,aaM],rfl,by omega⟩) (λh=>?_)
  refine ai bu ?_
  refine ai (K0 m3 g1) ?_
  rw[q0.sl.len eg,aE,aY,ae]
  refine hR _ _ _ ⟨?_,rfl,by omega⟩
  rw[h,aaE]
  congr 2
  rw[decide_eq_decide]
  omega
 rintro _ _ lo ⟨rfl,rfl,X0⟩;rw[aH,an];refine aq (λh=>?_) (λh=>?_)
 ·refine fail lo X0 ?_
  cases hb:pE (bR l) u with
  |false=>rfl
  |true=>obtain⟨h1,h2, -⟩:=mK.1 hb;rw[dE]at h2;rw[h1,aat h2]at h;cases h
 have E0:lq u=true:=by
  cases hb:lq u with
  |true=>rfl
  |false=>rw[hb]at h;simp at h
 have M0:l.length≠12:=by intro e;rw[E0,aaX e]at h;cases h
 have h8:=oO E0;have a1:=cx (dP E0)
 have c1:l.Pairwise λa b:UW=>a.u.id < b.u.id:=by have:=hP.CJ;unfold bR at this;rwa[List.pairwise_map]at this
 refine ai bu (ai (K0 m3 g1) ?_);refine ai bE (ai (pV g2).1 ?_)
 refine az (nm (m:=m3) eg (hX.no _ rfl) Eg rfl M8 (l:=l) (key:=λx:UW=>x.u.id) (by omega) q0.sl c1 λx hx cs hr=>by obtain⟨rfl, -⟩:cs=x.c/\one x.w=true:=hr;exact uE hX x.u x.w u.id) ?_
 refine ai (v:=.int .i64 (gJ (λx:UW=>x.u.id) l u.id:Nat)) rfl ?_;refine ai (v:=.bool (l.any λx=>decide (x.u.id=u.id))) rfl ?_;refine cG (λvs m' lo=>vs=[.bool ((l.any λx=>decide (x.u.id=u.id)) ||l.any λv=>fE u v.u)]/\m3=m'/\m.n<=lo) (λR hR=>?_) ?_
 ·rw[an];refine aq (λh=>hR _ _ _ ⟨by rw[h,aaM],rfl,by omega⟩) (λh=>?_);refine ai bu (ai (K0 m3 g1) ?_);refine az (Kv hX q0 (by omega) g2 J0 hu) ?_;exact hR _ _ _ ⟨by rw[h,aaE],rfl,by omega⟩
 rintro _ _ nz ⟨rfl,rfl,d1⟩;rw[aH,an];refine aq (λh=>?_) (λh=>?_)
 ·refine fail nz d1 ?_
  cases hb:pE (bR l) u with
  |false=>rfl
  |true=>
   obtain⟨-, -,h3,h4⟩:=mK.1 hb;exfalso;rw[abW,ace,ace]at h;rcases h with⟨x,hx,h⟩ |⟨x,hx,h⟩;·exact h3 x.u (aaU.2 ⟨x,hx,rfl⟩) (by simpa using h)
   rw[h4 x.u (aaU.2 ⟨x,hx,rfl⟩)]at h;cases h
 rw[abQ,abF,abF]at h
 have hid:∀v∈bR l,v.id≠u.id:=λv hv=>by obtain⟨x,hx,rfl⟩:=pU hv;have:=h.1 x hx;simpa using this
 have e1:pE (bR l) u=true:=mK.2 ⟨E0,by rw[dE];exact M0,hid,λv hv=>by obtain⟨x,hx,rfl⟩:=pU hv;have:=h.2 x hx;simpa using this⟩
 refine ai (V0 m3 g1) ?_
 obtain⟨r',d0,l',i1,e0,j1,Q1,S1,k1⟩:=ze (m:=m3) hX q0 (λx hx e=>by have:=cx (dP (hP.val x.u (aaU.2 ⟨x,hx,rfl⟩)));rw[e]at this;simp at this) (by omega)
 refine az i1 ?_;have T1:=e0.n;have U1:one r'=true:=k1.sl.one;refine au λJ2 v2 o1 p1=>?_;refine aC im o1 rfl rfl (by show(one r' && true)=true;rw[U1];rfl) λN0 z2 r1 s1=>?_;have j0:Ext d0 N0:=⟨by omega,λc hc=>by rw[s1 c (by omega),p1 c hc]⟩
 have V1:N0.get d0.n=.cells [r'] 31 none:=r1;have u1:=j0.cells (e0.cells g2);refine ai bA (ai (pV u1).2.2.2.1 ?_);obtain⟨w2,v1,w1,b0,g0⟩:=ij (m:=N0) hX ((J0.aD e0).aD j0) (by intro e;rw[e]at a1;simp at a1) (by omega);refine az w1 ?_;have X1:=g0.n;have o7:one w2=true:=b0.sl.one;have z1:=g0.cells u1;refine ai bA ?_;refine bW kG z1 (by rw[b0.sl.cells];rfl) (by rw[b0.sl.cells];show 0+3+1<=6;omega) (by rw[b0.sl.cells];simp[o7]) λH A2 A1 r0=>?_;have Y1:H.get m1.n=.cells (u.c w2) 87 none:=by rw[A1,b0.sl.cells];rfl
 have O0:H.get d0.n=.cells [r'] 31 none:=by rw[r0 _ (by omega),g0.cells V1]
 refine ai bu ?_;refine ai (show ah TE H 29 (.pointer (some ⟨d0.n,0+0,none⟩))=some r' by rw[eJ,aF O0];rfl) ?_;refine ai (cg Y1) ?_;have a2:aK TE H 29 1 [(0,u.v w2)]=some (.slice (some ⟨H.n,0,none⟩) 1 1,H.push (.cells (UW.c ⟨u,w2⟩) 87 none)):=um (x:=⟨u,w2⟩);rw[a2,aE];generalize s0:H.push (.cells (UW.c ⟨u,w2⟩) 87 none)=a0;have c2:a0.get H.n=.cells (UW.c ⟨u,w2⟩) 87 none:=by rw[<-s0];exact M.bJ
 have B2:a0.n=H.n+1:=by rw[<-s0];rfl
 have k0:∀c,c < H.n->a0.get c=H.get c:=λc hc=>by rw[<-s0];exact M.cE hc
 have P0:∀c,c < d0.n->c≠m1.n->a0.get c=d0.get c:=λc hc d2=>by rw[k0 c (by omega),r0 c d2,g0.get c (by omega),j0.get c hc]
 have u0:jU m3.n a0 l' r':=k1.FA rfl λc h1 h2=>P0 c h2 (by omega)
 have Q0:l'.length=l.length:=by have:=congrArg List.length j1;rwa[dE,dE]at this
 obtain⟨rv,v0,K2,B1,C2,F,D2,C1⟩:=Lg (X:=X) (m:=a0) hI (i:=gJ (λx:UW=>x.u.id) l u.id) (x:=⟨u,w2⟩) u0 (by rw[Q0];exact Fi) (by omega) c2 o7 (by omega);refine az B1 ?_
 have F0:∀c,c < a0.n->(c < m3.n\/∀cs g,a0.get c≠.cells cs 87 g)->v0.get c=a0.get c:=λc hc hh=>C1 c hc λa n k e e2=>by
  subst e2;rcases u0 with(⟨h1,h2⟩ |⟨b,cs,h1,h2,h3,h4, -⟩) |⟨h1,b,h2,h3,h4⟩;·rw[h1]at e;cases e
  ·rw[h1]at e;cases e;rcases hh with hh |hh;·exact absurd hh (by show¬b < m3.n;omega)
   exact hh _ _ h4
  rw[h2]at e;cases e;rcases hh with hh |hh;·exact absurd hh (by show¬b < m3.n;omega)
  exact hh _ _ h4
 have D1:one rv=true:=F.sl.one
 have S0:v0.get d0.n=.cells [r'] 31 none:=by rw[F0 _ (by omega) (.inr λcs g=>by rw[k0 _ (by omega),O0];simp),k0 _ (by omega),O0]
 have z0:v0.get m2.n=.cells [aeg] 31 none:=by rw[F0 _ (by omega) (.inl (by omega)),P0 _ (by omega) (by omega),e0.cells g3]
 refine ai bu ?_;refine bW AS S0 (by rw[F.sl.cells];rfl) (by rw[F.sl.cells];show 0+0+1<=1;omega) (by rw[F.sl.cells];simp[D1]) λT0 E2 E1 l0=>?_;have i2:T0.get d0.n=.cells [rv] 31 none:=by rw[E1,F.sl.cells];rfl
 refine ai (show ah TE T0 31 (.pointer (some ⟨d0.n,0,none⟩))=some (.agg #[rv]) by rw[dp,aJ (n:=1) i2 (by show 0+1<=1;decide)];rfl) ?_;have F1:T0.get m2.n=.cells [aeg] 31 none:=by rw[l0 _ (by omega),z0]
 refine aC im F1 rfl rfl (by show(one rv && true)=true;rw[D1];rfl) λi0 F2 G1 A0=>?_;have j2:i0.get m2.n=.cells [rv] 31 none:=G1;refine ai (show ah TE i0 31 (.pointer (some ⟨m2.n,0,none⟩))=some (.agg #[rv]) by rw[dp,aJ (n:=1) j2 (by show 0+1<=1;decide)];rfl) ?_
 have kU:∀b c t g,v0.get b=.cells c t g->t∈(87::[]:List Nat)->i0.get b=.cells c t g:=λb c t g hb ht=>by
  have ht:t=87:=by simpa using ht
  subst ht;rw[A0 b (λe=>by subst e;rw[z0]at hb;cases hb),l0 b (λe=>by subst e;rw[S0]at hb;cases hb),hb]
 have B0:Ow m3.n i0 (l'.take (gJ (λx:UW=>x.u.id) l u.id)++⟨u,w2⟩::l'.drop (gJ (λx:UW=>x.u.id) l u.id)) rv:=F.bH kU
 have kP:∀c cs g,v1.get c=.cells cs 98 g->i0.get c=.cells cs 98 g:=λc cs g hc=>by
  have L2:=M.aL hc;have h1:c≠m1.n:=λe=>by subst e;rw[z1]at hc;cases hc
  have H1:a0.get c=.cells cs 98 g:=by rw[k0 c (by omega),r0 c h1,hc]
  have C0:v0.get c=.cells cs 98 g:=by rw[F0 c (by omega) (.inr λM2 g'=>by rw[H1];simp),H1]
  rw[A0 c (λe=>by subst e;rw[z0]at C0;cases C0),l0 c (λe=>by subst e;rw[S0]at C0;cases C0),C0]
 have sP:∀{sh:List Pl} {wv:aed},Sl v1 sh wv->Sl i0 sh wv:=λhs=>hs.bH λb c t g hb ht=>by
  have ht:t=98:=by simpa[aP.ty,aP.fx]using ht
  subst ht;exact kP b c g hb
 have G0:∀x∈l'.take (gJ (λx:UW=>x.u.id) l u.id)++⟨u,w2⟩::l'.drop (gJ (λx:UW=>x.u.id) l u.id),x=⟨u,w2⟩\/x∈l':=λx hx=>by
  rw[aaR,aaS]at hx;rcases hx with h |h |h;·exact .inr (adO h)
  ·exact .inl h
  exact .inr (acj h)
 have I1:=QV B0 (λx hx=>by
  rcases G0 x hx with rfl |h;·exact sP b0.sl
  ·exact sP (((Q1 x h).aD j0).aD g0)) (λx hx=>by
  rcases G0 x hx with rfl |h;·show u.shape.length < 1000000;omega
  exact S1 x h)
 have J1:bR (l'.take (gJ (λx:UW=>x.u.id) l u.id)++⟨u,w2⟩::l'.drop (gJ (λx:UW=>x.u.id) l u.id))=mR (bR l) u:=by rw[<-He hP hid,<-Fh];rw[<-j1];unfold bR;rw[abh,abT,List.map_take,List.map_drop]
 have k2:Ext m i0:=⟨by omega,λc hc=>by rw[A0 c (by omega),l0 c (by omega),F0 c (by omega) (.inl (by omega)),P0 c (by omega) (by omega),e0.get c (by omega),I0.get c hc]⟩
 refine .inr ⟨.inl ?_,by omega,k2,?_⟩
 ·rcases B0 with⟨-,h0⟩ |⟨b,cs,h1, -⟩;·simp at h0
  rw[h1];rfl
 unfold tO;rw[aaf e1];exact⟨rv,_,rfl,J1,I1⟩
abbrev XR(T:TypeId)(W:Words)(x0 x1 x2:aed)(m:M)(R:aee->M->Nat->Prop):Prop:=
(W.aT (av TE m .len [T] [x0]) λv1 _=>(W.aj (slice? TE m T x0 (some x1) (some x2) (some v1)) λ_=>(W.aj (aw TE .eql 3 x1 x2) λv3=>(bD v3
(R [x0] m (M.n m))
(W.aT (av TE m .len [T] [x0]) λv4 _=>(W.aj (slice? TE m T x0 none (some x1) none) λv5=>(W.aj (slice? TE m T x0 (some x2) none none) λv6=>(W.aT (av TE (M.wl m (M.n m)) .append [T,T] [v5,v6]) λv7 F=>(W.aT (av TE F .len [T] [v7]) λv9 _=>(W.aj (slice? TE F T v7 (some v9) (some v4) none) λv10=>(W.aT (av TE (M.wl F (M.n F)) .clear [T] [v10]) λ_ H=>(R [v7] H (min (min (M.n m) (M.low F)) (M.low H))))))))))))))
theorem Te{W:Words}{x0 x1 x2:aed}{m:M}{R:aee->M->Nat->Prop}:dm TE W Tryz.f364 [x0,x1,x2] m R=XR 29 W x0 x1 x2 m R:=by kernel_rfl
section
variable {α:Type} [aP α]
theorem Tj{T t0:TypeId}(hT:uF TE T t0 α)(hA:AF TE T α)(q0:aP.fx α=[]){z:aee}(hz:∃v,eZ TE (aP.ty α)=some v/\cells v=z)(k0:z.length=aP.sz α)(r0:z.all one=true)
  {f:Nat} {fn:Func} (hX:IQ X f) (hf:TE.fn.get f=some fn) (hn:Nat.ble 3 fn.ntmps=true)
  (hF:∀{W:Words} {x0 x1 x2:aed} {m:M} {R:aee->M->Nat->Prop},dm TE W fn [x0,x1,x2] m R=XR T W x0 x1 x2 m R)
  {n1:Nat} {F:List α} {v:aed} (h:Ow n1 m F v) {k:Nat} (hk:k < F.length) (hs:F.length<=1000) (E0:n1<=m.n):
  ∃v' m' b,C X (.func f) [v,.int .i64 k,.int .i64 ((k+1:Nat):Int)] m b v' m'/\n1<=b/\Sl m' (F.eraseIdx k) v'/\
   (∃b cs,v'=aec b 0 (F.eraseIdx k).length F.length/\n1<=b/\m'.get b=.cells cs (aP.ty α) (some (aP.sz α)))/\
   m'.n=m.n/\(∀c,(∀a n k,v=.slice (some a) n k->c≠a.block)->m'.get c=m.get c):=by
 rcases h with⟨_,rfl⟩ |⟨b,cs,rfl,h2,h3,h4,h5,h6⟩;·simp at hk
 have F0:=M.aL h4
 refine Cl.heap (R:=λv' m' b'=>n1<=b'/\Sl m' (F.eraseIdx k) v'/\
  (∃b cs,v'=aec b 0 (F.eraseIdx k).length F.length/\n1<=b/\m'.get b=.cells cs (aP.ty α) (some (aP.sz α)))/\
  m'.n=m.n/\(∀c,(∀a n k,aec b 0 F.length F.length=.slice (some a) n k->c≠a.block)->m'.get c=m.get c)) hX hf hn ?_
 rw[hF];dsimp only[XR,aI];obtain⟨ti,te,t1,⟨e,t2⟩,t3,t4,t5,t6⟩:=id hT;have H:=aP.pos (α:=α);have a0:∀(mm:M) (a:Option Addr) (n c:Nat),av TE mm .len [T] [.slice a n c]=some (.int .i64 n,mm):=λmm a n c=>by simp only[av,pC,t1,t2,aag]
 rw[a0,aE];obtain⟨w,hw⟩:=Dn (m:=m) t1 t2 t3 H h4 (i:=k) (j:=k+1) (n:=F.length) (by omega) (by omega);rw[hw,ae,aY,ae,an]
 have s0:decide ((k:Int)=((k+1:Nat):Int))=false:=by rw[aby];omega
 rw[s0,aM,aE];rw[AZ (m:=m) t1 t2 t3 H h4 (i:=k) (c:=F.length) (n:=F.length) (by omega) (by omega) (by omega),ae];rw[uY (m:=m) t1 t2 t3 H h4 h5 (j:=k+1) (by omega),ae];have l0:cs.all D.one=true:=nn F.length cs h5 λi hi=>aP.kN (α:=α) (m:=m) (h6 i _ (Φ hi));obtain⟨m1,a1,a2,a3,a4,a5⟩:=lN (m:=m) (α:=α) hA h4 h5 l0 (i:=k) (j:=k+1) (n:=F.length) (by omega) (by omega) (by omega);rw[a1,aE,a0,aE];have u0:k+(F.length-(k+1))=F.length-1:=by omega
 rw[u0];generalize e0:aP.sz α=s at*;have z0:(k+1)*s=k*s+s:=by rw[aao,abg]
 have A0:(k+1)*s+(F.length-(k+1))*s=F.length*s:=by rw[<-aao];congr 1;omega
 have B0:(F.length-1)*s+1*s=F.length*s:=by rw[<-aao];congr 1;omega
 have C0:k*s+(F.length-1-k)*s=(F.length-1)*s:=by rw[<-aao];congr 1;omega
 have D0:(F.length-1-k)*s=(F.length-(k+1))*s:=by congr 1;omega
 have i0:(cs.take (k*s)++(cs.drop ((k+1)*s)++cs.drop (k*s+(F.length-(k+1))*s))).length=F.length*s:=by simp only[aam,aap,aaK,h5];omega
 rw[Dm (m:=m1) t1 t2 t3 H a5 i0 (c:=F.length-1) (by omega),ae];have o0:F.length-(F.length-1)=1:=by omega
 rw[o0];obtain⟨m2,c1,c2,c3,c4,c5⟩:=wR (E:=TE) (T:=T) (m:=m1) (α:=α) hA a5 (o:=(F.length-1)*s) (n:=1) (z:=z) hz (by rw[e0];exact k0) r0 (by omega) (by rw[i0,e0];omega);rw[c1,aE];have g0:(F.eraseIdx k).length=F.length-1:=by rw[adp hk]
 rw[aO]
 refine⟨.inl rfl,?_,?_,⟨b,_,by rw[g0],h3,c5⟩,by omega,λc hc=>by have:=hc _ _ _ rfl;rw[c4 c this,a4 c this]⟩
 ·rcases a3 with a3 |a3 <;>omega
 rw[<-g0];refine .inr ⟨b,0,F.length,_,_,rfl,c5,?_,λi x hi=>?_⟩
 ·rw[e0,g0];simp only[aam,aap,i0,dB,aaK,abc,k0];omega
 rw[e0,aaq];have v0:i < F.length-1:=by rw[<-g0];exact(Ω.1 hi).1
 rw[List.getElem?_eraseIdx]at hi;have b0:(cs.take (k*s)).length=k*s:=by rw[aap];omega
 have j0:(cs.drop ((k+1)*s)).length=(F.length-1-k)*s:=by rw[aaK,h5];omega
 have e1:(cs.take (k*s)++(cs.drop ((k+1)*s)++cs.drop (k*s+(F.length-(k+1))*s))).take ((F.length-1)*s)=cs.take (k*s)++cs.drop ((k+1)*s):=by rw[<-aa7,abG (by rw[aam,b0,j0];omega),aa5 (by rw[aam,b0,j0];omega)]
 rw[e1];have d0:∀{y:α} {q:aee},aP.rep m y q->aP.rep m2 y q:=λhr=>aP.bH hr λb c t g hb ht=>by rw[q0]at ht;cases ht
 show aP.rep m2 x (chunk ((cs.take (k*s)++cs.drop ((k+1)*s))++_) s i);rw[cN (n:=F.length-1) (by rw[aam,b0,j0];omega) v0];by_cases h0:i < k
 ·rw[aaf h0]at hi;rw[cN b0 h0];have hq:=h6 i x hi;have hle:(i+1)*s<=k*s:=aaD _ h0;rw[aao,abg]at hle
  have:chunk (cs.take (k*s)) s i=chunk cs s i:=by
   unfold chunk
   rw[adl,ab1]
   congr 1
   omega
  rw[this];exact d0 hq
 rw[aaa h0]at hi;rw[cS b0 (by omega)];have hq:=h6 (i+1) x hi
 have:chunk (cs.drop ((k+1)*s)) s (i-k)=chunk cs s (i+1):=by
  unfold chunk
  rw[abp]
  congr 2
  rw[<-aao]
  congr 1
  omega
 rw[this];exact d0 hq
end
theorem NB:eZ TE 87=some (.agg #[.int .i64 0,.int .i64 0,.int .i64 0,aeg,.int .i64 0,.int .i64 0]):=by kernel_rfl
theorem MP(hX:cV X){n1:Nat}{F:List UW}{v:aed}(h:Ow n1 m F v){k:Nat}(hk:k < F.length)(hs:F.length<=1000)(H:n1<=m.n):
  ∃v' m' b,C X (.func 364) [v,.int .i64 k,.int .i64 ((k+1:Nat):Int)] m b v' m'/\n1<=b/\Sl m' (F.eraseIdx k) v'/\
   (∃b cs,v'=aec b 0 (F.eraseIdx k).length F.length/\n1<=b/\m'.get b=.cells cs 87 (some 6))/\
   m'.n=m.n/\(∀c,(∀a n k,v=.slice (some a) n k->c≠a.block)->m'.get c=m.get c):=
 Tj eg tf rfl ⟨_,NB,rfl⟩ rfl rfl (hX.no _ rfl) Ru rfl Te h hk hs H
theorem MB{us:List Un}{id:Int}(h:us.Pairwise λa b:Un=>a.id < b.id)(hid:∃u∈us,u.id=id):us.eraseIdx (gJ (λu:Un=>u.id) us id)=jH us id:=by
 induction us with
 |nil=>obtain⟨u,hu, -⟩:=hid;cases hu
 |cons a r ih=>
  rw[acw]at h;unfold gJ jH at*;by_cases e:a.id < id
  ·rw[abf,aaf (aaX e),aaJ,List.eraseIdx_cons_succ,abf,aaf (by rw[aat (by omega)];rfl)]
   congr 1
   refine ih h.2 ?_
   obtain⟨u,hu,F⟩:=hid
   rcases aaS.1 hu with rfl |hu
   ·omega
   ·exact⟨u,hu,F⟩
  have H:∀u∈r,a.id < u.id:=h.1
  have a0:a.id=id:=by
   obtain⟨u,hu,F⟩:=hid;rcases aaS.1 hu with rfl |hu;·exact F
   have:=H u hu;omega
  have h0:(r.filter λu=>decide (u.id < id))=[]:=by rw[acr];intro u hu;have:=H u hu;simp;omega
  rw[abf,aaa (by rw[aat e];decide),h0];show r=_;rw[abf,aaa (by rw[aaX a0];decide),acD.2];intro u hu;have:=H u hu;rw[aat (by omega)];rfl
def zt(m:M)(us:List Un)(id:Int)(F:aed):Prop:=
 if us.any (λu=>decide (u.id=id))=true then∃H l',F=.tuple #[.agg #[H],.int .i64 0]/\bR l'=jH us id/\cJ m l' H else F=.tuple #[.agg #[.slice none 0 0],.int .i64 120]
set_option maxHeartbeats 1000000 in
theorem FE(hX:cV X){l:List UW}{r:aed}{id:Int}(hF:cJ m l r)(hP:cF (bR l)):
  ∃F m',C X (.func 320) [.agg #[r],.int .i64 id] m m.n F m'/\Ext m m'/\zt m' (bR l) id F:=by
 have key:=Cl.gen (E:=TE) (X:=X) (f:=320) (args:=[.agg #[r],.int .i64 id]) (m:=m) (R:=λF m' b=>b=m.n/\Ext m m'/\zt m' (bR l) id F) (hX.no _ rfl) RH rfl ?_
 ·obtain⟨F,m',b,hc,rfl,h⟩:=key;exact⟨F,m',hc,h⟩
 have A1:l.length<=12:=by have:=hP.len;rwa[dE]at this
 rw[Yi];dsimp only[aI,δ,ε,η,θ,ι,ξ,ο,ς,υ,φ,χ,ψ];refine au λm1 K1 a1 c1=>?_;refine au λm3 L1 d1 C0=>?_;have D0:Ext m m3:=⟨by omega,λc hc=>by rw[C0 c (by omega),c1 c hc]⟩
 have g1:m3.get m.n=.cells [r] 31 none:=by rw[C0 _ (by omega)];exact a1
 have g3:m3.get m1.n=.cells [aeg] 31 none:=d1;have v0:=hF.aD D0;unfold ptrTo;have E0:∀mm:M,mm.get m.n=.cells [r] 31 none->ah TE mm 31 (.pointer (some ⟨m.n,0,none⟩))=some (.agg #[r]):=λmm hh=>by rw[dp,aJ (n:=1) hh (by show 0+1<=1;decide)];rfl
 have e1:∀mm:M,mm.get m.n=.cells [r] 31 none->ah TE mm 29 (.pointer (some ⟨m.n,0+0,none⟩))=some r:=λmm hh=>by rw[eJ,aF hh];rfl
 refine ai (E0 m3 g1) ?_;refine az (mA hX v0 (by omega)) ?_;rw[jk hP,bM,ae,an,aal,aM]
 have F0:l.Pairwise λa b:UW=>a.u.id < b.u.id:=by have:=hP.CJ;unfold bR at this;rwa[List.pairwise_map]at this
 refine ai bu (ai (e1 m3 g1) ?_)
 refine az (nm (m:=m3) eg (hX.no _ rfl) Eg rfl M8 (l:=l) (key:=λx:UW=>x.u.id) (by omega) v0.sl F0 λx hx cs hr=>by obtain⟨rfl, -⟩:cs=x.c/\one x.w=true:=hr;exact uE hX x.u x.w id) ?_
 refine ai (v:=.int .i64 (gJ (λx:UW=>x.u.id) l id:Nat)) rfl ?_;refine ai (v:=.bool (l.any λx=>decide (x.u.id=id))) rfl ?_;rw[bM,ae,an]
 have q0:(bR l).any (λu=>decide (u.id=id))=l.any λx=>decide (x.u.id=id):=by unfold bR;rw[List.any_map];rfl
 refine aq (λh=>?_) (λh=>?_)
 ·refine ai (show aR TE 31 []=some (.agg #[aeg]) by kernel_rfl) ?_;refine aC im g3 rfl rfl rfl λG0 B1 H0 C1=>?_;have i1:G0.get m1.n=.cells [aeg] 31 none:=H0;refine ai (show ah TE G0 31 (.pointer (some ⟨m1.n,0,none⟩))=some (.agg #[aeg]) by rw[dp,aJ (n:=1) i1 (by show 0+1<=1;decide)];rfl) ?_;refine .inl ⟨rfl,by omega,rfl,.refl,?_⟩;unfold zt;rw[aba]at h;rw[aaa (by rw[q0,h];decide)];rfl
 have z0:(l.any λx=>decide (x.u.id=id))=true:=by simpa using h
 refine ai (E0 m3 g1) ?_
 obtain⟨r',d0,l',I0,g0,e0,j1,k1,J0⟩:=ze (m:=m3) hX v0 (λx hx e=>by have:=cx (dP (hP.val x.u (aaU.2 ⟨x,hx,rfl⟩)));rw[e]at this;simp at this) (by omega)
 refine az I0 ?_;have o1:=g0.n;have p1:one r'=true:=J0.sl.one;refine au λN1 D1 K0 L0=>?_;refine aC im K0 rfl rfl (by show(one r' && true)=true;rw[p1];rfl) λH E1 M0 N0=>?_;have b0:Ext d0 H:=⟨by omega,λc hc=>by rw[N0 c (by omega),L0 c hc]⟩
 have A0:H.get d0.n=.cells [r'] 31 none:=M0;refine ai bu ?_;refine ai (show ah TE H 29 (.pointer (some ⟨d0.n,0+0,none⟩))=some r' by rw[eJ,aF A0];rfl) ?_
 have h0:l'.length=l.length:=by have:=congrArg List.length e0;rwa[dE,dE]at this
 have F1:gJ (λx:UW=>x.u.id) l id < l.length:=by unfold gJ;obtain⟨x,hx,B0⟩:=ace.1 z0;refine Nat.lt_of_le_of_ne (acg _ _) λe=>?_;have:=(List.length_filter_eq_length_iff.1 e) x hx;simp at this B0;omega
 have r1:((gJ (λx:UW=>x.u.id) l id:Nat):Int)< 1000:=by omega
 rw[aQ,ae,wrap64 (by omega) (by omega)]
 have O0:Ow m3.n H l' r':=by
  rcases J0.aD b0 with h |⟨h, -⟩;·exact h
  rw[h]at h0;simp at h0;omega
 obtain⟨F,j0,O1,P0,G1,a0,⟨b,s1,Q0,hb,u1⟩,H1,S0⟩:=MP (m:=H) hX O0 (k:=gJ (λx:UW=>x.u.id) l id) (by omega) (by omega) (by omega);refine az (v:=F) P0 ?_;have T0:one F=true:=a0.one;have k0:cells F=[F]:=a0.cells
 have l0:∀c,c < m3.n\/(∀cs g,H.get c≠.cells cs 87 g)->j0.get c=H.get c:=λc hh=>S0 c λa n k e v1=>by
  subst v1;rcases O0 with⟨h1,h2⟩ |⟨b,cs,h1,h2,h3,h4, -⟩;·rw[h1]at e;cases e
  rw[h1]at e;cases e;rcases hh with hh |hh;·exact absurd hh (by show¬b < m3.n;omega)
  exact hh _ _ h4
 have U0:j0.get d0.n=.cells [r'] 31 none:=by rw[l0 _ (.inr λcs g=>by rw[A0];simp),A0]
 have r0:j0.get m1.n=.cells [aeg] 31 none:=by rw[l0 _ (.inl (by omega)),b0.get _ (by omega),g0.cells g3]
 refine ai bu ?_;refine bW AS U0 (by rw[k0];rfl) (by rw[k0];show 0+0+1<=1;omega) (by rw[k0];simp[T0]) λur I1 V0 i0=>?_;have w1:ur.get d0.n=.cells [F] 31 none:=by rw[V0,k0];rfl
 refine ai (show ah TE ur 31 (.pointer (some ⟨d0.n,0,none⟩))=some (.agg #[F]) by rw[dp,aJ (n:=1) w1 (by show 0+1<=1;decide)];rfl) ?_;have X0:ur.get m1.n=.cells [aeg] 31 none:=by rw[i0 _ (by omega),r0]
 refine aC im X0 rfl rfl (by show(one F && true)=true;rw[T0];rfl) λo0 J1 Y0 s0=>?_;have z1:o0.get m1.n=.cells [F] 31 none:=Y0;refine ai (show ah TE o0 31 (.pointer (some ⟨m1.n,0,none⟩))=some (.agg #[F]) by rw[dp,aJ (n:=1) z1 (by show 0+1<=1;decide)];rfl) ?_
 have kA:∀b c t g,j0.get b=.cells c t g->t≠31->o0.get b=.cells c t g:=λb c t g hb ht=>by rw[s0 b (λe=>by subst e;rw[r0]at hb;cases hb;exact ht rfl),i0 b (λe=>by subst e;rw[U0]at hb;cases hb;exact ht rfl),hb]
 have kP:∀c cs g,H.get c=.cells cs 98 g->o0.get c=.cells cs 98 g:=λc cs g hc=>
  kA _ _ _ _ (by rw[l0 c (.inr λP1 g'=>by rw[hc];simp),hc]) (by decide)
 have u0:∀x∈l'.eraseIdx (gJ (λx:UW=>x.u.id) l id),x∈l':=λx hx=>List.mem_of_mem_eraseIdx hx
 refine .inr ⟨.inl (by rw[Q0];rfl),by omega,⟨by omega,λc hc=>by rw[s0 c (by omega),i0 c (by omega),l0 c (.inl (by omega)),b0.get c (by omega),g0.get c (by omega),D0.get c hc]⟩,?_⟩
 unfold zt;rw[aaf (by rw[q0];exact z0)];refine⟨F,_,rfl,?_,⟨a0.bH λb c t g hb ht=>kA b c t g hb (by rintro rfl;simp[aP.ty,aP.fx]at ht),λx hx=>?_,λx hx=>k1 x (u0 x hx),.inr ⟨b,0,_,s1,_,Q0,?_,kA _ _ _ _ u1 (by decide),.inr rfl⟩⟩⟩
 ·rw[<-e0,<-MB (by rw[e0];exact hP.CJ) (by obtain⟨x,hx,B0⟩:=ace.1 z0;rw[e0];exact⟨x.u,aaU.2 ⟨x,hx,rfl⟩,by simpa using B0⟩),e0,<-Fh]
  rw[<-e0];unfold bR;rw[ac6,ac6,abh,List.map_take,List.map_drop]
 ·exact(((j1 x (u0 x hx)).aD b0)).bH λb c t g hb ht=>by
   have ht:t=98:=by simpa[aP.ty,aP.fx]using ht
   subst ht;exact kP b c g hb
 rw[adp (by omega)];omega
section
variable {α:Type} [aP α]
theorem Od(d0:aP.fx α=[]){n1:Nat}{l:List α}{v:aed}(h:Ow n1 m l v){i:Nat}(a0:i < l.length){T t0:TypeId}(hT:uF TE T t0 α):
  ∃b,(∀q,ak TE T v (.int q i)=some (aeb b (0+i*aP.sz α)))/\n1<=b/\b < m.n/\(∃cs g,m.get b=.cells cs (aP.ty α) g)/\(∀a n k,v=.slice (some a) n k->a.block=b)/\
   ∀(y:α) (w:aed) (ti:TI),TE.ty.get t0=some ti->ti.size=aP.sz α->aP.rep m y (cells w)->
    ∀P:M->Nat->Prop,(∀m1,m1.n=m.n->Ow n1 m1 (l.set i y) v->(∀c,c≠b->m1.get c=m.get c)->P m1 b)->
    aT (aA TE m t0 (aeb b (0+i*aP.sz α)) w) P:=by
 rcases h with⟨_,rfl⟩ |⟨b,cs,rfl,h2,h3,h4,h5,h6⟩;·simp at a0
 obtain⟨e0,te,t1,⟨e,t2⟩,t3,t4,t5,t6⟩:=hT;have i0:=aP.pos (α:=α);have hmul:(i+1)*aP.sz α<=l.length*aP.sz α:=aaD _ a0;rw[aao,abg]at hmul;refine⟨b,λq=>?_,h3,M.aL h4,⟨cs,_,h4⟩,λa n k e=>by cases e;rfl,λy w ti ht g0 hr P hP=>?_⟩
 ·have b0:0<=(i:Int)/\(i:Int)< (l.length:Int)/\0 < e0.es:=⟨by omega,by omega,by omega⟩
  simp only[ak,t1,t2];rw[aaf b0,bw rfl,t3];rfl
 have H:(cells w).length=aP.sz α:=aP.len hr;refine bW ht h4 (by rw[H,g0]) (by rw[H];omega) (aP.kN hr) λm1 hn hg hk=>?_;rw[H,aaq]at hg;have hA:(cs.take (i*aP.sz α)).length=i*aP.sz α:=by rw[aap];omega
 have F:∀{z:α} {q:aee},aP.rep m z q->aP.rep m1 z q:=λhr=>aP.bH hr λb c t g hb ht=>by rw[d0]at ht;cases ht
 refine hP m1 hn (.inr ⟨b,_,by rw[abM],by rw[abM];exact h2,h3,hg,?_,λp z hz=>?_⟩) hk;·rw[abM,aam,aam,hA,H,aaK];omega
 rcases abS p i with e |e |e
 ·rw[adf (by omega)]at hz;rw[cN hA e];have hle:(p+1)*aP.sz α<=i*aP.sz α:=aaD _ e;rw[aao,abg]at hle
  have:chunk (cs.take (i*aP.sz α)) (aP.sz α) p=chunk cs (aP.sz α) p:=by
   unfold chunk
   rw[adl,ab1]
   congr 1
   omega
  rw[this];exact F (h6 p z hz)
 ·subst e;rw[acs a0]at hz;cases hz;rw[cS hA (Ξ _),acO]
  have:chunk (cells w++cs.drop (p*aP.sz α+aP.sz α)) (aP.sz α) 0=cells w:=by unfold chunk;rw[ab0,aa0,abG (by omega),aa5 (by omega)]
  rw[this];exact F hr
 rw[adf (by omega)]at hz;rw[cS hA (by omega)];have h0:(cells w).length=1*aP.sz α:=by rw[H,abg]
 rw[cS h0 (by omega)]
 have:chunk (cs.drop (i*aP.sz α+aP.sz α)) (aP.sz α) (p-i-1)=chunk cs (aP.sz α) p:=by
  unfold chunk
  rw[abp]
  congr 2
  have:p*aP.sz α=(i+1+(p-i-1))*aP.sz α:=by congr 1;omega
  rw[this,aao,aao,abg]
 rw[this];exact F (h6 p z hz)
end
theorem OL{W:Words}{x0 x1:aed}{m:M}{R:aee->M->Nat->Prop}:dm TE W Tryz.f323 [x0,x1] m R=DY 58 89 W x0 x1 m R:=by kernel_rfl
theorem qu(F:cV X){l:List Mk}{v:aed}{g:Fn}{fi ca:Array aed}(p:Mk->Bool)(H:l.length < 4611686018427387904)(hl:Sl m l v)
  (hs:∀x∈l,C X g (fi.toList++([x.v]++ca.toList)) m m.n (.bool (p x)) m):C X (.func 323) [v,.func g fi ca] m m.n (.int .i64 (idx p l)) m:=
 ki eU (F.no _ rfl) RD rfl OL p H hl λx hx cs hr=>by rw[show cs=x.c from hr];exact hs x hx
theorem NC:eZ TE 89=some (.agg #[.int .i64 0,.int .i64 0,.int .i64 0,.int .i64 0,aei]):=by kernel_rfl
theorem PZ{F:M}{b:Nat}{x:Mk}{g:Option Nat}(h:F.get b=.cells x.c 89 g):ah TE F 89 (aeb b 0)=some x.v:=by rw[zV,aJ (n:=5) h (by show 0+5<=5;decide)];rfl
set_option maxHeartbeats 1000000 in
theorem Po(hX:cV X){n1:Nat}{l:List Mk}{v:aed}{g:Fn}{fi ca:Array aed}(p:Mk->Bool)(hl:jU n1 m l v)(hb:l.length < 1000)(H0:n1<=m.n)
  (hs:∀x∈l,∀mm:M,m.n<=mm.n->(∀c,c < m.n->(∀a n k,v=.slice (some a) n k->c≠a.block)->mm.get c=m.get c)->C X g (fi.toList++([x.v]++ca.toList)) mm mm.n (.bool (p x)) mm):
  ∃v' m' b,C X (.func 321) [v,.func g fi ca] m b v' m'/\n1<=b/\Sl m' (l.filter λx=> !p x) v'/\m.n<=m'.n/\(∀c,c < m.n->(∀a n k,v=.slice (some a) n k->c≠a.block)->m'.get c=m.get c):=by
 have key:=Cl.gen (E:=TE) (X:=X) (f:=321) (args:=[v,.func g fi ca]) (m:=m) (R:=λv' m' b=>n1<=b/\Sl m' (l.filter λx=> !p x) v'/\m.n<=m'.n/\(∀c,c < m.n->(∀a n k,v=.slice (some a) n k->c≠a.block)->m'.get c=m.get c)) (hX.no _ rfl) RG rfl ?_
 ·obtain⟨v',m',b,hc,h⟩:=key;exact⟨v',m',b,hc,h⟩
 rw[Yh];dsimp only[aI,δ,ζ,η,ι,κ,ο,υ,φ,χ,ψ];refine az (qu hX p (by omega) hl.sl λx hx=>hs x hx m (Ξ _) λ_ _ _=>rfl) ?_;rw[aY,ae,an];rcases jj p l with⟨h1,h2⟩ |⟨i0,x0,h1,h2,h3,h4⟩
 ·rw[h1,aaX rfl,bU,aO];have hf:(l.filter λx=> !p x)=l:=acD.2 λx hx=>by rw[h2 x hx];rfl
  rw[hf];have k0:=hl.sl;rcases hl with(⟨rfl, -⟩ |⟨b,cs,rfl, -⟩) |⟨-,b,rfl, -⟩;·exact .inl ⟨rfl,by omega,H0,k0,Ξ _,λ_ _ _=>rfl⟩
  ·exact .inr ⟨.inl rfl,by omega,k0,Ξ _,λ_ _ _=>rfl⟩
  exact .inr ⟨.inl rfl,by omega,k0,Ξ _,λ_ _ _=>rfl⟩
 rw[h1,aat (by omega),aM,aQ,ae];have I0:=(Ω.1 h2).1;rw[wrap64 (by omega) (by omega)]
 have J0:Ow n1 m l v:=by
  rcases hl with h |⟨h, -⟩;·exact h
  subst h;simp at I0
 refine Lp.nc (γ:=Nat) (λj=>l.length-j) (λj vs mm lo=>∃(i:Nat) (L:List Mk),vs=[.int .i64 i,.int .i64 j]/\i < j/\j<=l.length/\L.length=l.length/\L.take i=(l.take j).filter (λx=> !p x)/\L.drop j=l.drop j/\Ow n1 mm L v/\m.n<=mm.n/\n1<=lo/\
  (∀c,c < m.n->(∀a n k,v=.slice (some a) n k->c≠a.block)->mm.get c=m.get c)) (i0+1)
  ⟨i0,l,by push_cast;rfl,by omega,by omega,rfl,?_,rfl,J0,Ξ _,by omega,λ_ _ _=>rfl⟩ ?_
 ·rw[abo,abY,h2]
  have e1:(l.take i0).filter (λx=> !p x)=l.take i0:=acD.2 λx hx=>by
   obtain⟨j,hj⟩:=abU.1 hx;rw[abX]at hj;split at hj
   ·rename_i a0;rw[h4 j x a0 hj];rfl
   cases hj
  rw[e1];show _=_++List.filter _ [x0];rw[abf,aaa (by rw[h3];decide)];simp
 rintro j vs mm lo ⟨i,L,rfl,V0,X0,l0,e0,o0,F,Y0,a1,hk⟩ P hP;rw[aH,aH,F.sl.len eU,aE,aX,ae,an,l0];refine aq (λa0=>?_) (λK0=>?_)
 ·have a0:j < l.length:=by simpa using a0
  obtain⟨x,hx⟩:∃x,l[j]?=some x:=⟨_,Φ a0⟩
  have L0:L[j]?=some x:=by have:=congrArg (λq=>q[0]?) o0;simpa[aaW,hx]using this
  obtain⟨a,cs,e1,e2,hr⟩:=F.sl.index eU (k:=.i64) L0;obtain rfl:cs=x.c:=hr;refine ai e1 (ai (show _=some x.v from e2) ?_);refine au λd1 Q0 s0 u0=>?_;refine aC AR s0 rfl rfl rfl λg0 S0 v0 z0=>?_;have b0:Ext mm g0:=⟨by omega,λc hc=>by rw[z0 c (by omega),u0 c hc]⟩
  have g19:g0.get mm.n=.cells x.c 89 none:=v0;unfold ptrTo;refine ai (PZ g19) ?_;rw[bY];refine az (hs x (aac hx) g0 (by omega) λc hc H=>by rw[b0.get c (by omega),hk c hc H]) ?_;rw[bM,ae,an]
  have A0:(l.take (j+1)).filter (λx=> !p x)=(l.take j).filter (λx=> !p x)++ [x].filter (λx=> !p x):=by rw[abo,abY,hx];rfl
  have j0:=F.aD b0;refine aq (λhp=>?_) (λhp=>?_)
  ·refine ai (PZ g19) ?_;obtain⟨b,B0,g1,i1,⟨bc,bg,M0⟩,C0,D0⟩:=Od (m:=g0) rfl j0 (i:=i) (by omega) eU
   have T0:b≠mm.n:=λe=>by
    subst e;rw[g19]at M0;rcases F with⟨h, -⟩ |⟨b',N0,h5, -,h6,h7, -⟩
    ·rw[h]at e1;cases e1
    have:=C0 _ _ _ h5;have h8:=M.aL h7;subst this;exact absurd h8 (by show¬mm.n < mm.n;omega)
   refine ai (B0 .i64) ?_;refine D0 x x.v _ AR rfl rfl _ λj1 U0 q0 E0=>?_;rw[aQ,ae,aQ,ae,wrap64 (by omega) (by omega),wrap64 (by omega) (by omega)];refine hP (j+1) _ _ _ (by omega) ⟨i+1,L.set i x,by push_cast;rfl,by omega,a0,by rw[abM];exact l0,?_,?_,q0,by omega,by omega,λc hc H=>?_⟩;·rw[A0,<-e0,abo,acs (by omega),adQ,adz (by rw[aap];omega),abf,aaf hp];rfl
   ·rw[List.drop_set_of_lt (by omega)];have:=congrArg (List.drop 1) o0;rwa[abp,abp]at this
   have:c≠b:=λe=>by
    subst e;rcases F with⟨h, -⟩ |⟨b',N0,h5, -⟩;·rw[h]at e1;cases e1
    exact H _ _ _ h5 (C0 _ _ _ h5).symm
   rw[E0 c this,b0.get c (by omega),hk c hc H]
  rw[aQ,ae,wrap64 (by omega) (by omega)];refine hP (j+1) _ _ _ (by omega) ⟨i,L,by push_cast;rfl,by omega,a0,l0,?_,?_,j0,by omega,by omega,λc hc H=>by rw[b0.get c (by omega),hk c hc H]⟩;·rw[A0,<-e0,abf,aaa (by rw[hp];decide)];simp
  have:=congrArg (List.drop 1) o0;rwa[abp,abp]at this
 have F0:j=l.length:=by have:¬(j:Int)< (l.length:Int):=abv K0;omega
 have O0:i < L.length:=by omega
 rcases F with⟨h,h0⟩ |⟨b,cs,rfl,g2,g3,g4,g5,g6⟩;·subst h0;simp at O0
 have d0:aP.sz Mk=5:=rfl;obtain⟨ti,te,t1,⟨e,t2⟩,t3,t4,t5,t6⟩:=eU;rw[d0]at t3 g4 g5 g6;have k1:=M.aL g4;rw[uY (m:=mm) t1 t2 t3 (by decide) g4 g5 (j:=i) (by omega),ae];obtain⟨m2,c1,c2,c3,c4,c5⟩:=wR (E:=TE) (T:=58) (m:=mm) (α:=Mk) Aw g4 (o:=i*5) (n:=L.length-i) (z:=[.int .i64 0,.int .i64 0,.int .i64 0,.int .i64 0,aei]) ⟨_,NC,rfl⟩ rfl rfl (by omega) (by rw[g5,d0];omega);rw[c1,aE];rw[AZ (m:=m2) t1 t2 t3 (by decide) c5 (i:=i) (c:=L.length) (n:=L.length) (by omega) (by omega) (by omega),ae,aO]
 have r0:(l.filter λx=> !p x).length=i:=by have:=congrArg List.length e0;rw[F0,abB,aap]at this;omega
 refine .inr ⟨.inl rfl,by omega,?_,by omega,λc hc H=>by rw[c4 c (H _ _ _ rfl),hk c hc H]⟩;rw[<-r0];have hA:(cs.take (i*5)).length=i*5:=by rw[aap,g5];omega
 refine .inr ⟨b,0,L.length,_,_,rfl,c5,?_,λq x hq=>?_⟩;·rw[r0,d0,aam,hA];omega
 ·rw[d0,aaq]
  have G0:q < i:=by rw[<-r0];exact(Ω.1 hq).1
  show chunk (_++_) 5 q=x.c
  rw[cN hA G0]
  have P0:L[q]?=some x:=by rw[F0,abB]at e0;rw[<-e0,aaI G0]at hq;exact hq
  have:chunk cs 5 q=x.c:=g6 q x P0
  rw[<-this]
  unfold chunk
  rw[adl,ab1]
  congr 1
  omega
end
section
section
variable {W:Words}{x0 x1 x2 x3 x4 x5 x6 x7:aed}{m:M}{R RP:aee->M->Nat->Prop}{PN:M->Nat->Prop}{CP:Fn->aee->M->(M->Nat->Prop)->Prop}
theorem VX:qP TE W CP Tryz.f257 [x0,x1] m PN=υ W m [χ 0,χ 0,χ 0,aeg,χ 0,χ 0] 87 λa=>(aj (cP x0) λb=>ε W 258 b 0 λb=>ε W 60 b 0 λb=>δ W a 31 b λb=>(CP (.func 98) [b,x1] a λa b=>PN a (min m.n b))\/(ψ W 98 [b,x1] a λa b _=>ξ W a 0 λc=>ξ W a 1 λ_=>υ W b [χ 0,χ 0,χ 0,aeg,χ 0,χ 0] 87 λa=>ι W a 87 (φ b) c λ_ _=>False))\/(aj (cP x0) λb=>ε W 258 b 0 λb=>ε W 60 b 0 λb=>δ W a 31 b λb=>ψ W 98 [b,x1] a λa b c=>ξ W a 0 λd=>ξ W a 1 λa=>υ W b [χ 0,χ 0,χ 0,aeg,χ 0,χ 0] 87 λf=>ι W f 87 (φ b) d λd f=>((CP (.func 176) [a] d λa b=>PN a (min (min (min m.n c) f) b))\/(ψ W 176 [a] d λ_ _ _=>False))\/(ψ W 176 [a] d λ_ a _=>δ W a 87 (φ b) λb=>ι W a 87 (φ m) b λ_ _=>False)):=by kernel_rfl
theorem Wa:qP TE W CP Tryz.f242 [x0,x1] m PN=ς W m x1 87 λa=>(aj (cP x0) λb=>ε W 258 b 0 λb=>ε W 60 b 0 λb=>δ W a 31 b λb=>δ W a 87 (φ m) λc=>(CP (.func 317) [b,c] a λa b=>PN a (min m.n b))/\True)\/(aj (cP x0) λb=>ε W 258 b 0 λb=>ε W 60 b 0 λb=>δ W a 31 b λb=>δ W a 87 (φ m) λc=>ψ W 317 [b,c] a λb c d=>(a.n<=d)/\(ξ W b 0 λa=>ξ W b 1 λb=>υ W c [aeg] 31 λf=>ι W f 31 (φ c) a λa f=>(η W .eql 35 b (χ 0) λb=>(CP (.func 176) [b] a λa b=>PN a (min (min (min m.n d) f) b))\/(ψ W 176 [b] a λ_ _ _=>False))\/(η W .eql 35 b (χ 0) λb=>ψ W 176 [b] a λ_ a _=>δ W a 31 (φ c) λb=>aj (cP x0) λc=>ε W 258 c 0 λc=>ε W 60 c 0 λc=>ι W a 31 c b λ_ _=>False))):=by kernel_rfl
theorem VY:qP TE W CP Tryz.f252 [x0,x1] m PN=((aj (cP x0) λa=>ε W 258 a 0 λa=>ε W 60 a 0 λa=>δ W m 31 a λa=>(CP (.func 320) [a,x1] m λa b=>PN a (min m.n b))\/(ψ W 320 [a,x1] m λa b _=>ξ W a 0 λc=>ξ W a 1 λ_=>υ W b [aeg] 31 λa=>ι W a 31 (φ b) c λ_ _=>False))\/(aj (cP x0) λa=>ε W 258 a 0 λa=>ε W 60 a 0 λa=>δ W m 31 a λa=>ψ W 320 [a,x1] m λa b c=>ξ W a 0 λd=>ξ W a 1 λa=>υ W b [aeg] 31 λf=>ι W f 31 (φ b) d λd f=>(η W .eql 35 a (χ 0) λa=>(CP (.func 176) [a] d λa b=>PN a (min (min (min m.n c) f) b))\/(ψ W 176 [a] d λ_ _ _=>False))\/(η W .eql 35 a (χ 0) λa=>ψ W 176 [a] d λ_ a _=>δ W a 31 (φ b) λb=>aj (cP x0) λc=>ε W 258 c 0 λc=>ε W 60 c 0 λc=>ι W a 31 c b λ_ _=>False))):=by kernel_rfl
theorem VU:qP TE W CP Tryz.f283 [x0,x1,x2] m PN=ς W m x1 3 λa=>(aj (cP x0) λb=>ε W 258 b 0 λb=>ε W 60 b 1 λb=>δ W a 58 b λb=>(CP (.func 323) [b,.func (.func 329) #[] #[φ m]] a λa b=>PN a (min m.n b))\/(ψ W 323 [b,.func (.func 329) #[] #[φ m]] a λ_ _ _=>False))\/(aj (cP x0) λb=>ε W 258 b 0 λb=>ε W 60 b 1 λb=>δ W a 58 b λb=>ψ W 323 [b,.func (.func 329) #[] #[φ m]] a λa b c=>(η W .geq 3 a (χ 0) λd=>bD d (aj (cP x0) λd=>ε W 258 d 0 λd=>ε W 60 d 1 λd=>δ W b 58 d λd=>ζ W 58 d a λa=>ε W 89 a 4 λa=>δ W b 4 a λa=>η W .neq 4 a x2 λa=>(CP (.func 176) [a] b λa b=>PN a (min (min m.n c) b))\/(ψ W 176 [a] b λ_ _ _=>False)) ((CP (.func 176) [aei] b λa b=>PN a (min (min m.n c) b))\/(ψ W 176 [aei] b λ_ _ _=>False)))\/(η W .geq 3 a (χ 0) λc=>bD c (aj (cP x0) λc=>ε W 258 c 0 λc=>ε W 60 c 1 λc=>δ W b 58 c λc=>ζ W 58 c a λc=>ε W 89 c 4 λc=>δ W b 4 c λc=>η W .neq 4 c x2 λc=>ψ W 176 [c] b λ_ b _=>aj (cP x0) λc=>ε W 258 c 0 λc=>ε W 60 c 1 λc=>δ W b 58 c λc=>ζ W 58 c a λa=>ε W 89 a 4 λa=>ι W b 4 a x2 λ_ _=>False) (ψ W 176 [aei] b λ_ b _=>aj (cP x0) λc=>ε W 258 c 0 λc=>ε W 60 c 1 λc=>δ W b 58 c λc=>ζ W 58 c a λa=>ε W 89 a 4 λa=>ι W b 4 a x2 λ_ _=>False))):=by kernel_rfl
theorem Wb:qP TE W CP Tryz.f241 [x0,x1] m PN=ς W m x1 91 λa=>ε W 91 (φ m) 1 λb=>δ W a 87 b λb=>(CP (.func 242) [x0,b] a λa b=>PN a (min m.n b))\/(ψ W 242 [x0,b] a λ_ _ _=>False):=by kernel_rfl
theorem VZ:qP TE W CP Tryz.f251 [x0,x1] m PN=ς W m x1 91 λa=>(ε W 91 (φ m) 2 λb=>δ W a 3 b λb=>(CP (.func 252) [x0,b] a λa b=>PN a (min m.n b))\/(ψ W 252 [x0,b] a λ_ _ _=>False))\/(ε W 91 (φ m) 2 λb=>δ W a 3 b λb=>ψ W 252 [x0,b] a λ_ a b=>ε W 91 (φ m) 2 λc=>δ W a 3 c λc=>(CP (.func 253) [x0,c] a λa c=>PN a (min (min m.n b) c))\/(ψ W 253 [x0,c] a λ_ _ _=>False)):=by kernel_rfl
theorem Ql:qP TE W CP Tryz.f263 [x0,x1] m PN=ς W m x1 91 λa=>(ε W 91 (φ m) 2 λb=>δ W a 3 b λb=>(CP (.func 257) [x0,b] a λa b=>PN a (min m.n b))\/(ψ W 257 [x0,b] a λa b _=>υ W b [χ 0,χ 0,χ 0,aeg,χ 0,χ 0] 87 λc=>ι W c 87 (φ b) a λ_ _=>False))\/(ε W 91 (φ m) 2 λb=>δ W a 3 b λb=>ψ W 257 [x0,b] a λa b c=>υ W b [χ 0,χ 0,χ 0,aeg,χ 0,χ 0] 87 λd=>ι W d 87 (φ b) a λa d=>δ W a 87 (φ b) λf=>υ W a [χ 0,χ 0,χ 0,aeg,χ 0,χ 0] 87 λg=>ι W g 87 (φ a) f λf g=>(ε W 87 (φ b) 3 λh=>δ W f 45 h λh=>ε W 91 (φ m) 3 λi=>δ W f 3 i λi=>ε W 91 (φ m) 4 λj=>δ W f 3 j λj=>(CP (.func 264) [h,i,j] f λa b=>PN a (min (min (min (min m.n c) d) g) b))\/(ψ W 264 [h,i,j] f λc d _=>ξ W c 0 λf=>ξ W c 1 λg=>ξ W c 2 λ_=>ε W 87 (φ b) 3 λb=>ι W d 45 b f λb _=>ε W 87 (φ a) 3 λa=>ι W b 45 a g λ_ _=>False))\/(ε W 87 (φ b) 3 λh=>δ W f 45 h λh=>ε W 91 (φ m) 3 λi=>δ W f 3 i λi=>ε W 91 (φ m) 4 λj=>δ W f 3 j λj=>ψ W 264 [h,i,j] f λf h i=>ξ W f 0 λj=>ξ W f 1 λk=>ξ W f 2 λf=>ε W 87 (φ b) 3 λl=>ι W h 45 l j λh j=>ε W 87 (φ a) 3 λl=>ι W h 45 l k λh k=>(η W .eql 35 f (χ 0) λa=>(CP (.func 176) [a] h λa b=>PN a (min (min (min (min (min (min (min m.n c) d) g) i) j) k) b))\/(ψ W 176 [a] h λ_ _ _=>False))\/(η W .eql 35 f (χ 0) λf=>ψ W 176 [f] h λ_ f h=>ε W 91 (φ m) 1 λl=>ε W 87 l 0 λl=>δ W f 3 l λl=>ε W 87 (φ a) 0 λn=>ι W f 3 n l λf l=>(ε W 91 (φ m) 2 λa=>δ W f 3 a λa=>(CP (.func 252) [x0,a] f λa b=>PN a (min (min (min (min (min (min (min (min (min m.n c) d) g) i) j) k) h) l) b))\/(ψ W 252 [x0,a] f λ_ _ _=>False))\/(ε W 91 (φ m) 2 λn=>δ W f 3 n λn=>ψ W 252 [x0,n] f λ_ f n=>(ε W 91 (φ m) 2 λa=>δ W f 3 a λa=>(CP (.func 253) [x0,a] f λa b=>PN a (min (min (min (min (min (min (min (min (min (min m.n c) d) g) i) j) k) h) l) n) b))\/(ψ W 253 [x0,a] f λ_ _ _=>False))\/(ε W 91 (φ m) 2 λo=>δ W f 3 o λo=>ψ W 253 [x0,o] f λ_ f o=>(δ W f 87 (φ b) λa=>(CP (.func 242) [x0,a] f λa b=>PN a (min (min (min (min (min (min (min (min (min (min (min m.n c) d) g) i) j) k) h) l) n) o) b))\/(ψ W 242 [x0,a] f λ_ _ _=>False))\/(δ W f 87 (φ b) λb=>ψ W 242 [x0,b] f λ_ b f=>δ W b 87 (φ a) λa=>(CP (.func 242) [x0,a] b λa b=>PN a (min (min (min (min (min (min (min (min (min (min (min (min m.n c) d) g) i) j) k) h) l) n) o) f) b))\/(ψ W 242 [x0,a] b λ_ _ _=>False))))))):=by kernel_rfl
theorem Qk:qP TE W CP Tryz.f268 [x0,x1] m PN=ς W m x1 91 λa=>(ε W 91 (φ m) 2 λb=>δ W a 3 b λb=>(CP (.func 257) [x0,b] a λa b=>PN a (min m.n b))/\(ε W 91 (φ m) 3 λb=>δ W a 3 b λ_=>ε W 91 (φ m) 4 λb=>δ W a 3 b λ_=>True))\/(ε W 91 (φ m) 2 λb=>δ W a 3 b λb=>ψ W 257 [x0,b] a λb c d=>(a.n<=d)/\(ε W 91 (φ m) 3 λa=>δ W c 3 a λa=>ε W 91 (φ m) 4 λf=>δ W c 3 f λf=>ψ W 269 [b,a,f] c λa b f=>(c.n<=f)/\(ξ W a 0 λc=>ξ W a 1 λa=>υ W b [χ 0,χ 0,χ 0,aeg,χ 0,χ 0] 87 λg=>ι W g 87 (φ b) c λc g=>(η W .eql 35 a (χ 0) λa=>(CP (.func 176) [a] c λa b=>PN a (min (min (min (min m.n d) f) g) b))\/(ψ W 176 [a] c λ_ _ _=>False))\/(η W .eql 35 a (χ 0) λa=>ψ W 176 [a] c λ_ a c=>(ε W 91 (φ m) 2 λb=>δ W a 3 b λb=>(CP (.func 252) [x0,b] a λa b=>PN a (min (min (min (min (min m.n d) f) g) c) b))\/(ψ W 252 [x0,b] a λ_ _ _=>False))\/(ε W 91 (φ m) 2 λh=>δ W a 3 h λh=>ψ W 252 [x0,h] a λ_ a h=>δ W a 87 (φ b) λb=>(CP (.func 242) [x0,b] a λa b=>PN a (min (min (min (min (min (min m.n d) f) g) c) h) b))\/(ψ W 242 [x0,b] a λ_ _ _=>False)))))):=by kernel_rfl
theorem VW:qP TE W CP Tryz.f277 [x0,x1] m PN=ς W m x1 91 λa=>(aj (cP x0) λb=>ε W 258 b 0 λb=>ε W 60 b 1 λb=>δ W a 58 b λb=>ε W 91 (φ m) 5 λc=>ε W 89 c 0 λc=>δ W a 3 c λc=>(CP (.func 278) [b,c,.func (.func 279) #[] #[]] a λa b=>PN a (min m.n b))/\True)\/(aj (cP x0) λb=>ε W 258 b 0 λb=>ε W 60 b 1 λb=>δ W a 58 b λb=>ε W 91 (φ m) 5 λc=>ε W 89 c 0 λc=>δ W a 3 c λc=>ψ W 278 [b,c,.func (.func 279) #[] #[]] a λa b c=>ξ W a 0 λ_=>ξ W a 1 λa=>(ο W .not a λa=>(CP (.func 176) [a] b λa b=>PN a (min (min m.n c) b))\/(ψ W 176 [a] b λ_ _ _=>False))\/(ο W .not a λa=>ψ W 176 [a] b λ_ a _=>aj (cP x0) λb=>ε W 258 b 0 λb=>ε W 60 b 1 λb=>δ W a 58 b λ_=>ε W 91 (φ m) 5 λb=>δ W a 89 b λ_=>False)):=by kernel_rfl
theorem VV:qP TE W CP Tryz.f282 [x0,x1] m PN=ς W m x1 91 λa=>ε W 91 (φ m) 2 λb=>δ W a 3 b λb=>(CP (.func 283) [x0,b,aei] a λa b=>PN a (min m.n b))\/(ψ W 283 [x0,b,aei] a λ_ _ _=>False):=by kernel_rfl
theorem VT:qP TE W CP Tryz.f285 [x0,x1] m PN=ς W m x1 91 λa=>ε W 91 (φ m) 2 λb=>δ W a 3 b λb=>(CP (.func 283) [x0,b,aeh] a λa b=>PN a (min m.n b))\/(ψ W 283 [x0,b,aeh] a λ_ _ _=>False):=by kernel_rfl
end
end
section
variable {X:aG} {m:M}
theorem jr(F:cV X):C X (.func 176) [aeh] m m.n (aO []) m:=by refine Cl.flat (F.no _ rfl) Mu rfl rfl ?_;rw[Zc];dsimp only[aI,θ,ο];rw[bM,ae,an,aal,aM];exact⟨rfl,Ξ _⟩
theorem KF(F:cV X){m:M}:∀n,bO TE X n (.func 176) [aei] m=none
 |0=>by unfold bO;rfl
 |n+1=>by
  unfold bO
  rw[F.no 176 rfl,Mu]
  kernel_rfl
theorem ql(F:cV X):∀n g args m m',hZ TE X lI n g args m=some m'->bO TE X n g args m=none:=
 Br λg args m m' h n=>by
  obtain⟨rfl,rfl,rfl⟩:=oZ h
  exact KF F n
abbrev CP(X:aG):=Cp TE X lI
theorem ke:CP X (.func 176) [aei] m m.n m:=
 ⟨Ξ _,Ξ _,1,λn H l F=>by
  obtain⟨n,rfl⟩:∃k,n=k+1:=⟨n-1,by omega⟩
  have e:lI (.func 176) [aei] (m.wl l)=some (m.wl l):=rfl
  unfold hZ
  rw[e]
  show some (m.wl l)=some (m.wl (min l m.n))
  rw[abL F]⟩
theorem KI{f:Nat}(F:Nat.beq f 176=false)(args:aee)(m:M):lI (.func f) args m=none:=by show(bif Nat.beq f 176 then _ else none)=none;rw[F];rfl
theorem CP.of(F:cV X){f:Nat}{fn:Func}{args:aee}{m:M}{R:M->Nat->Prop}(H:IQ X f)(hf:TE.fn.get f=some fn)(hl:Nat.ble args.length fn.ntmps=true)(hb:Nat.beq f 176=false)
  (h:qP TE (aI TE X) (dA TE X lI) fn args m λm' lo=>R m' (min m.n lo)):∃m' b,CP X (.func f) args m b m'/\R m' b:=by obtain⟨m',lo,h1,h2⟩:=Cp.body (ql F) hf hl H (KI hb) h;exact⟨m',_,h2,h1⟩
section
variable {S:Nat} {r v:aed} {g:Option Nat}
theorem yU(h:m.get S=.cells [r,v] 258 g):ah TE m 31 (aeb S (0+0+0))=some (.agg #[r]):=by rw[dp,aJ (n:=1) h (by show 0+0+0+1<=2;decide)];rfl
theorem rH(h:m.get S=.cells [r,v] 258 g):ah TE m 58 (aeb S (0+0+1))=some v:=by rw[pj,aF h];rfl
end
def uI(S:Nat)(m m':M):Prop:=m.n<=m'.n/\∀c,c < m.n->c≠S->m'.get c=m.get c
theorem uI.refl{S:Nat}:uI S m m:=⟨Ξ _,λ_ _ _=>rfl⟩
theorem uI.of{S:Nat}{m':M}(h:Ext m m'):uI S m m':=⟨h.n,λc F _=>h.get c F⟩
theorem uI.trans{S:Nat}{m1 m2:M}(H:uI S m m1)(h2:uI S m1 m2):uI S m m2:=⟨abD H.1 h2.1,λc hc F=>by rw[h2.2 c (acf hc H.1) F,H.2 c hc F]⟩
theorem uI.cells{S:Nat}{m':M}{c:Nat}{cs:aee}{t:TypeId}{g:Option Nat}(h:uI S m m')(H:m.get c=.cells cs t g)(F:c≠S):m'.get c=.cells cs t g:=by rw[h.2 c (M.aL H) F,H]
theorem sv(hX:cV X){S:Nat}{l:List UW}{r v:aed}{id:Int}{u:Un}(hS:m.get S=.cells [r,v] 258 none)(hF:cJ m l r)(hP:cF (bR l))(hu:cM (bR l) id=some u):
  ∃w m',C X (.func 257) [ptrTo S,.int .i64 id] m m.n (u.v w) m'/\Ext m m'/\Ow m.n m' u.shape w:=by
 have key:=Cl.gen (E:=TE) (X:=X) (f:=257) (args:=[ptrTo S,.int .i64 id]) (m:=m) (R:=λrv m' b=>b=m.n/\∃w,rv=u.v w/\Ext m m'/\Ow m.n m' u.shape w) (hX.no _ rfl) Mp rfl ?_
 ·obtain⟨rv,m',b,hc,rfl,w,rfl,h⟩:=key;exact⟨w,m',hc,h⟩
 rw[YF];dsimp only[aI,δ,ε,ι,ξ,υ,φ,χ,ψ];refine au λm1 C0 q0 r0=>?_;have d0:Ext m m1:=⟨by omega,r0⟩
 unfold ptrTo;refine ai bT (ai bL ?_);refine ai bK (ai (yU (d0.cells hS)) ?_);obtain⟨ov,m7,s0,e0, -,u0⟩:=Cq hX (hF.aD d0) hP id;refine az s0 ?_;rw[hu];obtain⟨w,rfl,H⟩:=u0 u hu;have H:=H.mono (show m.n<=m1.n by omega);have hw:=H.sl;have v0:=e0.n;refine ai (v:=u.v w) rfl ?_;refine ai (v:=aeh) rfl ?_;refine au λD0 z0 g0 h0=>?_;refine aC ep g0 rfl rfl (Un.eN hw.one) λi0 A0 j0 k0=>?_;have F:Ext m7 i0:=⟨by omega,λc hc=>by rw[k0 c (by omega),h0 c hc]⟩
 have g12:i0.get m7.n=.cells (u.c w) 87 none:=j0;refine az (jr hX) ?_;refine ai (cg g12) ?_;have g1:=F.cells (e0.cells q0);refine aC ep g1 rfl rfl (Un.eN hw.one) λl0 B0 o0 a0=>?_;have g18:l0.get m.n=.cells (u.c w) 87 none:=o0;refine ai (cg g18) ?_
 have b0:Ow m.n l0 u.shape w:=(H.aD F).bH λb c t g hb ht=>by rw[a0 b (λe=>by subst e;rw[g1]at hb;cases hb;simp[aP.ty,aP.fx]at ht),hb]
 have hv:=cx (dP (hP.val u (eW hu).1));rcases _root_.id b0 with⟨-,h1⟩ |⟨b,cs,rfl,h⟩;·rw[h1]at hv;simp at hv
 exact .inr ⟨.inl rfl,by omega,_,rfl,⟨by omega,λc hc=>by rw[a0 c (by omega),F.get c (by omega),e0.get c (by omega),d0.get c hc]⟩,b0⟩
theorem AV(F:cV X){S:Nat}{l:List UW}{r v:aed}{id:Int}{u:Un}(H:m.get S=.cells [r,v] 258 none)(hF:cJ m l r)(hP:cF (bR l))(hu:cM (bR l) id=some u):
  ∃w m',C X (.func 257) [ptrTo S,.int .i64 id] m m.n (u.v w) m'/\Ext m m'/\Sl m' u.shape w:=by obtain⟨w,m',h1,h2,h3⟩:=sv F H hF hP hu;exact⟨w,m',h1,h2,h3.sl⟩
theorem yC(hX:cV X){S:Nat}{l:List UW}{r v:aed}{id:Int}(hS:m.get S=.cells [r,v] 258 none)(hF:cJ m l r)(hP:cF (bR l))(hu:cM (bR l) id=none):
  ∃m' b,CP X (.func 257) [ptrTo S,.int .i64 id] m b m'/\b=m.n/\uI S m m':=by
 refine CP.of hX (R:=λm' b=>b=m.n/\uI S m m') (hX.no _ rfl) Mp rfl rfl ?_;rw[VX];dsimp only[aI,δ,ε,ι,ξ,υ,φ,χ,ψ,dA];refine au λm1 o0 q0 g0=>?_;have F:Ext m m1:=⟨by omega,g0⟩
 unfold ptrTo;refine .inr ?_;refine ai bT (ai bL ?_);refine ai bK (ai (yU (F.cells hS)) ?_);obtain⟨ov,m7,h0,H,a0⟩:=uA hX (hF.aD F) hP id;refine az h0 ?_;rw[hu]at a0⊢;obtain rfl:ov=_:=a0;have i0:=H.n;refine ai rfl ?_;refine ai (v:=aei) rfl ?_;refine au λr0 j0 b0 d0=>?_;refine aC ep b0 rfl rfl rfl λs0 k0 l0 e0=>?_;refine .inl (.inl ⟨_,_,ke,by omega,.of ⟨by omega,λc hc=>by rw[e0 c (by omega),d0 c (by omega),H.get c (by omega),F.get c hc]⟩⟩)
def zr(S:Nat)(m:M)(us:List Un)(v:aed)(m':M):Prop:=∃F H,m'.get S=.cells [F,v] 258 none/\bR H=us/\cJ m' H F/\uI S m m'
theorem cJ.FX{S:Nat}{l:List UW}{r:aed}{m':M}{cs:aee}(h:cJ m l r)(H:m.get S=.cells cs 258 none)(hk:∀c,c≠S->m'.get c=m.get c):cJ m' l r:=
 h.bH λc a0 t g F ht=>by rw[hk c (λe=>by subst e;rw[H]at F;cases F;rcases ht with h |h <;>cases h),F]
theorem uo{r:aed}(h:one r=true):(cells (.agg #[r])).all one=true:=by show(one r && true)=true;rw[h];rfl
theorem qX(hX:cV X)(hI:me X){S:Nat}{l:List UW}{r v w:aed}{u:Un}(hS:m.get S=.cells [r,v] 258 none)(C0:one v=true)(hF:cJ m l r)(hP:cF (bR l))(hw:Sl m u.shape w)(hu:u.shape.length < 4611686018427387904)(ha:pE (bR l) u=true):
  ∃m',C X (.func 242) [ptrTo S,u.v w] m S (aO []) m'/\zr S m (mR (bR l) u) v m':=by
 have D0:=M.aL hS;have key:=Cl.gen (E:=TE) (X:=X) (f:=242) (args:=[ptrTo S,u.v w]) (m:=m) (R:=λrv m' b=>rv=aO []/\b=S/\zr S m (mR (bR l) u) v m') (hX.no _ rfl) Ms rfl ?_
 ·obtain⟨rv,m',b,hc,rfl,rfl,h⟩:=key;exact⟨m',hc,h⟩
 rw[YN];dsimp only[aI,δ,ε,η,ι,ξ,ς,υ,φ,χ,ψ];refine au λm1 E0 o0 q0=>?_;have F:Ext m m1:=⟨by omega,q0⟩
 have g1:m1.get m.n=.cells (u.c w) 87 none:=o0;unfold ptrTo;refine ai bT (ai bL ?_);refine ai bK (ai (yU (F.cells hS)) ?_);refine ai (cg g1) ?_;obtain⟨rv,m8,r0,b0,d0⟩:=FF hX hI (hF.aD F) hP (hw.aD F) hu;refine az r0 ?_;have v0:=b0.n;unfold tO at d0;rw[aaf ha]at d0;obtain⟨r',l',rfl,s0,g0⟩:=d0;have o':one r'=true:=g0.sl.one;refine⟨by omega,?_⟩;refine ai (v:=.agg #[r']) rfl ?_;refine ai (v:=.int .i64 0) rfl ?_;refine au λF0 z0 h0 i0=>?_;refine aC im h0 rfl rfl (uo o') λe0 A0 j0 k0=>?_;have H:Ext m8 e0:=⟨by omega,λc hc=>by rw[k0 c (by omega),i0 c hc]⟩
 have g13:e0.get m8.n=.cells [r'] 31 none:=j0;refine ai (v:=aeh) (by rw[aY];rfl) ?_;refine az (jr hX) ?_;refine ai (show ah TE e0 31 (aeb m8.n 0)=some (.agg #[r']) by rw[dp,aJ (n:=1) g13 (by show 0+1<=1;decide)];rfl) ?_;refine ai bT (ai bL ?_);refine ai bK ?_;have gS:=H.cells (b0.cells (F.cells hS));refine bW im gS rfl (by show 0+0+0+1<=2;decide) (uo o') λG0 B0 l0 a0=>?_;refine .inr ⟨.inr (by omega),rfl,by omega,r',l',l0,s0,(g0.aD H).FX gS a0,by omega,λc hc u0=>by rw[a0 c u0,H.get c (by omega),b0.get c (by omega),F.get c hc]⟩
theorem qW(hX:cV X)(hI:me X){S:Nat}{l:List UW}{r v w:aed}{u:Un}(hS:m.get S=.cells [r,v] 258 none)(hF:cJ m l r)(hP:cF (bR l))(hw:Sl m u.shape w)(hu:u.shape.length < 4611686018427387904)(ha:pE (bR l) u=false):
  ∃m' b,CP X (.func 242) [ptrTo S,u.v w] m b m'/\b=m.n/\uI S m m':=by
 refine CP.of hX (R:=λm' b=>b=m.n/\uI S m m') (hX.no _ rfl) Ms rfl rfl ?_;rw[Wa];dsimp only[aI,δ,ε,η,ι,ξ,ς,υ,φ,χ,ψ,dA];refine au λm1 q0 g0 h0=>?_;have F:Ext m m1:=⟨by omega,h0⟩
 have g1:m1.get m.n=.cells (u.c w) 87 none:=g0;unfold ptrTo;refine .inr ?_;refine ai bT (ai bL ?_);refine ai bK (ai (yU (F.cells hS)) ?_);refine ai (cg g1) ?_;obtain⟨rv,m8,i0,a0,H⟩:=FF hX hI (hF.aD F) hP (hw.aD F) hu;refine az i0 ?_;have j0:=a0.n;unfold tO at H;rw[aaa (by rw[ha];decide)]at H;subst H;refine⟨by omega,?_⟩;refine ai (v:=.agg #[aeg]) rfl ?_;refine ai (v:=.int .i64 120) rfl ?_;refine au λr0 k0 b0 d0=>?_;refine aC im b0 rfl rfl rfl λs0 l0 o0 e0=>?_;refine .inl ?_;refine ai (v:=aei) (by rw[aY];rfl) ?_;refine .inl ⟨_,_,ke,by omega,.of ⟨by omega,λc hc=>by rw[e0 c (by omega),d0 c (by omega),a0.get c (by omega),F.get c hc]⟩⟩
theorem qT(hX:cV X){S:Nat}{l:List UW}{r v:aed}{id:Int}(hS:m.get S=.cells [r,v] 258 none)(z0:one v=true)(hF:cJ m l r)(hP:cF (bR l))(ha:(bR l).any (λu=>decide (u.id=id))=true):
  ∃m',C X (.func 252) [ptrTo S,.int .i64 id] m S (aO []) m'/\zr S m (jH (bR l) id) v m':=by
 have A0:=M.aL hS;have key:=Cl.gen (E:=TE) (X:=X) (f:=252) (args:=[ptrTo S,.int .i64 id]) (m:=m) (R:=λrv m' b=>rv=aO []/\b=S/\zr S m (jH (bR l) id) v m') (hX.no _ rfl) Mq rfl ?_
 ·obtain⟨rv,m',b,hc,rfl,rfl,h⟩:=key;exact⟨m',hc,h⟩
 rw[YH];dsimp only[aI,δ,ε,η,ι,ξ,υ,φ,χ,ψ];unfold ptrTo;refine ai bT (ai bL ?_);refine ai bK (ai (yU hS) ?_);obtain⟨rv,m8,l0,a0,b0⟩:=FE (id:=id) hX hF hP;refine az l0 ?_;have r0:=a0.n;unfold zt at b0;rw[aaf ha]at b0;obtain⟨r',l',rfl,o0,e0⟩:=b0;have o':one r'=true:=e0.sl.one;refine ai (v:=.agg #[r']) rfl ?_;refine ai (v:=.int .i64 0) rfl ?_;refine au λB0 s0 g0 h0=>?_;refine aC im g0 rfl rfl (uo o') λd0 u0 i0 j0=>?_;have F:Ext m8 d0:=⟨by omega,λc hc=>by rw[j0 c (by omega),h0 c hc]⟩
 have g13:d0.get m8.n=.cells [r'] 31 none:=i0;refine ai (v:=aeh) (by rw[aY];rfl) ?_;refine az (jr hX) ?_;refine ai (show ah TE d0 31 (aeb m8.n 0)=some (.agg #[r']) by rw[dp,aJ (n:=1) g13 (by show 0+1<=1;decide)];rfl) ?_;refine ai bT (ai bL ?_);refine ai bK ?_;have gS:=F.cells (a0.cells hS);refine bW im gS rfl (by show 0+0+0+1<=2;decide) (uo o') λC0 v0 k0 H=>?_;refine .inr ⟨.inr (by omega),rfl,by omega,r',l',k0,o0,(e0.aD F).FX gS H,by omega,λc hc q0=>by rw[H c q0,F.get c (by omega),a0.get c (by omega)]⟩
theorem JX(hX:cV X){S:Nat}{l:List UW}{r v:aed}{id:Int}(hS:m.get S=.cells [r,v] 258 none)(hF:cJ m l r)(hP:cF (bR l))(ha:(bR l).any (λu=>decide (u.id=id))=false):
  ∃m' b,CP X (.func 252) [ptrTo S,.int .i64 id] m b m'/\b=m.n/\uI S m m':=by refine CP.of hX (R:=λm' b=>b=m.n/\uI S m m') (hX.no _ rfl) Mq rfl rfl ?_;rw[VY];dsimp only[aI,δ,ε,η,ι,ξ,υ,φ,χ,ψ,dA];unfold ptrTo;refine .inr ?_;refine ai bT (ai bL ?_);refine ai bK (ai (yU hS) ?_);obtain⟨rv,m8,e0,H,F⟩:=FE (id:=id) hX hF hP;refine az e0 ?_;have g0:=H.n;unfold zt at F;rw[aaa (by rw[ha];decide)]at F;subst F;refine ai (v:=.agg #[aeg]) rfl ?_;refine ai (v:=.int .i64 120) rfl ?_;refine au λk0 h0 a0 b0=>?_;refine aC im a0 rfl rfl rfl λl0 i0 j0 d0=>?_;refine .inl ?_;refine ai (v:=aei) (by rw[aY];rfl) ?_;refine .inl ⟨_,_,ke,by omega,.of ⟨by omega,λc hc=>by rw[d0 c (by omega),b0 c (by omega),H.get c (by omega)]⟩⟩
theorem jU.QI{n1:Nat}{ms:List Mk}{v:aed}(h:jU n1 m ms v):∀a n k,v=.slice (some a) n k->n1<=a.block/\∃cs g,m.get a.block=.cells cs 89 g:=by
 intro a n k e;rcases h with(⟨F, -⟩ |⟨b,cs,F,h2,H,h4, -⟩) |⟨-,b,F,h2,H⟩;·rw[F]at e;cases e
 ·rw[F]at e;cases e;exact⟨H,_,_,h4⟩
 rw[F]at e;cases e;exact⟨h2,_,_,H⟩
def jx(S:Nat)(v:aed)(m m':M):Prop:=m.n<=m'.n/\∀c,c < m.n->c≠S->(∀a n k,v=.slice (some a) n k->c≠a.block)->m'.get c=m.get c
theorem jx.other{n1 S:Nat}{ms:List Mk}{v:aed}{m':M}(H:jx S v m m')(h:jU n1 m ms v){c:Nat}{cs:aee}{t:TypeId}{g:Option Nat}(F:m.get c=.cells cs t g)(ht:t≠89)(hS:c≠S):m'.get c=.cells cs t g:=by rw[H.2 c (M.aL F) hS λa n k e e2=>by subst e2;obtain⟨-,a0,g',h1⟩:=h.QI a n k e;rw[h1]at F;cases F;exact ht rfl,F]
theorem cJ.yY{n1 S:Nat}{ms:List Mk}{v:aed}{m':M}{l:List UW}{r:aed}{cs:aee}(hF:cJ m l r)(hk:jx S v m m')(h:jU n1 m ms v)(hS:m.get S=.cells cs 258 none):cJ m' l r:=
 hF.bH λc a0 t g F H=>hk.other h F (by rcases H with rfl |rfl <;>decide) λe=>by subst e;rw[hS]at F;cases F;rcases H with h |h <;>cases h
theorem sD(hX:cV X){n1 S:Nat}{ms:List Mk}{r v:aed}{id:Int}(hS:m.get S=.cells [r,v] 258 none)(v0:one r=true)(hM:jU n1 m ms v)(hl:ms.length < 1000)(z0:n1<=S):
  ∃m' b v',C X (.func 253) [ptrTo S,.int .i64 id] m b (aO []) m'/\n1<=b/\m'.get S=.cells [r,v'] 258 none/\Sl m' (lY ms id) v'/\jx S v m m':=by
 have A0:=M.aL hS;have key:=Cl.gen (E:=TE) (X:=X) (f:=253) (args:=[ptrTo S,.int .i64 id]) (m:=m) (R:=λrv m' b=>rv=aO []/\n1<=b/\∃v',m'.get S=.cells [r,v'] 258 none/\Sl m' (lY ms id) v'/\jx S v m m') (hX.no _ rfl) R2 rfl ?_
 ·obtain⟨rv,m',b,hc,rfl,h1,v',h⟩:=key;exact⟨m',b,v',hc,h1,h⟩
 rw[YG];dsimp only[aI,δ,ε,ι,ς,φ,ψ];refine au λm1 s0 g0 h0=>?_;have H:Ext m m1:=⟨by omega,h0⟩
 have g1:m1.get m.n=.cells [.int .i64 id] 3 none:=g0;unfold ptrTo;refine ai bT (ai bL ?_);refine ai bX (ai (rH (H.cells hS)) ?_);have b0:=hM.aD H
 obtain⟨v',m7,b8,i0,B0,F,C0,d0⟩:=Po (m:=m1) (g:=.func 322) (fi:= #[]) (ca:= #[aeb m.n 0]) hX (λx=>decide (x.un=id)) b0 hl (by omega) (λx hx mm D0 j0=>by
  have gm:mm.get m.n=.cells [.int .i64 id] 3 none:=by rw[j0 m.n (by omega) (λa n k e e2=>by obtain⟨-,k0,g',h1⟩:=b0.QI a n k e;rw[<-e2,g1]at h1;cases h1),g1]
  show C X (.func 322) [x.v,aeb m.n 0] mm mm.n (.bool (decide (x.un=id))) mm;refine Cl.flat (hX.no _ rfl) RE rfl rfl ?_;rw[Yg];dsimp only[aI,δ,ε,η,ς,φ];refine au λq1 E0 l0 o0=>?_;have qg:q1.get mm.n=.cells x.c 89 none:=l0;unfold ptrTo;refine ai fW (ai (zO qg).2.1 ?_);refine ai (show ah TE q1 3 (aeb m.n 0)=some (.int .i64 id) by rw[cd,aF (show q1.get m.n=_ by rw[o0 _ (M.aL gm),gm])];rfl) ?_;refine ai (v:=.bool (decide (x.un=id))) (by rw[aY]) ?_;exact⟨rfl,by omega⟩)
 refine az i0 ?_;refine ai bT (ai bL ?_);refine ai bX ?_
 have gS:m7.get S=.cells [r,v] 258 none:=by rw[d0 S (by omega) (λa n k e e2=>by obtain⟨-,k0,g',h1⟩:=b0.QI a n k e;rw[<-e2,H.cells hS]at h1;cases h1),H.cells hS]
 refine bW JQ gS (by rw[F.cells];rfl) (by rw[F.cells];show 0+0+1+1<=2;decide) (by rw[F.cells];simp[F.one]) λq0 u0 e0 a0=>?_;have g12:q0.get S=.cells [r,v'] 258 none:=by rw[e0,F.cells];rfl
 refine .inr ⟨.inr (by omega),rfl,by omega,v',g12,F.bH λc cs t g hc ht=>?_,by omega,λc hc r0 hv=>?_⟩
 ·have ht:t=89:=by simpa[aP.ty,aP.fx]using ht
  subst ht;rw[a0 c (λe=>by subst e;rw[gS]at hc;cases hc),hc]
 rw[a0 c r0,d0 c (by omega) hv,H.get c hc]
theorem Dc{ms:List Mk}{id:Int}{o:Bool}(h:lx ms id o=none):(idx (λy:Mk=>decide (y.id=id)) ms= -1)\/∃k y,idx (λy:Mk=>decide (y.id=id)) ms=(k:Nat)/\ms[k]?=some y/\y.Kw=o:=by
 rcases jj (λy:Mk=>decide (y.id=id)) ms with⟨H, -⟩ |⟨k,y,H,F,h3,h4⟩;·exact .inl H
 refine .inr ⟨k,y,H,F,?_⟩
 have hf:ms.findIdx? (λy=>decide (y.id=id))=some k:=ac1.2 ⟨(Ω.1 F).1,by rw[(Ω.1 F).2];exact h3,λj hj=>by rw[h4 j _ hj (Φ (ad0 hj (Ω.1 F).1))];decide⟩
 unfold lx at h;rw[hf]at h;simp only[F]at h;split at h
 ·assumption
 cases h
theorem uU{ms ns:List Mk}{id:Int}{o:Bool}(h:lx ms id o=some ns):∃k y,idx (λy:Mk=>decide (y.id=id)) ms=(k:Nat)/\ms[k]?=some y/\y.Kw≠o/\ns=ms.set k {y with Kw:=o}:=by
 rcases jj (λy:Mk=>decide (y.id=id)) ms with⟨h1,F⟩ |⟨k,y,h1,F,h3,h4⟩
 ·have H:ms.findIdx? (λy=>decide (y.id=id))=none:=List.findIdx?_eq_none_iff.2 F;unfold lx at h;rw[H]at h;cases h
 refine⟨k,y,h1,F,?_⟩
 have H:ms.findIdx? (λy=>decide (y.id=id))=some k:=ac1.2 ⟨(Ω.1 F).1,by rw[(Ω.1 F).2];exact h3,λj hj=>by rw[h4 j _ hj (Φ (ad0 hj (Ω.1 F).1))];decide⟩
 unfold lx at h;rw[H]at h;simp only[F]at h;split at h;·cases h
 cases h;exact⟨by assumption,rfl⟩
theorem BD{a b:Bool}:aw TE .neq 4 (.bool a) (.bool b)=some (.bool (!decide (a=b))):=by cases a <;>cases b <;>kernel_rfl
theorem AU(hX:cV X){F:M}{B:Nat}{id:Int}{g:Option Nat}(gm:F.get B=.cells [.int .i64 id] 3 g)(x:Mk):
  C X (.func 329) [x.v,aeb B 0] F F.n (.bool (decide (x.id=id))) F:=by refine Cl.flat (hX.no _ rfl) Rz rfl rfl ?_;rw[Yc];dsimp only[aI,δ,ε,η,ς,φ];refine au λq1 b0 H a0=>?_;have qg:q1.get F.n=.cells x.c 89 none:=H;unfold ptrTo;refine ai cH (ai (zO qg).1 ?_);refine ai (show ah TE q1 3 (aeb B 0)=some (.int .i64 id) by rw[cd,aF (show q1.get B=_ by rw[a0 _ (M.aL gm),gm])];rfl) ?_;refine ai (v:=.bool (decide (x.id=id))) (by rw[aY]) ?_;exact⟨rfl,by omega⟩
theorem AW(hX:cV X){n1 S:Nat}{ms ns:List Mk}{r v:aed}{id:Int}{o:Bool}(hS:m.get S=.cells [r,v] 258 none)(hM:jU n1 m ms v)(hl:ms.length < 1000)(C0:n1<=S)(ht:lx ms id o=some ns):
  ∃m' b,C X (.func 283) [ptrTo S,.int .i64 id,.bool o] m b (aO []) m'/\n1<=b/\(∃a n k,v=.slice (some a) n k/\b<=a.block)/\m'.get S=.cells [r,v] 258 none/\Sl m' ns v/\jx S v m m':=by
 have D0:=M.aL hS;have key:=Cl.gen (E:=TE) (X:=X) (f:=283) (args:=[ptrTo S,.int .i64 id,.bool o]) (m:=m) (R:=λrv m' b=>rv=aO []/\n1<=b/\(∃a n k,v=.slice (some a) n k/\b<=a.block)/\m'.get S=.cells [r,v] 258 none/\Sl m' ns v/\jx S v m m') (hX.no _ rfl) Ml rfl ?_
 ·obtain⟨rv,m',b,hc,rfl,h1,h⟩:=key;exact⟨m',b,hc,h1,h⟩
 obtain⟨k,y,hi,hy,i0,rfl⟩:=uU ht;rw[Yn];dsimp only[aI,δ,ε,ζ,η,ι,ς,φ,χ,ψ];refine au λm1 A0 r0 s0=>?_;have d0:Ext m m1:=⟨by omega,s0⟩
 have g1:m1.get m.n=.cells [.int .i64 id] 3 none:=r0;have gS:=d0.cells hS;have j0:=hM.aD d0;unfold ptrTo;refine ai bT (ai bL ?_);refine ai bX (ai (rH gS) ?_);refine az (qu (fi:= #[]) (ca:= #[aeb m.n 0]) hX (λy=>decide (y.id=id)) (by omega) j0.sl λx hx=>AU hX g1 x) ?_;rw[hi]
 have H:Ow n1 m1 ms v:=by
  rcases j0 with h |⟨h, -⟩;·exact h
  subst h;simp at hy
 obtain⟨b,F,E0,⟨bc,bg,a0⟩,F0,⟨cs,hr,e0⟩,k0⟩:=DH (m:=m1) rfl H hy eU;obtain rfl:cs=y.c:=hr;refine cG (λvs m' lo=>vs=[]/\m1=m'/\m.n<=lo) (λR hR=>?_) ?_
 ·rw[cO,ae,an,aaX (by omega),bU];refine ai bT (ai bL ?_);refine ai bX (ai (rH gS) ?_);refine ai (F .i64) (ai kW ?_);refine ai (show ah TE m1 4 (aeb b (0+k*5+4))=some (.bool y.Kw) by rw[qq];exact(e0 4 (by decide)).trans rfl) ?_;rw[BD,ae,aat i0,aau];refine az (jr hX) ?_;exact hR _ _ _ ⟨rfl,rfl,by omega⟩
 rintro _ _ lo ⟨rfl,rfl,G0⟩;refine ai bT (ai bL ?_);refine ai bX (ai (rH gS) ?_);refine ai (F .i64) (ai kW ?_);refine k0 4 4 _ {y with Kw:=o} (.bool o) NQ rfl rfl rfl (by decide) (λcs u0 m'=>by obtain rfl:cs=y.c:=u0;rfl) _ λH0 B0 g0 b0=>?_;have I0:b≠m.n:=λe=>by subst e;rw[g1]at a0;cases a0
 have v0:b≠S:=λe=>by subst e;rw[gS]at a0;cases a0
 have l0:∀a n k,v=.slice (some a) n k->a.block=b:=λa n k' e=>by
  subst e;have:=F .i64;rcases H with⟨h, -⟩ |⟨b',o0,h5,h6, -⟩;·cases h
  cases h5;obtain⟨z0,te,t1,⟨e,t2⟩,t3,t4,t5,t6⟩:=eU;have hk:=(Ω.1 hy).1;have q0:0<=(k:Int)/\(k:Int)< (ms.length:Int)/\0 < z0.es:=⟨by omega,by omega,by rw[t3];decide⟩
  simp only[ak,t1,t2]at this;rw[aaf q0,bw rfl]at this;exact congrArg (λp:Option aed=>match p with |some (.pointer (some a))=>a.block |_=>0) this
 refine .inr ⟨.inr (by omega),rfl,by omega,?_,by rw[b0 S v0.symm,gS],g0.sl,by omega,λc hc i0 hv=>?_⟩
 ·rcases H with⟨h,h0⟩ |⟨b',o0,h5, -⟩;·subst h0;simp at hy
  exact⟨_,_,_,h5,by rw[l0 _ _ _ h5];omega⟩
 rcases H with⟨h,h0⟩ |⟨b',o0,h5, -⟩;·subst h0;simp at hy
 rw[b0 c (λe=>hv _ _ _ h5 (by rw[e,l0 _ _ _ h5])),d0.get c hc]
theorem yD(hX:cV X){S:Nat}{ms:List Mk}{r v:aed}{id:Int}{o:Bool}(hS:m.get S=.cells [r,v] 258 none)(hM:Sl m ms v)(hl:ms.length < 1000)(ht:lx ms id o=none):
  ∃m' b,CP X (.func 283) [ptrTo S,.int .i64 id,.bool o] m b m'/\b=m.n/\uI S m m':=by
 refine CP.of hX (R:=λm' b=>b=m.n/\uI S m m') (hX.no _ rfl) Ml rfl rfl ?_;rw[VU];dsimp only[aI,δ,ε,ζ,η,ι,ς,φ,χ,ψ,dA];refine au λm1 i0 a0 d0=>?_;have F:Ext m m1:=⟨by omega,d0⟩
 have g1:m1.get m.n=.cells [.int .i64 id] 3 none:=a0;have gS:=F.cells hS;have H:=hM.aD F;unfold ptrTo;refine .inr ?_;refine ai bT (ai bL ?_);refine ai bX (ai (rH gS) ?_);refine az (qu (fi:= #[]) (ca:= #[aeb m.n 0]) hX (λy=>decide (y.id=id)) (by omega) H λx hx=>AU hX g1 x) ?_;refine .inl ?_;rcases Dc ht with hi |⟨k,y,hi,hy,ho⟩
 ·rw[hi,cO,ae,an,aat (by omega),aM];exact .inl ⟨_,_,ke,by omega,.of F⟩
 rw[hi,cO,ae,an,aaX (by omega),bU];refine ai bT (ai bL ?_);refine ai bX (ai (rH gS) ?_);obtain⟨b0,o0,bc,g0,cs,e1,e0,h0, -,hj⟩:=H.lU eU (k:=.i64) hy;obtain rfl:cs=y.c:=h0;refine ai e1 (ai kW ?_);refine ai (show ah TE m1 4 (aeb b0 (o0+4))=some (.bool y.Kw) by rw[qq,aF e0];exact(hj 4 (by decide)).trans rfl) ?_;rw[BD,ae,aaX ho,aal];exact .inl ⟨_,_,ke,by omega,.of F⟩
abbrev Ac.c(a:Ac)(w:aed):aee:=[.int .i64 a.kind,.int .i64 a.un.id,.int .i64 a.un.kind,.int .i64 a.un.CV,w,.int .i64 a.un.back,.int .i64 a.un.front,.int .i64 a.id,.int .i64 a.i,.int .i64 a.k,.int .i64 a.jL.id,.int .i64 a.jL.un,.int .i64 a.jL.side,.int .i64 a.jL.kind,.bool a.jL.Kw]
abbrev Ac.v(a:Ac)(w:aed):aed:=.agg (a.c w).toArray
section
variable {b:Nat} {a:Ac} {w:aed} {g:Option Nat}
theorem np(h:m.get b=.cells (a.c w) 91 g):ah TE m 87 (aeb b (0+1))=some (a.un.v w):=by rw[rE,aJ (n:=6) h (by show 0+1+6<=15;decide)];rfl
theorem AA(h:m.get b=.cells (a.c w) 91 g):ah TE m 89 (aeb b (0+10))=some a.jL.v:=by rw[zV,aJ (n:=5) h (by show 0+10+5<=15;decide)];rfl
theorem eX(h:m.get b=.cells (a.c w) 91 g):
  ah TE m 3 (aeb b (0+0))=some (.int .i64 a.kind)/\ah TE m 3 (aeb b (0+7))=some (.int .i64 a.id)/\ah TE m 3 (aeb b (0+8))=some (.int .i64 a.i)/\
  ah TE m 3 (aeb b (0+9))=some (.int .i64 a.k)/\ah TE m 3 (aeb b (0+10+0))=some (.int .i64 a.jL.id)/\ah TE m 3 (aeb b (0+1+0))=some (.int .i64 a.un.id):=by refine⟨?_,?_,?_,?_,?_,?_⟩ <;>(rw[cd,aF h];rfl)
end
def zu(S:Nat)(v:aed)(m:M)(vs:List Un)(ns:List Mk)(m':M):Prop:=∃F H l',m'.get S=.cells [F,H] 258 none/\bR l'=vs/\cJ m' l' F/\Sl m' ns H/\jx S v m m'
theorem uI.xL{S:Nat}{v:aed}{m':M}(h:uI S m m'):jx S v m m':=⟨h.1,λc H F _=>h.2 c H F⟩
theorem jx.trans{S:Nat}{v:aed}{m1 m2:M}(H:jx S v m m1)(h2:jx S v m1 m2):jx S v m m2:=⟨abD H.1 h2.1,λc hc F hv=>by rw[h2.2 c (acf hc H.1) F hv,H.2 c hc F hv]⟩
theorem jx.of{S:Nat}{v:aed}{m':M}(h:Ext m m'):jx S v m m':=(uI.of h).xL
theorem jU.rI{n1 S:Nat}{ms:List Mk}{v:aed}{m':M}{cs:aee}(h:jU n1 m ms v)(hk:uI S m m')(hS:m.get S=.cells cs 258 none):jU n1 m' ms v:=by
 have hM:∀b c g,m.get b=.cells c 89 g->m'.get b=.cells c 89 g:=λb c g F=>hk.cells F λe=>by subst e;rw[hS]at F;cases F
 exact h.imp (λh=>h.bH λb c t g F H=>by
  have H:t=89:=by simpa[aP.ty,aP.fx]using H
  subst H;exact hM b c g F) λ⟨h1,b,h2,h3,h4⟩=>⟨h1,b,h2,h3,hM _ _ _ h4⟩
theorem zr.doR{n1 S:Nat}{us:List Un}{ms:List Mk}{v:aed}{m1 m':M}{cs:aee}(h:zr S m1 us v m')(H:Ext m m1)(hS:m1.get S=.cells cs 258 none)(hM:jU n1 m1 ms v):zu S v m us ms m':=by obtain⟨r',l',h1,h2,h3,F⟩:=h;exact⟨r',v,l',h1,h2,h3,(hM.rI F hS).sl,(jx.of H).trans F.xL⟩
section
variable {n1 S:Nat} {l:List UW} {ms:List Mk} {r v w:aed} {a:Ac}
theorem Td(hX:cV X)(hI:me X)(hS:m.get S=.cells [r,v] 258 none)(hF:cJ m l r)(hP:cF (bR l))(hM:jU n1 m ms v)(h0:n1<=S)(hw:Sl m a.un.shape w)(hu:a.un.shape.length < 4611686018427387904){vs:List Un}(H:iY (bR l) a.un=some vs):
  ∃m' b,C X (.func 241) [ptrTo S,a.v w] m b (aO []) m'/\n1<=b/\zu S v m vs ms m':=by
 have i0:=M.aL hS;have key:=Cl.gen (E:=TE) (X:=X) (f:=241) (args:=[ptrTo S,a.v w]) (m:=m) (R:=λrv m' b=>rv=aO []/\n1<=b/\zu S v m vs ms m') (hX.no _ rfl) Mt rfl ?_
 ·obtain⟨rv,m',b,hc,rfl,h⟩:=key;exact⟨m',b,hc,h⟩
 unfold iY at H;split at H;case isFalse=>cases H
 case isTrue a0=>
 cases H;rw[YO];dsimp only[aI,δ,ε,ς,φ,ψ];refine au λm1 g0 b0 d0=>?_;have F:Ext m m1:=⟨by omega,d0⟩
 have g1:m1.get m.n=.cells (a.c w) 91 none:=b0;have gS:=F.cells hS;refine ai bN (ai (np g1) ?_);obtain⟨m5,e0,h5⟩:=qX hX hI gS hM.sl.one (hF.aD F) hP (hw.aD F) hu a0;refine az e0 ?_;exact .inr ⟨.inr (by omega),rfl,by omega,h5.doR F gS (hM.aD F)⟩
theorem Pk(H:cV X)(hI:me X)(hS:m.get S=.cells [r,v] 258 none)(hF:cJ m l r)(hP:cF (bR l))(hw:Sl m a.un.shape w)(hu:a.un.shape.length < 4611686018427387904)(ha:iY (bR l) a.un=none):
  ∃m' b,CP X (.func 241) [ptrTo S,a.v w] m b m'/\S<=b/\jx S v m m':=by
 have h0:=M.aL hS;refine CP.of H (R:=λm' b=>S<=b/\jx S v m m') (H.no _ rfl) Mt rfl rfl ?_
 have a0:pE (bR l) a.un=false:=by
  unfold iY at ha;split at ha;·cases ha
  exact acn.2 ‹¬_›
 rw[Wb];dsimp only[aI,δ,ε,ς,φ,ψ,dA];refine au λm1 g0 b0 d0=>?_;have F:Ext m m1:=⟨by omega,d0⟩
 have g1:m1.get m.n=.cells (a.c w) 91 none:=b0;refine ai bN (ai (np g1) ?_);obtain⟨m5,b5,e0,rfl,h5⟩:=qW H hI (F.cells hS) (hF.aD F) hP (hw.aD F) hu a0;exact .inl ⟨_,_,e0,by omega,(jx.of F).trans h5.xL⟩
theorem xB{us:List Un}{id:Int}:us.any (λu=>decide (u.id=id))=(cM us id).isSome:=by
 unfold cM
 induction us with
 |nil=>rfl
 |cons u us F=>rw[adR,List.find?_cons,F];cases decide (u.id=id)<;>rfl
theorem Tc(hX:cV X)(hS:m.get S=.cells [r,v] 258 none)(hF:cJ m l r)(hP:cF (bR l))(hM:jU n1 m ms v)(hl:ms.length < 1000)(j0:n1<=S)(ha:(cM (bR l) a.id).isSome=true):
  ∃m' b,C X (.func 251) [ptrTo S,a.v w] m b (aO []) m'/\n1<=b/\zu S v m (jH (bR l) a.id) (lY ms a.id) m':=by
 have v0:=M.aL hS;have key:=Cl.gen (E:=TE) (X:=X) (f:=251) (args:=[ptrTo S,a.v w]) (m:=m) (R:=λrv m' b=>rv=aO []/\n1<=b/\zu S v m (jH (bR l) a.id) (lY ms a.id) m') (hX.no _ rfl) Mr rfl ?_
 ·obtain⟨rv,m',b,hc,rfl,h⟩:=key;exact⟨m',b,hc,h⟩
 rw[YI];dsimp only[aI,δ,ε,ς,φ,ψ];refine au λm1 s0 k0 l0=>?_;have F:Ext m m1:=⟨by omega,l0⟩
 have g1:m1.get m.n=.cells (a.c w) 91 none:=k0;have gS:=F.cells hS;have o0:=hM.aD F;refine ai aW (ai (eX g1).2.1 ?_);obtain⟨m5,q0,r',l',d0,r0,e0,a0⟩:=qT (id:=a.id) hX gS hM.sl.one (hF.aD F) hP (by rw[xB];exact ha);refine az q0 ?_;have g5:=a0.cells g1 (by omega);refine ai aW (ai (eX g5).2.1 ?_);have g0:=o0.rI a0 gS;obtain⟨z0,A0,v',h0,u0,i0,b0,H⟩:=sD (id:=a.id) hX d0 e0.sl.one g0 hl j0;refine az h0 ?_;exact .inr ⟨.inr (by omega),rfl,by omega,r',v',l',i0,r0,e0.yY H g0 d0,b0,((jx.of F).trans a0.xL).trans H⟩
theorem Pj(H:cV X)(hS:m.get S=.cells [r,v] 258 none)(hF:cJ m l r)(hP:cF (bR l))(ha:(cM (bR l) a.id).isSome=false):
  ∃m' b,CP X (.func 251) [ptrTo S,a.v w] m b m'/\S<=b/\jx S v m m':=by
 have g0:=M.aL hS;refine CP.of H (R:=λm' b=>S<=b/\jx S v m m') (H.no _ rfl) Mr rfl rfl ?_;rw[VZ];dsimp only[aI,δ,ε,ς,φ,ψ,dA];refine au λm1 e0 a0 b0=>?_;have F:Ext m m1:=⟨by omega,b0⟩
 have g1:m1.get m.n=.cells (a.c w) 91 none:=a0;refine .inl ?_;refine ai aW (ai (eX g1).2.1 ?_);obtain⟨m5,b5,d0,rfl,h5⟩:=JX (id:=a.id) H (F.cells hS) (hF.aD F) hP (by rw[xB];exact ha);exact .inl ⟨_,_,d0,by omega,(jx.of F).trans h5.xL⟩
theorem SY(hX:cV X){ns:List Mk}(hS:m.get S=.cells [r,v] 258 none)(hF:cJ m l r)(hM:jU n1 m ms v)(hl:ms.length < 1000)(d0:n1<=S)(ha:lx ms a.id false=some ns):
  ∃m' b,C X (.func 282) [ptrTo S,a.v w] m b (aO []) m'/\n1<=b/\zu S v m (bR l) ns m':=by
 have l0:=M.aL hS;have key:=Cl.gen (E:=TE) (X:=X) (f:=282) (args:=[ptrTo S,a.v w]) (m:=m) (R:=λrv m' b=>rv=aO []/\n1<=b/\zu S v m (bR l) ns m') (hX.no _ rfl) Mm rfl ?_
 ·obtain⟨rv,m',b,hc,rfl,h⟩:=key;exact⟨m',b,hc,h⟩
 rw[Yo];dsimp only[aI,δ,ε,ς,φ,ψ];refine au λm1 k0 e0 g0=>?_;have F:Ext m m1:=⟨by omega,g0⟩
 have g1:m1.get m.n=.cells (a.c w) 91 none:=e0;have gS:=F.cells hS;have H:=hM.aD F;refine ai aW (ai (eX g1).2.1 ?_);obtain⟨m5,b5,h0,o0,⟨aa,n,k,hv,q0⟩,i0,a0,b0⟩:=AW (id:=a.id) hX gS H hl d0 ha;refine az h0 ?_;obtain⟨-,cs,g,j0⟩:=hM.QI aa n k hv;have r0:=M.aL j0;exact .inr ⟨.inr (by omega),rfl,by omega,r,v,l,i0,rfl,(hF.aD F).yY b0 H gS,a0,(jx.of F).trans b0⟩
theorem Pg(H:cV X)(hS:m.get S=.cells [r,v] 258 none)(hM:Sl m ms v)(hl:ms.length < 1000)(ha:lx ms a.id false=none):
  ∃m' b,CP X (.func 282) [ptrTo S,a.v w] m b m'/\S<=b/\jx S v m m':=by
 have g0:=M.aL hS;refine CP.of H (R:=λm' b=>S<=b/\jx S v m m') (H.no _ rfl) Mm rfl rfl ?_;rw[VV];dsimp only[aI,δ,ε,ς,φ,ψ,dA];refine au λm1 e0 a0 b0=>?_;have F:Ext m m1:=⟨by omega,b0⟩
 have g1:m1.get m.n=.cells (a.c w) 91 none:=a0;refine ai aW (ai (eX g1).2.1 ?_);obtain⟨m5,b5,d0,rfl,h5⟩:=yD (id:=a.id) H (F.cells hS) (hM.aD F) hl ha;exact .inl ⟨_,_,d0,by omega,(jx.of F).trans h5.xL⟩
theorem SW(hX:cV X){ns:List Mk}(hS:m.get S=.cells [r,v] 258 none)(hF:cJ m l r)(hM:jU n1 m ms v)(hl:ms.length < 1000)(d0:n1<=S)(ha:lx ms a.id true=some ns):
  ∃m' b,C X (.func 285) [ptrTo S,a.v w] m b (aO []) m'/\n1<=b/\zu S v m (bR l) ns m':=by
 have l0:=M.aL hS;have key:=Cl.gen (E:=TE) (X:=X) (f:=285) (args:=[ptrTo S,a.v w]) (m:=m) (R:=λrv m' b=>rv=aO []/\n1<=b/\zu S v m (bR l) ns m') (hX.no _ rfl) Mj rfl ?_
 ·obtain⟨rv,m',b,hc,rfl,h⟩:=key;exact⟨m',b,hc,h⟩
 rw[Ym];dsimp only[aI,δ,ε,ς,φ,ψ];refine au λm1 k0 e0 g0=>?_;have F:Ext m m1:=⟨by omega,g0⟩
 have g1:m1.get m.n=.cells (a.c w) 91 none:=e0;have gS:=F.cells hS;have H:=hM.aD F;refine ai aW (ai (eX g1).2.1 ?_);obtain⟨m5,b5,h0,o0,⟨aa,n,k,hv,q0⟩,i0,a0,b0⟩:=AW (id:=a.id) hX gS H hl d0 ha;refine az h0 ?_;obtain⟨-,cs,g,j0⟩:=hM.QI aa n k hv;have r0:=M.aL j0;exact .inr ⟨.inr (by omega),rfl,by omega,r,v,l,i0,rfl,(hF.aD F).yY b0 H gS,a0,(jx.of F).trans b0⟩
theorem Pf(H:cV X)(hS:m.get S=.cells [r,v] 258 none)(hM:Sl m ms v)(hl:ms.length < 1000)(ha:lx ms a.id true=none):
  ∃m' b,CP X (.func 285) [ptrTo S,a.v w] m b m'/\S<=b/\jx S v m m':=by
 have g0:=M.aL hS;refine CP.of H (R:=λm' b=>S<=b/\jx S v m m') (H.no _ rfl) Mj rfl rfl ?_;rw[VT];dsimp only[aI,δ,ε,ς,φ,ψ,dA];refine au λm1 e0 a0 b0=>?_;have F:Ext m m1:=⟨by omega,b0⟩
 have g1:m1.get m.n=.cells (a.c w) 91 none:=a0;refine ai aW (ai (eX g1).2.1 ?_);obtain⟨m5,b5,d0,rfl,h5⟩:=yD (id:=a.id) H (F.cells hS) (hM.aD F) hl ha;exact .inl ⟨_,_,d0,by omega,(jx.of F).trans h5.xL⟩
end
theorem BL(H:cV X)(x:Mk)(id:Int):C X (.func 279) [x.v,.int .i64 id] m m.n (.int .i64 (kj x.id id)) m:=by refine Cl.flat (H.no _ rfl) RO rfl rfl ?_;rw[Yq];dsimp only[aI,δ,ε,ς,φ,ψ];refine au λm1 a0 F b0=>?_;have F:m1.get m.n=.cells x.c 89 none:=F;unfold ptrTo;refine ai cH (ai (zO F).1 ?_);refine az (qD H _ _) ?_;exact⟨rfl,by omega⟩
theorem DV{ms:List Mk}{x:Mk}(F:ms.Pairwise λa b=>a.id < b.id)(h:∀y∈ms,y.id≠x.id):ms.take (gJ (λy:Mk=>y.id) ms x.id)++x::ms.drop (gJ (λy:Mk=>y.id) ms x.id)=mu ms x:=by
 obtain⟨H,h2⟩:=vv (key:=λy:Mk=>y.id) (id:=x.id) F
 rw[H,h2]
 unfold mu
 congr 2
 apply adr
 intro y hy
 have:=h y hy
 rw[decide_eq_decide]
 omega
section
variable {n1 S:Nat} {l:List UW} {ms:List Mk} {r v w:aed} {a:Ac}
theorem SZ(hX:cV X)(hI:me X)(hS:m.get S=.cells [r,v] 258 none)(hF:cJ m l r)(hM:jU n1 m ms v)(hl:ms.length < 400)(b0:ms.Pairwise λa b=>a.id < b.id)(H0:n1<=S)(ha:(ms.any λy=>decide (y.id=a.jL.id))=false):
  ∃m' b,C X (.func 277) [ptrTo S,a.v w] m b (aO []) m'/\n1<=b/\zu S v m (bR l) (mu ms a.jL) m':=by
 have I0:=M.aL hS;have key:=Cl.gen (E:=TE) (X:=X) (f:=277) (args:=[ptrTo S,a.v w]) (m:=m) (R:=λrv m' b=>rv=aO []/\n1<=b/\zu S v m (bR l) (mu ms a.jL) m') (hX.no _ rfl) Mo rfl ?_
 ·obtain⟨rv,m',b,hc,rfl,h⟩:=key;exact⟨m',b,hc,h⟩
 rw[Yr];dsimp only[aI,δ,ε,ι,ν,ξ,ο,ς,φ,ψ];refine au λm1 C0 r0 s0=>?_;have a0:Ext m m1:=⟨by omega,s0⟩
 have g1:m1.get m.n=.cells (a.c w) 91 none:=r0;have gS:=a0.cells hS;have j0:=hM.aD a0;unfold ptrTo;refine ai bT (ai bL ?_);refine ai bX (ai (rH gS) ?_);refine ai dW (ai cH ?_);refine ai (eX g1).2.2.2.2.1 ?_
 refine az (nm (m:=m1) (fi:= #[]) (ca:= #[]) eU (hX.no _ rfl) Mn rfl M9 (l:=ms) (key:=λx:Mk=>x.id) hl j0.sl b0 λx hx cs hr=>by obtain rfl:cs=x.c:=hr;exact BL hX x a.jL.id) ?_
 refine ai (v:=.int .i64 (gJ (λx:Mk=>x.id) ms a.jL.id:Nat)) rfl ?_;refine ai (v:=.bool (ms.any λx=>decide (x.id=a.jL.id))) rfl ?_;rw[ha,bM,ae,aau];refine az (jr hX) ?_;refine ai bT (ai bL ?_);refine ai bX (ai (rH gS) ?_);refine ai dW (ai (AA g1) ?_);rw[KA,aE];have H:Ext m1 (m1.push (.cells a.jL.c 89 none)):=Ext.refl.push;generalize k0:m1.push (.cells a.jL.c 89 none)=u0 at H;have v0:u0.get m1.n=.cells a.jL.c 89 none:=by rw[<-k0];exact M.bJ
 have d0:=j0.aD H;have e0:=H.cells gS;have D0:=H.n;obtain⟨rv,z0,J0,l0,E0,F,F0,g0⟩:=Lh hI (i:=gJ (λx:Mk=>x.id) ms a.jL.id) (x:=a.jL) d0 Fi (by omega) v0 (by omega);refine az l0 ?_;refine ai bT (ai bL ?_);refine ai bX ?_
 have h0:z0.get S=.cells [r,v] 258 none:=by rw[g0 S (by omega) (λa n k e e2=>by obtain⟨-,K0,g',h1⟩:=d0.QI a n k e;rw[<-e2,e0]at h1;cases h1),e0]
 refine bW JQ h0 (by rw[F.sl.cells];rfl) (by rw[F.sl.cells];show 0+0+1+1<=2;decide) (by rw[F.sl.cells];simp[F.sl.one]) λm32 G0 o0 i0=>?_;have A0:m32.get S=.cells [r,rv] 258 none:=by rw[o0,F.sl.cells];rfl
 rw[DV b0 (λy hy e=>by have:=abF.1 ha y hy;exact this (aaX e))]at F
 have q0:jx S v m1 m32:=⟨by omega,λc hc B0 hv=>by rw[i0 c B0,g0 c (by omega) hv,H.get c hc]⟩
 refine .inr ⟨.inr (by omega),rfl,by omega,r,rv,l,A0,rfl,(hF.aD a0).yY q0 j0 gS,F.sl.bH λc cs t g hc ht=>?_,(jx.of a0).trans q0⟩;have ht:t=89:=by simpa[aP.ty,aP.fx]using ht
 subst ht;rw[i0 c (λe=>by subst e;rw[h0]at hc;cases hc),hc]
theorem Ph(hX:cV X)(hS:m.get S=.cells [r,v] 258 none)(hM:Sl m ms v)(hl:ms.length < 400)(H:ms.Pairwise λa b=>a.id < b.id)(ha:(ms.any λy=>decide (y.id=a.jL.id))=true):
  ∃m' b,CP X (.func 277) [ptrTo S,a.v w] m b m'/\S<=b/\jx S v m m':=by
 have g0:=M.aL hS;refine CP.of hX (R:=λm' b=>S<=b/\jx S v m m') (hX.no _ rfl) Mo rfl rfl ?_;rw[VW];dsimp only[aI,δ,ε,ξ,ο,ς,φ,ψ,dA];refine au λm1 e0 a0 b0=>?_;have F:Ext m m1:=⟨by omega,b0⟩
 have g1:m1.get m.n=.cells (a.c w) 91 none:=a0;have gS:=F.cells hS;have d0:=hM.aD F;unfold ptrTo;refine .inr ?_;refine ai bT (ai bL ?_);refine ai bX (ai (rH gS) ?_);refine ai dW (ai cH ?_);refine ai (eX g1).2.2.2.2.1 ?_
 refine az (nm (m:=m1) (fi:= #[]) (ca:= #[]) eU (hX.no _ rfl) Mn rfl M9 (l:=ms) (key:=λx:Mk=>x.id) hl d0 H λx hx cs hr=>by obtain rfl:cs=x.c:=hr;exact BL hX x a.jL.id) ?_
 refine ai (v:=.int .i64 (gJ (λx:Mk=>x.id) ms a.jL.id:Nat)) rfl ?_;refine ai (v:=.bool (ms.any λx=>decide (x.id=a.jL.id))) rfl ?_;refine .inl ?_;rw[ha,bM,ae,aal];exact .inl ⟨_,_,ke,by omega,.of F⟩
end
end
section
section
variable {W:Words}{x0 x1 x2 x3 x4 x5 x6 x7:aed}{m:M}{R RP:aee->M->Nat->Prop}{CP:Fn->aee->M->(M->Nat->Prop)->Prop}
theorem Yd:dm TE W Tryz.f326 [x0,x1,x2] m R=W.jn (λa=>ψ W 157 [x0] m λb c d=>ο W .not b λb=>bD b (a [aeh] c (min m.n d)) (κ W c .max [3,3] [x1,x2] λb _=>η W .gtr 3 b (χ 40) λb=>bD b (a [aeh] c (min m.n d)) (κ W c .min [3,3] [x1,x2] λb _=>η W .lss 3 b (χ (-40)) λb=>a [b] c (min m.n d)))) (λa b c=>W.un a λa _=>bD a (R [aeg,χ 70] b c) (ψ W 155 [x0] b λa b d=>κ W b .len [45] [a] λf _=>W.Lp (λb c d g=>W.un c λc _=>η W .lss 3 c f λf=>bD f (ζ W 45 a c λf=>ε W 98 f 0 λf=>δ W d 3 f λf=>η W .add 3 f x1 λf=>ζ W 45 a c λh=>ε W 98 h 0 λh=>ι W d 3 h f λd f=>ζ W 45 a c λh=>ε W 98 h 1 λh=>δ W d 3 h λh=>η W .add 3 h x2 λh=>ζ W 45 a c λa=>ε W 98 a 1 λa=>ι W d 3 a h λa d=>η W .add 3 c (χ 1) λc=>b [c] a (min (min g f) d)) (ψ W 211 [a,.func (.func 212) #[] #[]] d λb c d=>bD b (R [aeg,χ 70] c (min g d)) (R [a,χ 0] c (min g d)))) [χ 0] b (min c d))):=by kernel_rfl
theorem Yw:dm TE W Tryz.f269 [x0,x1,x2] m R=ς W m x0 87 λa=>υ W a [χ 0,χ 0,χ 0,aeg,χ 0,χ 0] 87 λb=>ε W 87 (φ m) 3 λc=>δ W b 45 c λc=>ψ W 326 [c,x1,x2] b λb c d=>ξ W b 0 λf=>ξ W b 1 λb=>W.jn (λa=>η W .neq 35 b (χ 0) λb=>bD b (a [aeh] c (min m.n d)) (δ W c 87 (φ m) λb=>ψ W 120 [b] c λb c f=>ο W .not b λb=>a [b] c (min (min m.n d) f))) (λb c d=>W.un b λb _=>bD b (θ W 87 [] λb=>ι W c 87 (φ a) b λb c=>aj (ah TE b 87 (φ a)) λa=>R [a,χ 80] b (min d c)) (ε W 87 (φ m) 3 λb=>ι W c 45 b f λb c=>δ W b 87 (φ m) λf=>ι W b 87 (φ a) f λb f=>aj (ah TE b 87 (φ a)) λa=>R [a,χ 0] b (min (min d c) f))):=by kernel_rfl
end
end
section
variable {X:aG} {m:M}
def og(f:Pl->Pl)(l:List Pl)(i:Nat):List Pl:=(l.take i).map f++l.drop i
theorem Oi{f:Pl->Pl}{l:List Pl}{i:Nat}{p:Pl}(h:l[i]?=some p):(og f l i)[i]?=some p:=by have hi:=(Ω.1 h).1;unfold og;rw[aa1 (by simp;omega)];simp only[aaB,aap,aaW];rw[show i+(i-min i l.length)=i by omega,h]
theorem KN{f:Pl->Pl}{l:List Pl}{i:Nat}(h:i<=l.length):(og f l i).length=l.length:=by unfold og;simp;omega
theorem Hv{f:Pl->Pl}{l:List Pl}{i:Nat}{p:Pl}(h:l[i]?=some p):(og f l i).set i (f p)=og f l (i+1):=by
 have hi:=(Ω.1 h).1
 unfold og
 rw[ac4 (h:=by simp;omega)]
 simp only[aaB,aap]
 rw[show i-min i l.length=0 by omega,abo,h,acx,abh,aa7]
 congr 1
 rw[ab6 hi,adm]
 rfl
def Uh(m:M)(l:List Pl)(H dy:Int)(rv:aed):Prop:=
 if(l.map (Pl.mv H dy)).any Pl.off=true then rv=.tuple #[.slice none 0 0,.int .i64 70]else∃F,rv=.tuple #[F,.int .i64 0]/\Sl m (l.map (Pl.mv H dy)) F/\∃a n c,F=.slice (some a) n c
theorem Kp(hX:cV X){l:List Pl}{v:aed}(hl:Sl m l v)(hv:bI l=true){F H:Int}(F0: -40<=F/\F<=40)(G0: -40<=H/\H<=40):
  ∃rv m',C X (.func 326) [v,.int .i64 F,.int .i64 H] m m.n rv m'/\Ext m m'/\Uh m' l F H rv:=by
 have hlen:=cx hv;have j0:l≠ []:=by rintro rfl;simp at hlen
 have key:∃rv m' b,C X (.func 326) [v,.int .i64 F,.int .i64 H] m b rv m'/\b=m.n/\Ext m m'/\Uh m' l F H rv:=by
  refine Cl.gen (R:=λrv m' b=>b=m.n/\Ext m m'/\Uh m' l F H rv) (hX.no _ rfl) RA rfl ?_;rw[Yd];dsimp only[aI,δ,ε,ζ,η,ι,κ,ο,χ,ψ];refine cG (λvs mm lo=>vs=[aei]/\m=mm/\m.n<=lo) (λR hR=>?_) ?_
  ·refine az (iJ hX hl (by omega)) ?_;rw[hv,bM,ae,an,aal,aM,lJ,aE,dq,ae,an,aat (by omega),aM,iQ,aE,aX,ae,aat (by omega)];exact hR _ _ _ ⟨rfl,rfl,by omega⟩
  rintro _ _ H0 ⟨rfl,rfl,D0⟩;rw[aH,an,aM];obtain⟨v',m2,hc,o0,hx⟩:=ij hX hl j0 (by omega);refine az hc ?_;have I0:=hx.n;rcases o0 with⟨_,rfl⟩ |⟨b,cs,rfl,E0,J0,hg,q0,r0⟩;·exact absurd rfl j0
  obtain rfl:cs=nR l:=DE q0 r0;have s0:og (Pl.mv F H) l 0=l:=by unfold og;simp
  have h0:∀mm:M,av TE mm .len [45] [aec b 0 l.length l.length]=some (.int .i64 l.length,mm):=λmm=>KY;rw[h0,aE];refine Lp.intro (γ:=Nat) (λi=>l.length-i) (λi vs m1 lo=>vs=[.int .i64 i]/\i<=l.length/\Ext m m1/\m1.get b=.cells (nR (og (Pl.mv F H) l i)) 98 (some 2)/\m.n<=lo) 0 ⟨rfl,aaQ _,hx,by rw[s0];exact hg,by omega⟩ ?_;rintro i vs m1 K0 ⟨rfl,hi,i0,d0,L0⟩;have M0:=i0.n;rw[aH,aX,ae,an];refine aq (λb0=>?_) (λu0=>?_)
  ·have b0:i < l.length:=by simpa using b0
   obtain⟨p,hp⟩:∃p,l[i]?=some p:=⟨_,Φ b0⟩
   have N0:=Pl.on (kF hv p (aac hp));have k0:=Oi (f:=Pl.mv F H) hp;have a0:=KN (f:=Pl.mv F H) (l:=l) (i:=i) (by omega);simp only[DX b0,ae,cf,ck,abC];rw[cd,aF d0,Fk k0,ae,aQ,ae,wrap64 (by omega) (by omega)];refine bW mO d0 rfl (by rw[gD,a0];show i*2+1<=_;omega) rfl λm3 O0 v0 z0=>?_
   have e0:m3.get b=.cells (nR ((og (Pl.mv F H) l i).set i ⟨p.x+F,p.y⟩)) 98 (some 2):=by rw[v0,<-rk _ k0,<-ir (by rw[gD,a0];omega)];rfl
   have g0:((og (Pl.mv F H) l i).set i ⟨p.x+F,p.y⟩)[i]?=some ⟨p.x+F,p.y⟩:=by rw[acs (by rw[a0];exact b0)]
   rw[cd,aF e0,Fj g0,ae];simp only[aQ,ae];rw[wrap64 (x:=p.y+H) (by omega) (by omega)];refine bW mO e0 rfl (by rw[gD,abM,a0];show i*2+1+1<=_;omega) rfl λm4 P0 A0 B0=>?_
   have l0:m4.get b=.cells (nR (og (Pl.mv F H) l (i+1))) 98 (some 2):=by
    rw[A0,<-Hv hp,show Pl.mv F H p=⟨p.x+F,p.y+H⟩from rfl,
     show(og (Pl.mv F H) l i).set i ⟨p.x+F,p.y+H⟩=((og (Pl.mv F H) l i).set i ⟨p.x+F,p.y⟩).set i ⟨p.x+F,p.y+H⟩ by rw[List.set_set],<-vz _ g0,<-ir (by rw[gD,abM,a0];omega)];rfl
   rw[wrap64 (by omega) (by omega)];exact⟨i+1,by omega,by simp,by omega,⟨by omega,λc hc=>by rw[B0 c (by omega),z0 c (by omega),i0.get c hc]⟩,l0,by omega⟩
  have C0:i=l.length:=by
   have:¬(i:Int)< (l.length:Int):=by simpa using u0
   omega
  have hm:og (Pl.mv F H) l i=l.map (Pl.mv F H):=by unfold og;rw[C0,abB,acS,abk]
  rw[hm]at d0;have hs:=zF (c:=l.length) d0;rw[aaB]at hs;refine az (lX hX Pl.off (by rw[aaB];omega) hs λx _=>BX hX x) ?_;rw[an];refine aq (λho=>?_) (λho=>?_)
  ·refine .inl ⟨rfl,by omega,rfl,.refl,?_⟩;unfold Uh;rw[aaf ho];rfl
  refine .inr ⟨.inl (by simp[aO,bP,gI,cy]),by omega,i0,?_⟩;unfold Uh;rw[aaa (by rw[ho];decide)];exact⟨_,rfl,hs,_,_,_,rfl⟩
 obtain⟨rv,m',b,hc,rfl,h1,h2⟩:=key;exact⟨rv,m',hc,h1,h2⟩
def TN(m:M)(u:Un)(F H:Int)(rv:aed):Prop:=
 if(u.mv F H).shape.any Pl.off=true then rv=.tuple #[.agg Un.zc.toArray,.int .i64 80]else∃w',rv=.tuple #[(u.mv F H).v w',.int .i64 0]/\Sl m (u.mv F H).shape w'/\∃a n c,w'=.slice (some a) n c
theorem AP(hX:cV X){u:Un}{w:aed}(hw:Sl m u.shape w)(hu:lq u=true){F H:Int}(u0: -40<=F/\F<=40)(v0: -40<=H/\H<=40):
  ∃rv m',C X (.func 269) [u.v w,.int .i64 F,.int .i64 H] m m.n rv m'/\Ext m m'/\TN m' u F H rv:=by
 have hv:=dP hu;have hlen:=cx hv
 have key:∃rv m' b,C X (.func 269) [u.v w,.int .i64 F,.int .i64 H] m b rv m'/\b=m.n/\Ext m m'/\TN m' u F H rv:=by
  refine Cl.gen (R:=λrv m' b=>b=m.n/\Ext m m'/\TN m' u F H rv) (hX.no _ rfl) RV rfl ?_;rw[Yw];dsimp only[aI,δ,ε,η,θ,ι,ξ,ο,ς,υ,φ,χ,ψ];refine au λm1 J0 i0 z0=>?_;refine au λm2 K0 A0 l0=>?_;have i0:m1.get m.n=.cells (u.c w) 87 none:=i0;have j0:Ext m m2:=⟨by omega,λc hc=>by rw[l0 c (by omega),z0 c hc]⟩
  have g1:m2.get m.n=.cells (u.c w) 87 none:=by rw[l0 _ (by omega),i0]
  obtain⟨-, -, -,l3, -, -⟩:=pV g1;unfold ptrTo;rw[bA,ae,l3,ae];obtain⟨rv,m6,B0,a0,b0⟩:=Kp (m:=m2) hX (hw.aD j0) hv u0 v0;refine az B0 ?_;have n6:=a0.n;have g16:=a0.cells g1;have k0:m6.get m1.n=.cells Un.zc 87 none:=by rw[a0.get _ (by omega),A0]
  have o0:=j0.trans a0;unfold Uh at b0;by_cases ho:(u.shape.map (Pl.mv F H)).any Pl.off=true
  ·rw[aaf ho]at b0;subst b0;rw[cp,cp];simp only[aad,aah,ae];refine cG (λvs mm lo=>vs=[aeh]/\m6=mm/\m.n<=lo) (λR hR=>?_) ?_
   ·rw[da,ae,an,show(!(decide ((70:Int)=0)))=true from rfl,bU];exact hR _ _ _ ⟨rfl,rfl,by omega⟩
   rintro _ _ lo ⟨rfl,rfl,C0⟩;have D0:aR TE 87 []=some (.agg Un.zc.toArray):=zn;rw[aH,an,bU,D0,ae];refine aC ep k0 rfl rfl rfl λm9 L0 E0 M0=>?_;rw[rE,aJ E0 (by simp[bB])];refine .inl ⟨by kernel_rfl,by omega,trivial,.refl,?_⟩;unfold TN;rw[aaf (show(u.mv F H).shape.any Pl.off=true from ho)];rfl
  rw[aaa ho]at b0;obtain⟨v',rfl,F0,a,n,c,rfl⟩:=b0;rw[cp,cp];simp only[aad,aah,ae];refine cG (λvs mm lo=>vs=[aei]/\m6=mm/\m.n<=lo) (λR hR=>?_) ?_
  ·rw[da,ae,an,show(!(decide ((0:Int)=0)))=false from rfl,aM,cg g16,ae];refine az (kl hX ((hw.aD j0).aD a0) (by omega)) ?_;rw[hu,bM,ae];exact hR _ _ _ ⟨rfl,rfl,by omega⟩
  rintro _ _ lo ⟨rfl,rfl,C0⟩;rw[aH,an,aM];refine bW kG g16 rfl (by show 3+1<=6;omega) rfl λq0 H0 d0 e0=>?_;have d0:q0.get m.n=.cells ((u.mv F H).c (.slice (some a) n c)) 87 none:=by rw[d0];rfl
  rw[cg d0,ae];have r0:q0.get m1.n=.cells Un.zc 87 none:=by rw[e0 _ (by omega),k0]
  refine aC ep r0 rfl rfl (Un.eN rfl) λs0 I0 g0 h0=>?_;have g0:s0.get m1.n=.cells ((u.mv F H).c (.slice (some a) n c)) 87 none:=g0;rw[cg g0,ae]
  have G0:Sl s0 (u.shape.map (Pl.mv F H)) (.slice (some a) n c):=F0.bH λb cs t g hb ht=>by
   have h1:b≠m.n:=λe=>by subst e;rw[g16]at hb;cases hb;simp[aP.ty,aP.fx]at ht
   rw[h0 b (λe=>by subst e;rw[k0]at hb;cases hb;simp[aP.ty,aP.fx]at ht),e0 b h1,hb]
  refine .inr ⟨.inl (by simp[aO,bP,gI,cy,Un.c]),by omega,⟨by omega,λc hc=>by rw[h0 c (by omega),e0 c (by omega),o0.get c hc]⟩,?_⟩;unfold TN;rw[aaa (show¬(u.mv F H).shape.any Pl.off=true from ho)];exact⟨_,rfl,G0,_,_,_,rfl⟩
 obtain⟨rv,m',b,hc,rfl,h1,h2⟩:=key;exact⟨rv,m',hc,h1,h2⟩
theorem rL{us:List Un}{id:Int}{u:Un}(h:cM us id=some u):us.any (λu=>decide (u.id=id))=true:=by rw[xB,h];rfl
section
variable {n1 S:Nat} {l:List UW} {ms:List Mk} {r v w:aed} {a:Ac}
theorem Ta(hX:cV X)(hI:me X)(hS:m.get S=.cells [r,v] 258 none)(hF:cJ m l r)(hP:cF (bR l))(hM:jU n1 m ms v)(U0:n1<=S){u x:Un}{vs:List Un}(hu:cM (bR l) a.id=some u)
  (hi: -40<=a.i/\a.i<=40) (hk: -40<=a.k/\a.k<=40) (hx:DO u a.i a.k=some x) (ha:iY (jH (bR l) a.id) x=some vs):
  ∃m' b,C X (.func 268) [ptrTo S,a.v w] m b (aO []) m'/\n1<=b/\zu S v m vs ms m':=by
 have V0:=M.aL hS;have key:=Cl.gen (E:=TE) (X:=X) (f:=268) (args:=[ptrTo S,a.v w]) (m:=m) (R:=λrv m' b=>rv=aO []/\n1<=b/\zu S v m vs ms m') (hX.no _ rfl) Ed rfl ?_
 ·obtain⟨rv,m',b,hc,rfl,h⟩:=key;exact⟨m',b,hc,h⟩
 unfold iY at ha;split at ha;case isFalse=>cases ha
 case isTrue G0=>
 cases ha;have l0:=hP.val u (eW hu).1;have hlen:=cx (dP l0);unfold DO at hx;split at hx;case isTrue=>cases hx
 case isFalse o0=>
 cases hx;rw[Yx];dsimp only[aI,δ,ε,η,ι,ξ,ς,υ,φ,χ,ψ];refine au λm1 P0 H0 I0=>?_;have H:Ext m m1:=⟨by omega,I0⟩
 have g1:m1.get m.n=.cells (a.c w) 91 none:=H0;have gS:=H.cells hS;have J0:=hM.aD H;refine ai aW (ai (eX g1).2.1 ?_);obtain⟨w5,m5,K0,i0,L0⟩:=AV (id:=a.id) hX gS (hF.aD H) hP hu;refine az K0 ?_;have Q0:=i0.n;refine⟨Ξ _,?_⟩;have g5:=i0.cells g1;refine ai cn (ai (eX g5).2.2.1 ?_);refine ai cq (ai (eX g5).2.2.2.1 ?_);obtain⟨rv,q0,r0,e0,j0⟩:=AP (m:=m5) hX L0 l0 hi hk;refine az r0 ?_;have M0:=e0.n;refine⟨Ξ _,?_⟩;unfold TN at j0;rw[aaa o0]at j0;obtain⟨w',rfl,s0, -⟩:=j0;refine ai (v:=(u.mv a.i a.k).v w') rfl ?_;refine ai (v:=.int .i64 0) rfl ?_;refine au λX0 S0 u0 v0=>?_;refine aC ep u0 rfl rfl (Un.eN s0.one) λk0 T0 z0 A0=>?_;have g0:Ext q0 k0:=⟨by omega,λc hc=>by rw[A0 c (by omega),v0 c hc]⟩
 have g17:k0.get q0.n=.cells ((u.mv a.i a.k).c w') 87 none:=z0;refine ai (v:=aeh) (by rw[aY];rfl) ?_;refine az (jr hX) ?_;have a0:Ext m1 k0:=(i0.trans e0).trans g0;have ga:=a0.cells g1;have b0:=a0.cells gS;refine ai aW (ai (eX ga).2.1 ?_);obtain⟨N0,B0,r',l',h0,d0,C0,F⟩:=qT (id:=a.id) hX b0 hM.sl.one ((hF.aD H).aD a0) hP (rL hu);refine az B0 ?_;refine ai (cg (F.cells g17 (by omega))) ?_
 have D0:Sl N0 (u.mv a.i a.k).shape w':=(s0.aD g0).bH λb c t g hb ht=>by
  have ht:t=98:=by simpa[aP.ty,aP.fx]using ht
  subst ht;exact F.cells hb λe=>by subst e;rw[b0]at hb;cases hb
 have E0:=(J0.aD a0).rI F b0;obtain⟨Y0,F0,O0⟩:=qX hX hI h0 hM.sl.one C0 (by rw[d0];exact hP.del _) D0 (by show(u.shape.map _).length < _;rw[aaB];omega) (by rw[d0];exact G0);refine az F0 ?_;obtain⟨r2,l2,q1,q2,q3,q4⟩:=O0;refine .inr ⟨.inr (by omega),rfl,by omega,r2,v,l2,q1,by rw[q2,d0],q3,(E0.rI q4 h0).sl,((jx.of (H.trans a0)).trans F.xL).trans q4.xL⟩
theorem FO(hX:cV X)(hI:me X)(hS:m.get S=.cells [r,v] 258 none)(H0:one v=true)(hF:cJ m l r)(hP:cF (bR l))
  (hi: -40<=a.i/\a.i<=40) (hk: -40<=a.k/\a.k<=40) {u:Un} (hu:cM (bR l) a.id=some u) (ha:DO u a.i a.k=none\/∃x,DO u a.i a.k=some x/\iY (jH (bR l) a.id) x=none):
  ∃m' b,CP X (.func 268) [ptrTo S,a.v w] m b m'/\S<=b/\jx S v m m':=by
 have U0:=M.aL hS;refine CP.of hX (R:=λm' b=>S<=b/\jx S v m m') (hX.no _ rfl) Ed rfl rfl ?_;have s0:=hP.val u (eW hu).1;have hlen:=cx (dP s0);rw[Qk];dsimp only[aI,δ,ε,η,ι,ξ,ς,υ,φ,χ,ψ,dA];refine au λm1 S0 I0 J0=>?_;have H:Ext m m1:=⟨by omega,J0⟩
 have g1:m1.get m.n=.cells (a.c w) 91 none:=I0;have gS:=H.cells hS;refine .inr ?_;refine ai aW (ai (eX g1).2.1 ?_);obtain⟨w5,m5,K0,i0,L0⟩:=AV (id:=a.id) hX gS (hF.aD H) hP hu;refine az K0 ?_;have T0:=i0.n;refine⟨Ξ _,?_⟩;have g5:=i0.cells g1;refine ai cn (ai (eX g5).2.2.1 ?_);refine ai cq (ai (eX g5).2.2.2.1 ?_);obtain⟨rv,u0,v0,a0,b0⟩:=AP (m:=m5) hX L0 s0 hi hk;refine az v0 ?_;have M0:=a0.n;refine⟨Ξ _,?_⟩;unfold TN at b0;unfold DO at ha;by_cases k0:(u.mv a.i a.k).shape.any Pl.off=true
 ·rw[aaf k0]at b0;subst b0;refine ai rfl (ai rfl ?_);refine au λN0 z0 d0 e0=>?_;refine aC ep d0 rfl rfl rfl λj0 A0 l0 g0=>?_;refine .inl ?_;refine ai (v:=aei) (by rw[aY];rfl) ?_;exact .inl ⟨_,_,ke,by omega,.of ⟨by omega,λc hc=>by rw[g0 c (by omega),e0 c (by omega),a0.get c (by omega),i0.get c (by omega),H.get c hc]⟩⟩
 rw[aaa k0]at b0 ha;obtain⟨w',rfl,B0, -⟩:=b0;rcases ha with ha |⟨x,hx,ha⟩;·cases ha
 cases hx
 have O0:pE (jH (bR l) a.id) (u.mv a.i a.k)=false:=by
  unfold iY at ha;split at ha;·cases ha
  exact acn.2 ‹¬_›
 refine ai (v:=(u.mv a.i a.k).v w') rfl ?_;refine ai (v:=.int .i64 0) rfl ?_;refine au λN0 z0 d0 e0=>?_;refine aC ep d0 rfl rfl (Un.eN B0.one) λj0 A0 l0 g0=>?_;have o0:Ext u0 j0:=⟨by omega,λc hc=>by rw[g0 c (by omega),e0 c hc]⟩
 have g17:j0.get u0.n=.cells ((u.mv a.i a.k).c w') 87 none:=l0;refine .inr ?_;refine ai (v:=aeh) (by rw[aY];rfl) ?_;refine az (jr hX) ?_;have h0:Ext m1 j0:=(i0.trans a0).trans o0;have ga:=h0.cells g1;have q0:=h0.cells gS;refine .inr ?_;refine ai aW (ai (eX ga).2.1 ?_);obtain⟨P0,C0,r',l',D0,r0,E0,F⟩:=qT (id:=a.id) hX q0 H0 ((hF.aD H).aD h0) hP (rL hu);refine az C0 ?_;refine ai (cg (F.cells g17 (by omega))) ?_
 have F0:Sl P0 (u.mv a.i a.k).shape w':=(B0.aD o0).bH λb c t g hb ht=>by
  have ht:t=98:=by simpa[aP.ty,aP.fx]using ht
  subst ht;exact F.cells hb λe=>by subst e;rw[q0]at hb;cases hb
 obtain⟨V0,X0,G0,rfl,Q0⟩:=qW hX hI D0 E0 (by rw[r0];exact hP.del _) F0 (by show(u.shape.map _).length < _;rw[aaB];omega) (by rw[r0];exact O0);have:=F.1;have:=h0.n;exact .inl ⟨_,_,G0,by omega,((jx.of (H.trans h0)).trans F.xL).trans Q0.xL⟩
end
def KD(us:List Un)(last:Int)(x:Mk):Bool:=match cM us x.un with
 |some u=>zP x && !decide (x.id<=last) && !decide ((u.shape.length:Int)<=x.side)
 |none=>false
theorem qt{ms:List Mk}{i:Nat}{y:Mk}(h:ms[i]?=some y):mo ms (i+1)=y.id:=by show(match ms[i]? with |some x=>x.id |none=> -1)=y.id;rw[h]
theorem BK{us:List Un}{ms:List Mk}(hP:cF us):pF us ms↔ms.length<=20/\∀i x,ms[i]?=some x->KD us (mo ms i) x=true:=by
 constructor
 ·intro h;refine⟨h.len,λi x F=>?_⟩;have d0:=aac F;obtain⟨u,hu,hid,g0⟩:=h.un x d0
  have h0:cM us x.un=some u:=by obtain⟨j,hj⟩:=aaN hu;rw[<-hid];exact oy hP hj
  have e0:=h.ok x d0
  have b0:¬x.id<=mo ms i:=by
   cases i with
   |zero=>have:=e0;unfold zP eA at this;simp only[Ψ,aaC]at this;show¬x.id<= -1;omega
   |succ j=>obtain⟨hi,rfl⟩:=Ω.1 F;have hy:ms[j]?=some ms[j]:=Φ (by omega);rw[qt hy];have:=abH.1 h.IP j (j+1) (by omega) hi (by omega);omega
  unfold KD;have hs:decide ((u.shape.length:Int)<=x.side)=false:=aat (by omega);rw[h0];simp only[e0,aat b0,hs];rfl
 rintro⟨h1,h2⟩
 have H:∀i x,ms[i]?=some x->∃u,cM us x.un=some u/\zP x=true/\¬x.id<=mo ms i/\¬(u.shape.length:Int)<=x.side:=λi x F=>by
  have:=h2 i x F;unfold KD at this;split at this
  ·rename_i u hu;simp only[Ψ,aba,aby]at this;exact⟨u,hu,this.1.1,this.1.2,this.2⟩
  cases this
 have a0:∀i x y,ms[i]?=some x->ms[i+1]?=some y->x.id < y.id:=λi x y F hy=>by obtain⟨u, -, -,h, -⟩:=H _ _ hy;rw[qt F]at h;omega
 have i0:∀d i x y,ms[i]?=some x->ms[i+1+d]?=some y->x.id < y.id:=by
  intro d
  induction d with
  |zero=>exact a0
  |succ d ih=>intro i x y F hy;have hl:=(Ω.1 hy).1;have hz:ms[i+1+d]?=some (ms[i+1+d]'(by omega)):=Φ (by omega);have h1:=ih i x _ F hz;have h2:=a0 (i+1+d) _ y hz hy;omega
 refine⟨h1,abH.2 λi j hi hj j0=>?_,λx F=>?_,λx F=>?_⟩
 ·obtain⟨d,rfl⟩:∃d,j=i+1+d:=⟨j-i-1,by omega⟩
  exact i0 d i _ _ (Φ hi) (Φ hj)
 ·obtain⟨i,hi⟩:=aaN F;obtain⟨u, -,h, -⟩:=H i x hi;exact h
 obtain⟨i,hi⟩:=aaN F;obtain⟨u,hu, -, -,h⟩:=H i x hi;exact⟨u,(eW hu).1,(eW hu).2,by omega⟩
theorem zQ{us:List Un}{ms:List Mk}(F:cF us){i:Nat}{x:Mk}(H:ms[i]?=some x)(h:KD us (mo ms i) x=false):qp us ms=false:=by unfold qp;rw[aby,BK F];rintro⟨-,h2⟩;rw[h2 i x H]at h;cases h
theorem DQ{us:List Un}{ms:List Mk}(F:cF us)(h:∀i x,ms[i]?=some x->KD us (mo ms i) x=true):qp us ms=decide (ms.length<=20):=by unfold qp;rw[decide_eq_decide,BK F];exact⟨λh=>h.1,λH=>⟨H,h⟩⟩
theorem xX.Xw{o:Option Un}{v:aed}(h:xX m o v):(cells v).length=6/\(cells v).all one=true:=by
 cases o with
 |none=>obtain rfl:v=_:=h;exact⟨rfl,rfl⟩
 |some u=>obtain⟨w,rfl,hw⟩:=h;exact⟨rfl,Un.eN hw.one⟩
set_option maxHeartbeats 1000000 in
theorem vT(hX:cV X){l:List UW}{v vm:aed}{ms:List Mk}(h:cJ m l v)(hP:cF (bR l))(hm:Sl m ms vm)(V0:ms.length < 1000000):C X (.func 156) [.agg #[v,vm]] m m.n (.bool (qp (bR l) ms)) m:=by
 refine Cl.flat (hX.no _ rfl) Mv rfl rfl ?_;rw[Wc];dsimp only[aI,δ,ε,ζ,η,ι,κ,ξ,ο,ς,υ,φ,χ,ψ];refine au λm1 X0 I0 J0=>?_;have g1:m1.get m.n=.cells [v,vm] 60 none:=I0;have h0:Ext m m1:=⟨by omega,J0⟩
 unfold ptrTo;have q0:∀mm:M,mm.get m.n=.cells [v,vm] 60 none->ah TE mm 58 (.pointer (some ⟨m.n,0+1,none⟩))=some vm:=λmm hh=>by rw[pj,aF hh];rfl
 have K0:∀mm:M,mm.get m.n=.cells [v,vm] 60 none->ah TE mm 31 (.pointer (some ⟨m.n,0+0,none⟩))=some (.agg #[v]):=λmm hh=>by rw[dp,aJ (n:=1) hh (by show 0+0+1<=2;decide)];rfl
 refine ai bX (ai (q0 m1 g1) ?_);rw[(hm.aD h0).len eU,aE];refine Lp.nc (γ:=Nat) (λi=>ms.length-i) (λi vs mm lo=>vs=[aei,.int .i64 (mo ms i),.int .i64 i]/\i<=ms.length/\Ext m1 mm/\m.n<=lo/\∀j x,j < i->ms[j]?=some x->KD (bR l) (mo ms j) x=true) 0 ⟨rfl,aaQ _,.refl,Ξ _,λj x hj=>by omega⟩ ?_;rintro i vs mm lo ⟨rfl,hi,hx,L0,r0⟩ P M0;rw[aH,aH,aH,aX,ae,an];have Y0:=hx.n;refine aq (λi0=>?_) (λN0=>?_)
 ·have i0:i < ms.length:=by simpa using i0
  obtain⟨x,j0⟩:∃a,ms[i]?=some a:=⟨_,Φ i0⟩
  obtain⟨q,e1,e2⟩:=((hm.aD h0).aD hx).FY (k:=.i64) j0;refine ai e1 (ai e2 ?_);refine au λa1 Q0 s0 u0=>?_;refine aC AR s0 rfl rfl rfl λk0 S0 v0 z0=>?_;have a0:Ext mm k0:=⟨by omega,λb F=>by rw[z0 b (by omega),u0 b F]⟩
  have l0:k0.get mm.n=.cells x.c 89 none:=v0;have A0:=a0.cells (hx.cells g1);refine ai bK (ai (K0 k0 A0) ?_);refine ai fW (ai (zO l0).2.1 ?_);obtain⟨ov,B0,hc,b0,d0⟩:=uA (m:=k0) hX (h.aD ((h0.trans hx).trans a0)) hP x.un;refine az hc ?_;refine ai (v:=ov) rfl ?_;refine ai (v:=.bool (cM (bR l) x.un).isSome) rfl ?_;refine au λc1 T0 C0 D0=>?_;refine aC ep C0 d0.Xw.1 d0.Xw.1 d0.Xw.2 λo0 U0 E0 F0=>?_;have e0:Ext B0 o0:=⟨by omega,λb F=>by rw[F0 b (by omega),D0 b F]⟩
  have H:=e0.cells (b0.cells l0);have O0:=b0.n;refine cG (λvs m' lo=>vs=[.bool (!KD (bR l) (mo ms i) x)]/\m'=o0/\m.n<=lo) (λR hR=>?_) ?_
  ·rw[bM,ae,an]
   cases g0:cM (bR l) x.un with
   |none=>show Ce true _ _;rw[bU];exact hR _ _ _ ⟨by unfold KD;rw[g0];rfl,rfl,by omega⟩
   |some u=>
    rw[g0]at d0;obtain⟨w,rfl,hw⟩:=d0;have G0:o0.get B0.n=.cells (u.c w) 87 none:=E0;show Ce false _ _;rw[aM];refine ai (zO H).2.2.2.2 ?_;refine az (sQ hX x) ?_;rw[bM,ae,an];refine aq (λF=>?_) (λF=>?_)
    ·refine hR _ _ _ ⟨?_,rfl,by omega⟩;have F:zP x=false:=by simpa using F
     unfold KD;rw[g0];simp only[F,aaz,aau]
    have F:zP x=true:=by simpa using F
    refine ai cH (ai (zO H).1 ?_);rw[dj,ae,an];refine aq (λhc=>?_) (λhc=>?_)
    ·refine hR _ _ _ ⟨?_,rfl,by omega⟩;unfold KD;rw[g0];simp only[hc,aal,aaw,aaz,aau]
    refine ai kX (ai (zO H).2.2.1 ?_);refine ai bA (ai (pV G0).2.2.2.1 ?_);rw[(hw.aD e0).len dS,aE,cO,ae];refine hR _ _ _ ⟨?_,rfl,by omega⟩;unfold KD;rw[g0];simp only[F,hc,aau,aav,aco,ade]
  rintro _ _ nz ⟨rfl,rfl,H0⟩;rw[aH,an];refine aq (λF=>?_) (λF=>?_);·exact⟨by rw[zQ hP j0 (by simpa using F)];rfl,by omega⟩
  refine ai cH (ai (zO H).1 ?_);rw[aQ,ae,wrap64 (by omega) (by omega)];refine M0 (i+1) _ _ _ (by omega) ⟨by rw[qt j0];push_cast;rfl,i0,((hx.trans a0).trans b0).trans e0,H0,λj y hj hy=>?_⟩;by_cases e:j=i
  ·subst e;rw[j0]at hy;cases hy;simpa using F
  exact r0 j y (by omega) hy
 ·have P0:i=ms.length:=by
   have:¬(i:Int)< (ms.length:Int):=abv N0
   omega
  refine ai bX ?_
  refine ai (q0 mm (hx.cells g1)) ?_
  rw[((hm.aD h0).aD hx).len eU,aE,dj,ae]
  refine⟨?_,L0⟩
  rw[DQ hP λj x hx=>r0 j x (by rw[P0];exact(Ω.1 hx).1) hx]
  show Value.bool _=Value.bool _
  congr 1
  rw[decide_eq_decide]
  omega
end
end Go.Proofs.YtmdfgncoekfgdaaGreatDoor
namespace Go.D
open Go
section
variable {P:Program} {σ:Sg} {m m':M} {w w':World}
structure Ui where
 S:Nat
 z:aee
 e:Nat
theorem xY{z:aee}{x:aed}:∀{n},x∈dB z n->x∈z
 |0,h=>by simp[dB]at h
 |n+1,h=>by
  simp only[dB,aaR]at h
  rcases h with h |h
  ·exact h
  ·exact xY h
noncomputable def oh(N:Ui):aG:=λfn args m=>
 match fn with
 |.func f=>
  bif Nat.beq f N.S then
   match args with
   |[.slice none 0 0,.int .i64 n]=>
    if 0 < n/\n < 1000000 then some (.slice (some ⟨m.n,0,none⟩) 0 n.toNat,m.push (.cells (dB N.z n.toNat) N.e (some N.z.length)))else none
   |_=>none
  else none
 |_=>none
structure Qj(P:Program)(N:Ui):Prop where
 FK:∀args w,(callFunc N.S args).run P w=.ok (.enter N.S args) w
 pos:0 < N.z.length
 flat:∀x∈N.z,cy x=true
 go:∀(n:Nat) (w:World),0 < n->n < 1000000->
  Calls P N.S #[.slice none 0 0,.int .i64 n] w λe w'=>(w'.os=w.os/\w'.tape=w.tape/\w'.output=w.output)/\
   ∃(D:Nat) (rest:aee),n<=D/\rest.length=(D-n)*N.z.length/\e=.returned (.slice (some ⟨w.heap.size,0,none⟩) 0 D)/\w'.heap=w.heap.push (.cells (dB N.z n++rest).toArray N.e (0,0))
theorem Ea(N:Ui):fC (oh N):=λfn args m v m' h=>by
 unfold oh at h
 split at h
 ·rename_i f
  cases F:Nat.beq f N.S with
  |false=>rw[F]at h;cases h
  |true=>
   rw[F,cond_true]at h
   split at h
   ·split at h
    ·cases h
     exact LK.push
    ·cases h
   ·cases h
 ·cases h
theorem Lm{N:Ui}(h:Qj P N)(hS:Nat.beq tP N.S=false):cQ P (oh N):=by
 refine⟨λf args m v m' F σ w H hs hl=>?_,λl args m v m' F=>by simp[oh]at F,Ea N,λa m v m' b F=>by unfold oh at F;dsimp only at F;rw[show Nat.beq tP N.S=false from hS]at F;cases F⟩
 unfold oh at F
 dsimp only at F
 cases hf:Nat.beq f N.S with
 |false=>rw[hf]at F;cases F
 |true=>
  obtain rfl:=aab hf;rw[hf,cond_true]at F;refine⟨?_,h.FK H w⟩;refine callsIn_wide.2 ?_;split at F
  ·rename_i n;split at F
   ·rename_i hc;obtain⟨n0,n1⟩:=hc;cases F;obtain⟨k,rfl⟩:∃k:Nat,n=k:=⟨n.toNat,by omega⟩
    simp only[ab8];obtain⟨x1,l1,a0,hv,i0⟩:=hl.cases;obtain⟨x2,l2,rfl,j0,k0⟩:=i0.cases;obtain rfl:=k0.nil_eq;have e1:=hv.aU rfl;subst e1;have e2:=j0.aU rfl;subst e2;have b0:H= #[aeg,.int .i64 k]:=by apply abl;rw[a0]
    subst b0;refine(h.go k w (by omega) (by omega)).mono ?_;rintro en w2 ⟨⟨ho,ht,hu⟩,D,rest,hD,d0,rfl,e0⟩;have g0:bC σ (dB N.z k) (dB N.z k):=bC.Bx λx F=>h.flat x (xY F);obtain⟨g1,g2⟩:=sR (e:=N.e) (k:=N.z.length) (sl:=k) (n:=0) (N:=D) (rest:=rest) (news:=[]) (new':=[]) hs g0 bC.nil (fw _ _) (by simp) h.pos (by omega) hD (by simpa using d0);simp only[abk,abC]at g1;have h0:=g1.trans (Ev.of_heap (w':=w2) g1.mL (by rw[e0];rfl) ho ht hu);refine⟨_,_,rfl,?_,h0⟩;exact .fJ ⟨m.n,0,none⟩ ⟨w.heap.size,some (N.z.length,k*N.z.length,D*N.z.length)⟩ _ _ _ N.z.length (k*N.z.length) (D*N.z.length) (Sg.add_same _ _) rfl rfl (.inr ⟨hD,by simp,by simp⟩)
   cases F
  cases F
end
end Go.D
namespace Go.Proofs.YtmdfgncoekfgdaaGreatDoor
open Go Go.D
section
variable {X:aG} {m:M}
abbrev Eb:Ui:=⟨365,[.int .i64 0,.int .i64 0],98⟩
structure qM(X:aG):Prop where
 grow:∀args m,X (.func 365) args m=oh Eb (.func 365) args m
theorem OP(F:qM X){n:Nat}(h0:0 < n)(h1:n < 1000000):
  C X (.func 365) [aeg,.int .i64 n] m m.n (aec m.n 0 0 n) (m.push (.cells (dB [.int .i64 0,.int .i64 0] n) 98 (some 2))):=
 Cl.known (λl=>by
  rw[F.grow]
  unfold oh
  dsimp only
  rw[show Nat.beq 365 Eb.S=true from rfl,cond_true]
  have H:0 < (n:Int)/\(n:Int)< 1000000:=⟨by omega,by omega⟩
  show(if 0 < (n:Int)/\(n:Int)< 1000000 then _ else _)=_
  rw[aaf H]
  rfl) (by show m.n<=m.n+1;omega) ⟨_,rfl⟩
section
variable {α:Type} [aP α]
theorem lN{T:TypeId}(hT:AF TE T α){b:Nat}{cs:aee}{g:Option Nat}(F:m.get b=.cells cs (aP.ty α) g){k n yl:Nat}{y:aed}{news:aee}
  (e1:iS y=some yl) (e2:first? m (aP.sz α) yl y=some news) (e3:news.length=yl*aP.sz α) (e4:news.all D.one=true) (d0:0 < yl) (a0:k+yl<=n) (e0:n*aP.sz α<=cs.length) (hn:n<=1000000):
  av TE (m.wl m.n) .append [T,T] [aec b 0 k n,y]=some (aec b 0 (k+yl) n,(m.wl m.n).set b (.cells (cs.take (k*aP.sz α)++(news++cs.drop (k*aP.sz α+news.length))) (aP.ty α) g)):=by
 obtain⟨ti,ei,t1,t2,t3,t4,t5,t6⟩:=hT;have g0:=aP.pos (α:=α)
 have hc:(Nat.beq ti.es 0 ||Nat.blt 65536 ei.bytes || !news.all D.one ||Nat.blt 268435456 (k+yl) || !Nat.beq news.length (yl*ti.es) || !fL ei.zero ti.es)=false:=by
  have c1:Nat.beq ti.es 0=false:=by
   cases F:Nat.beq ti.es 0 with
   |false=>rfl
   |true=>have:=aab F;omega
  have c2:Nat.blt 65536 ei.bytes=false:=by
   cases F:Nat.blt 65536 ei.bytes with
   |false=>rfl
   |true=>rw[abZ]at F;omega
  have c3:Nat.blt 268435456 (k+yl)=false:=by
   cases F:Nat.blt 268435456 (k+yl)with
   |false=>rfl
   |true=>rw[abZ]at F;omega
  have c4:Nat.beq news.length (yl*ti.es)=true:=by rw[e3,t3];exact aa4 _
  rw[c1,c2,c3,c4,e4,t3,t6];rfl
 have H:first? (m.wl m.n) ti.es yl y=some news:=by rw[cC,t3];exact e2
 have h1:Nat.ble (k+yl) n=true:=aa3 a0
 have h2:Nat.beq yl 0=false:=by
  cases F:Nat.beq yl 0 with
  |false=>rfl
  |true=>have:=aab F;omega
 have hg:(m.wl m.n).get b=.cells cs (aP.ty α) g:=F;have hle:(k+yl)*aP.sz α<=n*aP.sz α:=aaD _ a0;rw[aao]at hle;have b0:=jm (o:=k*aP.sz α) (vs:=news) hg (by omega) e4;simp only[av,dQ,t1,t2,t4,e1,H];rw[hc,h1];simp only[cond_false,cond_true,h2,t3];rw[bw (a:=⟨b,0,none⟩) rfl,aaq,b0];rfl
end
theorem It(hX:cV X)(hG:qM X){l1 l2:List Pl}{b1 o1 c1 b2 o2 c2 B:Nat}(h1:Sl m l1 (aec b1 o1 l1.length c1))(h2:Sl m l2 (aec b2 o2 l2.length c2))(n1:l1≠ [])(n2:l2≠ [])(q0:l1.length < 1000)(r0:l2.length < 1000)
  (hB:m.get B=.cells [aec b1 o1 l1.length c1,aec b2 o2 l2.length c2] 45 none):
  ∃w m',C X (.func 325) [aec B 0 2 2] m m.n w m'/\Ext m m'/\Ow m.n m' (l1++l2) w:=by
 have p1:0 < l1.length:=adk.2 n1;have p2:0 < l2.length:=adk.2 n2;have d0:=M.aL hB;have key:=Cl.gen (E:=TE) (X:=X) (f:=325) (args:=[aec B 0 2 2]) (m:=m) (R:=λw m' b=>b=m.n/\Ext m m'/\Ow m.n m' (l1++l2) w) (hX.no _ rfl) RB rfl ?_
 ·obtain⟨w,m',b,hc,rfl,h⟩:=key;exact⟨w,m',hc,h⟩
 rw[Ye];dsimp only[aI,δ,ζ,η,κ,χ,ψ];have hlen:∀F:M,av TE F .len [386] [aec B 0 2 2]=some (.int .i64 2,F):=λF=>by kernel_rfl
 have i0:ak TE 386 (aec B 0 2 2) (.int .i64 0)=some (aeb B 0):=by kernel_rfl
 have i1:ak TE 386 (aec B 0 2 2) (.int .i64 1)=some (aeb B 1):=by kernel_rfl
 have e0:∀F:M,F.get B=m.get B->ah TE F 45 (aeb B 0)=some (aec b1 o1 l1.length c1):=λF h=>by rw[kg,aF (h.trans hB)];rfl
 have g0:∀F:M,F.get B=m.get B->ah TE F 45 (aeb B 1)=some (aec b2 o2 l2.length c2):=λF h=>by rw[kg,aF (h.trans hB)];rfl
 rw[hlen,aE];refine Lp.nc (γ:=Nat) (λi=>2-i) (λi vs F lo=>F=m/\lo=m.n/\((i=0/\vs=[.int .i64 0,.int .i64 0])\/(i=1/\vs=[.int .i64 l1.length,.int .i64 1])\/(i=2/\vs=[.int .i64 (l1.length+l2.length:Nat),.int .i64 2]))) 0 ⟨rfl,rfl,.inl ⟨rfl,rfl⟩⟩ ?_;rintro i vs F lo ⟨rfl,rfl,hi⟩ P hP;rcases hi with⟨rfl,rfl⟩ |⟨rfl,rfl⟩ |⟨rfl,rfl⟩
 ·rw[aH,aH,aX,ae,an,aaX (by decide),bU];refine ai i0 (ai (e0 F rfl) ?_);rw[h1.len dS,aE,aQ,ae,wrap64 (by omega) (by omega),aX,ae,an,aat (by omega),aM,aQ,ae,wrap64 (by omega) (by omega)];exact hP 1 _ _ _ (by decide) ⟨rfl,rfl,.inr (.inl ⟨rfl,by rw[Int.zero_add];rfl⟩)⟩
 ·rw[aH,aH,aX,ae,an,aaX (by decide),bU];refine ai i1 (ai (g0 F rfl) ?_);rw[h2.len dS,aE,aQ,ae,wrap64 (by omega) (by omega),aX,ae,an,aat (by omega),aM,aQ,ae,wrap64 (by omega) (by omega)];exact hP 2 _ _ _ (by decide) ⟨rfl,rfl,.inr (.inr ⟨rfl,by push_cast;rfl⟩)⟩
 rw[aH,aH,aX,ae,an,aat (by decide),aM];refine az (OP hG (n:=l1.length+l2.length) (by omega) (by omega)) ?_;obtain⟨q,hq⟩:∃q,q=F.push (.cells (dB [.int .i64 0,.int .i64 0] (l1.length+l2.length)) 98 (some 2)):=⟨_,rfl⟩
 rw[<-hq];have s0:q.n=F.n+1:=by rw[hq];rfl
 have b0:Ext F q:=by rw[hq];exact Ext.refl.push
 have l0:q.get F.n=.cells (dB [.int .i64 0,.int .i64 0] (l1.length+l2.length)) 98 (some 2):=by rw[hq];exact M.bJ
 rw[hlen,aE];obtain⟨w1,a1,a2,a3,a4,a5⟩:=(h1.aD b0).first;have hz:(dB [(.int .i64 0:aed),.int .i64 0] (l1.length+l2.length)).length=(l1.length+l2.length)*2:=fw _ _;have a3:w1.length=l1.length*2:=a3;refine Lp.nc (γ:=Nat) (λi=>2-i) (λi vs H lo=>F.n<=lo/\((i=0/\vs=[aec F.n 0 0 (l1.length+l2.length),.int .i64 0]/\H=q)\/(i=1/\vs=[aec F.n 0 l1.length (l1.length+l2.length),.int .i64 1]/\Ext F H/\∃zs,zs.length=l2.length*2/\H.get F.n=.cells (w1++zs) 98 (some 2))\/(i=2/\vs=[aec F.n 0 (l1.length+l2.length) (l1.length+l2.length),.int .i64 2]/\Ext F H/\∃w2,w2.length=l2.length*2/\H.get F.n=.cells (w1++w2) 98 (some 2)/\∀i x,l2[i]?=some x->aP.rep F x (chunk w2 2 i)))) 0 ⟨by omega,.inl ⟨rfl,rfl,rfl⟩⟩ ?_;rintro i vs H lo ⟨u0,hi⟩ P2 h0
 rcases hi with⟨rfl,rfl,rfl⟩ |⟨rfl,rfl,hx,zs,j0,hg⟩ |⟨rfl,rfl,hx,w2,o0,hg,hr⟩
 ·rw[aH,aH,aX,ae,an,aaX (by decide),bU];refine ai i0 (ai (e0 H (b0.get B d0)) ?_);have a0:=lN (m:=H) xA l0 (k:=0) (n:=l1.length+l2.length) a1 a2 a3 a4 p1 (by omega) (by rw[hz];exact Ξ _) (by omega);rw[a0,aE,aQ,ae,wrap64 (by omega) (by omega)];refine h0 1 _ _ _ (by decide) ⟨by show F.n<=min lo (min H.n F.n);omega,.inr (.inl ⟨rfl,by rw[aaq];rfl,⟨by show F.n<=H.n;omega,λc hc=>?_⟩,(dB [.int .i64 0,.int .i64 0] (l1.length+l2.length)).drop (l1.length*2),?_,?_⟩)⟩;·rw[M.cL (by omega)];exact b0.get c hc
  ·rw[aaK,hz];omega
  rw[M.cY (by show F.n < H.n;omega)];show Ob.cells (_++(w1++List.drop (0*2+w1.length) _)) _ _=_;rw[a3,ab0,aaq];rfl
 ·rw[aH,aH,aX,ae,an,aaX (by decide),bU];refine ai i1 (ai (g0 H (hx.get B d0)) ?_);obtain⟨w2,d1,d2,d3,d4,d5⟩:=(h2.aD hx).first;have d3:w2.length=l2.length*2:=d3;have v0:=M.aL hg;have a0:=lN (m:=H) xA hg (k:=l1.length) (n:=l1.length+l2.length) d1 d2 d3 d4 p2 (by omega) (by rw[aam,a3,j0,<-aao];exact Ξ _) (by omega);rw[a0,aE,aQ,ae,wrap64 (by omega) (by omega)];refine h0 2 _ _ _ (by decide) ⟨by show F.n<=min lo (min H.n F.n);omega,.inr (.inr ⟨rfl,by push_cast;rfl,⟨by show F.n<=H.n;omega,λc hc=>?_⟩,w2,d3,?_,λi x hi=>d5 i x hi⟩)⟩;·rw[M.cL (by omega)];exact hx.get c hc
  rw[M.cY (by show F.n < H.n;omega)];show Ob.cells (List.take (l1.length*2) _++(w2++List.drop (l1.length*2+w2.length) _)) _ _=_;rw[acH a3,abr (by rw[aam,a3,j0,d3];exact Ξ _),abk];rfl
 rw[aH,aH,aX,ae,an,aat (by decide),aM];refine .inr ⟨.inl rfl,by omega,hx,.inr ⟨F.n,w1++w2,by rw[aam];rfl,by rw[aam];omega,Ξ _,hg,by rw[aam,aam,a3,o0,aao];rfl,λi x hi=>?_⟩⟩;by_cases k0:i < l1.length
 ·rw[aa9 k0]at hi;have:=a5 i x hi;show chunk (w1++w2) 2 i=x.c;rw[cN (n:=l1.length) a3 k0];exact this
 rw[aa1 (by omega)]at hi;have:=hr _ x hi;show chunk (w1++w2) 2 i=x.c;rw[cS (n:=l1.length) a3 (by omega)];exact this
theorem Bb{E:Env}{T:TypeId}{ti:TI}{e b n:Nat}{cs:aee}{te:TypeId}{g:Option Nat}(t1:E.ty.get T=some ti)(t2:ti.d=.slice e)(hk:0 < ti.es)(h:m.get b=.cells cs te g)(hg:g=none\/g=some ti.es){o c j k:Nat}(F:n<=c)(H:j<=k)(a0:k<=c)(hj:j < c):
  slice? E m T (aec b o n c) (some (.int .i64 j)) (some (.int .i64 k)) none=some (aec b (o+j*ti.es) (k-j) (c-j)):=by
 have b1:ef n c (some (.int .i64 j)) (some (.int .i64 k)) none=some (j,k,c):=by unfold ef;simp only[gj a0,gj H]
 have e1:Nat.beq ti.es 0=false:=by
  cases hb:Nat.beq ti.es 0 with
  |false=>rfl
  |true=>have:=aab hb;omega
 have e2:Nat.ble n c=true:=aa3 F;have e0:(⟨b,o,none⟩:Addr).add (j*ti.es)=⟨b,o+j*ti.es,none⟩:=bw (a:=⟨b,o,none⟩) rfl _
 have e4:Nat.beq c j=false:=by
  cases hb:Nat.beq c j with
  |false=>rfl
  |true=>have:=aab hb;omega
 rcases hg with rfl |rfl;·simp only[slice?,t1,t2,b1,h,e1,e2,aal,aax,cond_false,e4,e0]
 have e3:Nat.beq ti.es ti.es=true:=aa4 _;simp only[slice?,t1,t2,b1,h,e1,e2,e3,aal,aax,cond_false,cond_true,e4,aaz,e0]
theorem vB{l:List Pl}{a b:Nat}(F:a < l.length):jW l a b≠ []:=by
 unfold jW;split
 ·intro h;have:=congrArg List.length h;rw[aap,aaK]at this;simp at this;omega
 intro h;have:=congrArg List.length h;rw[aam,aaK]at this;simp at this;omega
theorem FR(hX:cV X)(hG:qM X){l:List Pl}{v:aed}{C0 n0:Nat}(ho:Ow n0 m l v)(hl:l.length < 1000)(hC:m.get C0=.cells [v] 45 none){a b:Nat}(ha:a < l.length)(hb:b < l.length):
  ∃w m',C X (.func 324) [.int .i64 a,.int .i64 b,ptrTo C0] m m.n w m'/\Ext m m'/\Ow m.n m' (jW l a b) w:=by
 have key:=Cl.gen (E:=TE) (X:=X) (f:=324) (args:=[.int .i64 a,.int .i64 b,ptrTo C0]) (m:=m) (R:=λw m' b'=>b'=m.n/\Ext m m'/\Ow m.n m' (jW l a b) w) (hX.no _ rfl) RC rfl ?_
 ·obtain⟨w,m',b',hc,rfl,h⟩:=key;exact⟨w,m',hc,h⟩
 rw[Yf];dsimp only[aI,δ,η,ν,χ,ψ];have hs:=ho.sl;rcases ho with⟨-,h0⟩ |⟨B,cs,rfl,h2,h3,h4,h5,h6⟩;·rw[h0]at ha;simp at ha
 have b0:m.get B=.cells cs 98 (some 2):=h4
 have ld:ah TE m 45 (ptrTo C0)=some (aec B 0 l.length l.length):=by unfold ptrTo;rw[kg,aF hC];rfl
 have tT:TE.ty.get 45=some ag.t45:=kG;have fl:∀{q:List Pl} {w:aed} {mm:M},Ow m.n mm q w->q≠ []->bP (aO [w])=false:=λh a0=>h.flat a0;rw[dj,ae,an];refine aq (λF=>?_) (λF=>?_)
 ·have F:a<=b:=by have:=abe F;omega
  refine ai ld ?_;rw[aQ,ae,wrap64 (by omega) (by omega),show(b:Int)+1=((b+1:Nat):Int) by omega];refine ai (Bb tT rfl (by decide) b0 (.inr rfl) (Ξ _) (by omega) (by omega) ha) ?_;have hp:=Sl.part hs (i:=a) (k:=b+1-a) (by omega) (c':=l.length-a)
  have a0:(l.drop a).take (b+1-a)≠ []:=by have:=vB (b:=b) ha;unfold jW at this;rw[aaf F]at this;exact this
  have o0:((l.drop a).take (b+1-a)).length<=1000000:=by rw[aap,aaK];omega
  obtain⟨w,m6,q0,e0,r0⟩:=ij hX hp a0 o0;refine az q0 ?_;refine .inr ⟨.inl (fl e0 a0),by omega,r0,?_⟩;unfold jW;rw[aaf F];exact e0
 have F:¬a<=b:=by have:=abv F;omega
 refine ai ld ?_;obtain⟨a',e1,e2⟩:=lD (o:=0) tT rfl (by decide) b0 (.inr rfl) (Ξ l.length) (j:=a) (by omega);obtain rfl:=e2 ha;refine ai e1 (ai ld ?_);rw[aQ,ae,wrap64 (by omega) (by omega),show(b:Int)+1=((b+1:Nat):Int) by omega];refine ai (GP tT rfl (by decide) b0 (.inr rfl) (Ξ _) (by omega)) ?_;have g0:=Sl.part hs (i:=a) (k:=l.length-a) (by omega) (c':=l.length-a);have i0:=Sl.part hs (i:=0) (k:=b+1) (by omega) (c':=l.length);have q1:(l.drop a).take (l.length-a)=l.drop a:=aa5 (by rw[aaK];exact Ξ _);rw[q1]at g0;rw[aa0,ab0,aaq]at i0;have k1:(l.drop a).length=l.length-a:=aaK;have k2:(l.take (b+1)).length=b+1:=by rw[aap];omega
 have bs:aK TE m 386 2 [(0,aec B (0+a*ag.t45.es) (l.length-a) (l.length-a)),(1,aec B 0 (b+1) l.length)]=
  some (aec m.n 0 2 2,m.push (.cells [aec B (0+a*ag.t45.es) (l.length-a) (l.length-a),aec B 0 (b+1) l.length] 45 none)):=by kernel_rfl
 rw[bs,aE];obtain⟨q,hq⟩:∃q,q=m.push (.cells [aec B (0+a*ag.t45.es) (l.length-a) (l.length-a),aec B 0 (b+1) l.length] 45 none):=⟨_,rfl⟩
 have d0:Ext m q:=by rw[hq];exact Ext.refl.push
 have v0:q.n=m.n+1:=by rw[hq];rfl
 have s0:q.get m.n=.cells [aec B (0+a*ag.t45.es) (l.length-a) (l.length-a),aec B 0 (b+1) l.length] 45 none:=by rw[hq];exact M.bJ
 rw[<-hq];have a0:=vB (b:=b) ha;have u0:jW l a b=l.drop a++l.take (b+1):=by unfold jW;rw[aaa F]
 have hz:∀k (x:List Pl),x.length=k->0 < k->x≠ []:=λk x h1 h2 h3=>by rw[h3]at h1;simp at h1;omega
 obtain⟨w,z0,j0,k0,l0⟩:=It (m:=q) (l1:=l.drop a) (l2:=l.take (b+1)) (B:=m.n) hX hG (by rw[k1];exact g0.aD d0) (by rw[k2];exact i0.aD d0) (hz _ _ k1 (by omega)) (hz _ _ k2 (by omega)) (by rw[k1];omega) (by rw[k2];omega) (by rw[k1,k2];exact s0);refine az j0 ?_;have H:=l0.mono (show m.n<=q.n by omega);rw[<-u0]at H;exact .inr ⟨.inl (fl H a0),by omega,d0.trans k0,H⟩
def EL(m:M)(l:List Pl)(i k:Int)(F:aed)(m':M):Prop:=
 match sZ l i k with
 |none=>F=.tuple #[.slice none 0 0,.slice none 0 0,.int .i64 70]
 |some (p,q)=>∃H w2,F=.tuple #[H,w2,.int .i64 0]/\Ow m.n m' p H/\Ow m.n m' q w2
theorem MR(hX:cV X)(hG:qM X){l:List Pl}{v:aed}{n0:Nat}(ho:Ow n0 m l v)(hl:l.length < 1000)(i k:Int):
  ∃rv m',C X (.func 264) [v,.int .i64 i,.int .i64 k] m m.n rv m'/\Ext m m'/\EL m l i k rv m':=by
 have key:=Cl.gen (E:=TE) (X:=X) (f:=264) (args:=[v,.int .i64 i,.int .i64 k]) (m:=m) (R:=λrv m' b=>b=m.n/\Ext m m'/\EL m l i k rv m') (hX.no _ rfl) RY rfl ?_
 ·obtain⟨rv,m',b,hc,rfl,h⟩:=key;exact⟨rv,m',hc,h⟩
 rw[YA];dsimp only[aI,δ,η,κ,ο,ς,φ,χ,ψ];refine au λm1 B0 q0 r0=>?_;have g0:Ext m m1:=⟨by omega,r0⟩
 have g1:m1.get m.n=.cells [v] 45 none:=by rw[q0,ho.sl.cells]
 have e0:=ho.aD g0;have ld:ah TE m1 45 (ptrTo m.n)=some v:=by unfold ptrTo;rw[kg,aF g1];rfl
 refine cG (λvs m' lo=>vs=[.bool (!(bI l && decide (0<=min i k) && decide (max i k < (l.length:Nat))))]/\m1=m'/\m.n<=lo) (λR hR=>?_) ?_
 ·refine ai ld ?_;refine az (iJ hX e0.sl (by omega)) ?_;rw[bM,ae,an];refine aq (λhv=>?_) (λhv=>?_)
  ·have hv:bI l=false:=by simpa using hv
   exact hR _ _ _ ⟨by rw[hv];rfl,rfl,by omega⟩
  have hv:bI l=true:=by simpa using hv
  rw[iQ,aE,aX,ae,an];refine aq (λh0=>?_) (λh0=>?_)
  ·have h0:min i k < 0:=abe h0;exact hR _ _ _ ⟨by rw[hv,aat (by omega:¬0<=min i k)];rfl,rfl,by omega⟩
  have h0:¬min i k < 0:=abv h0;rw[lJ,aE];refine ai ld ?_;rw[e0.sl.len dS,aE,cO,ae];refine hR _ _ _ ⟨?_,rfl,by omega⟩;rw[hv,aaX (by omega:0<=min i k)];by_cases hm:max i k < (l.length:Nat);·rw[aaX hm,aat (by omega)];rfl
  rw[aat hm,aaX (by omega)];rfl
 rintro _ m2 lo ⟨rfl,rfl,s0⟩;rw[aH,an];refine aq (λhb=>?_) (λhb=>?_)
 ·rw[aba]at hb
  have a0:sZ l i k=none:=by unfold sZ;rw[hb];rfl
  refine .inl ⟨by kernel_rfl,s0,rfl,.refl,?_⟩;unfold EL;rw[a0];rfl
 rw[abI]at hb;have i0:=hb;simp only[Ψ,aaC]at i0;obtain⟨⟨hv,h0⟩,h1⟩:=i0;obtain⟨a,rfl⟩:∃a:Nat,i=a:=⟨i.toNat,by omega⟩
 obtain⟨b,rfl⟩:∃b:Nat,k=b:=⟨k.toNat,by omega⟩
 obtain⟨w1,u0,j0,H,k0⟩:=FR (a:=a) (b:=b) hX hG e0 hl g1 (by omega) (by omega);refine az j0 ?_;have v0:=H.n;obtain⟨w2,C0,l0,b0,o0⟩:=FR (a:=b) (b:=a) hX hG (e0.aD H) hl (H.cells g1) (by omega) (by omega);refine az l0 ?_;have z0:=b0.n;have F:=(k0.aD b0).mono (show m.n<=m1.n by omega);have d0:=o0.mono (show m.n<=u0.n by omega);rw[F.sl.len dS,aE,d0.sl.len dS,aE,iQ,aE,aX,ae,an];have A0:=(g0.trans H).trans b0;refine aq (λh3=>?_) (λh3=>?_)
 ·have h3:=abe h3
  have a0:sZ l a b=none:=by unfold sZ;rw[hb,aav,ab8,ab8,aaa];simp only[Ψ,aaC];omega
  refine .inl ⟨by kernel_rfl,by omega,rfl,.refl,?_⟩;unfold EL;rw[a0];rfl
 have h3:=abv h3
 have a0:sZ l a b=some (jW l a b,jW l b a):=by unfold sZ;rw[hb,aav,ab8,ab8,aaf];simp only[Ψ,aaC];omega
 have hf:bP (aO [w1,w2,.int .i64 0])=false:=by
  rcases F with⟨-,h⟩ |⟨b1,D0,rfl, -⟩;·exact absurd h (vB (by omega))
  rfl
 refine .inr ⟨.inl hf,by omega,A0,?_⟩;unfold EL;rw[a0];exact⟨_,_,rfl,F,d0⟩
theorem MS{l p q:List Pl}{i k:Int}(h:sZ l i k=some (p,q))(H:l.length<=8):p.length<=100/\q.length<=100:=by
 unfold sZ at h;split at h
 ·have F:∀a b,(jW l a b).length<=100:=λa b=>by
   unfold jW;split;·rw[aap,aaK];omega
   rw[aam,aap,aaK];omega
  cases h;exact⟨F _ _,F _ _⟩
 cases h
section
variable {n1 S:Nat} {l:List UW} {ms:List Mk} {r v w:aed} {a:Ac}
theorem Tb(hX:cV X)(hI:me X)(hG:qM X)(hS:m.get S=.cells [r,v] 258 none)(hF:cJ m l r)(hP:cF (bR l))(hM:jU n1 m ms v)(hl:ms.length < 1000)(O1:n1<=S){u:Un}{p q:List Pl}{us vs:List Un}(hu:cM (bR l) a.id=some u)
  (hc:sZ u.shape a.i a.k=some (p,q)) (ha:iY (jH (bR l) a.id) {u with shape:=p}=some us) (A0:iY us {u with shape:=q,id:=a.un.id}=some vs):
  ∃m' b,C X (.func 263) [ptrTo S,a.v w] m b (aO []) m'/\n1<=b/\zu S v m vs (lY ms a.id) m':=by
 have M2:=M.aL hS;have key:=Cl.gen (E:=TE) (X:=X) (f:=263) (args:=[ptrTo S,a.v w]) (m:=m) (R:=λrv m' b=>rv=aO []/\n1<=b/\zu S v m vs (lY ms a.id) m') (hX.no _ rfl) Ee rfl ?_
 ·obtain⟨rv,m',b,hc,rfl,h⟩:=key;exact⟨m',b,hc,h⟩
 obtain⟨P1,rfl,Q1⟩:=jw (hP.del a.id) ha;unfold iY at ha A0;split at ha;case isFalse=>cases ha
 case isTrue S1=>
 split at A0;case isFalse=>cases A0
 case isTrue C0=>
 cases A0;clear ha;have hlen:=cx (dP (hP.val u (eW hu).1));have T1:=cx (dP Q1);have U1:=cx (dP (mK.1 C0).1);rw[YB];dsimp only[aI,δ,ε,η,ι,ξ,ς,υ,φ,χ,ψ];refine au λm1 A2 V1 X1=>?_;have o0:Ext m m1:=⟨by omega,X1⟩
 have g1:m1.get m.n=.cells (a.c w) 91 none:=V1;have gS:=o0.cells hS;have Y1:=hM.aD o0;refine ai aW (ai (eX g1).2.1 ?_);obtain⟨w5,m5,a2,U0,O0⟩:=sv (id:=a.id) hX gS (hF.aD o0) hP hu;refine az a2 ?_;have B2:=U0.n;refine au λm7 N2 c2 d2=>?_;refine aC ep c2 rfl rfl (Un.eN O0.sl.one) λm8 O2 e2 g2=>?_;have g8:m8.get m5.n=.cells (u.c w5) 87 none:=e2;have V0:Ext m5 m8:=⟨by omega,λc hc=>by rw[g2 c (by omega),d2 c hc]⟩
 refine ai (cg g8) ?_;refine au λP2 C2 X0 Y0=>?_;refine aC ep X0 rfl rfl (Un.eN O0.sl.one) λP0 D2 a1 c1=>?_;have g12:P0.get m8.n=.cells (u.c w5) 87 none:=a1;have q0:Ext m8 P0:=⟨by omega,λc hc=>by rw[c1 c (by omega),Y0 c hc]⟩
 have D0:=q0.cells g8;have Q0:=(U0.trans V0).trans q0;have E2:=Q0.n;have ga:=Q0.cells g1;refine ai bA (ai (pV D0).2.2.2.1 ?_);refine ai cn (ai (eX ga).2.2.1 ?_);refine ai cq (ai (eX ga).2.2.2.1 ?_);obtain⟨rv,S0,d1,a0,T0⟩:=MR (m:=P0) hX hG ((O0.aD V0).aD q0) (by omega) a.i a.k;refine az d1 ?_;have i2:=a0.n;unfold EL at T0;rw[hc]at T0;obtain⟨w1,w2,rfl,k0,l0⟩:=T0;refine ai (v:=w1) rfl ?_;refine ai (v:=w2) rfl ?_;refine ai (v:=.int .i64 0) rfl ?_;refine ai bA ?_;have E0:=a0.cells D0;have F0:=a0.cells g12;refine bW kG E0 (by rw[k0.sl.cells];rfl) (by rw[k0.sl.cells];show 3+1<=6;omega) (by rw[k0.sl.cells];simp[k0.sl.one]) λe1 F2 i1 G0=>?_;have j2:e1.get m5.n=.cells (u.c w1) 87 none:=by rw[i1,k0.sl.cells];rfl
 refine ai bA ?_;have j1:e1.get m8.n=.cells (u.c w5) 87 none:=by rw[G0 _ (by omega),F0]
 refine bW kG j1 (by rw[l0.sl.cells];rfl) (by rw[l0.sl.cells];show 3+1<=6;omega) (by rw[l0.sl.cells];simp[l0.sl.one]) λB0 G2 k1 H0=>?_;have k2:B0.get m8.n=.cells (u.c w2) 87 none:=by rw[k1,l0.sl.cells];rfl
 have o1:B0.get m5.n=.cells (u.c w1) 87 none:=by rw[H0 _ (by omega),j2]
 refine ai (v:=aeh) (by rw[aY];rfl) ?_;refine az (jr hX) ?_;have r0:∀c,c≠m5.n->c≠m8.n->B0.get c=S0.get c:=λc h1 h2=>by rw[H0 c h2,G0 c h1]
 have p1:B0.get m.n=.cells (a.c w) 91 none:=by rw[r0 _ (by omega) (by omega)];exact a0.cells ga
 refine ai bN (ai bE ?_);refine ai (eX p1).2.2.2.2.2 (ai bE ?_);refine bW mO k2 rfl (by show 0+1<=6;omega) rfl λb0 H2 r1 I0=>?_;have o2:b0.get m8.n=.cells (({u with shape:=q,id:=a.un.id}:Un).c w2) 87 none:=r1;have s0:∀c,c≠m5.n->c≠m8.n->b0.get c=S0.get c:=λc h1 h2=>by rw[I0 c h2,r0 c h1 h2]
 have s1:b0.get m5.n=.cells (u.c w1) 87 none:=by rw[I0 _ (by omega),o1]
 have d0:Ext m1 b0:=⟨by omega,λc hc=>by rw[s0 c (by omega) (by omega),a0.get c (by omega),Q0.get c hc]⟩
 have u1:∀c cs g,S0.get c=.cells cs 98 g->b0.get c=.cells cs 98 g:=λc cs g hc=>by rw[s0 c (λe=>by subst e;rw[E0]at hc;cases hc) (λe=>by subst e;rw[F0]at hc;cases hc),hc]
 have s2:Sl b0 p w1:=k0.sl.bH λb c t g hb ht=>by
  have ht:t=98:=by simpa[aP.ty,aP.fx]using ht
  subst ht;exact u1 _ _ _ hb
 have u2:Sl b0 q w2:=l0.sl.bH λb c t g hb ht=>by
  have ht:t=98:=by simpa[aP.ty,aP.fx]using ht
  subst ht;exact u1 _ _ _ hb
 have J0:=d0.cells g1;have j0:=d0.cells gS;refine ai aW (ai (eX J0).2.1 ?_);obtain⟨Q2,v1,r',l',K0,e0,L0,F⟩:=qT (id:=a.id) hX j0 hM.sl.one ((hF.aD o0).aD d0) hP (rL hu);refine az v1 ?_;have z1:=F.cells J0 (by omega);refine ai aW (ai (eX z1).2.1 ?_);have g0:=(Y1.aD d0).rI F j0;have I2:=F.1;obtain⟨v2,S2,v',A1,J2,u0,i0,H⟩:=sD (id:=a.id) hX K0 L0.sl.one g0 hl O1;refine az A1 ?_;have B1:=L0.yY H g0 K0
 have v0:∀{sh:List Pl} {w:aed},Sl b0 sh w->Sl v2 sh w:=λhs=>hs.bH λb c t g hb ht=>by
  have ht:t=98:=by simpa[aP.ty,aP.fx]using ht
  subst ht;refine H.other g0 (F.cells hb λe=>by subst e;rw[j0]at hb;cases hb) (by decide) λe=>by subst e;rw[j0]at hb;cases hb
 have C1:=H.other g0 (F.cells s1 (by omega)) (by decide) (by omega);have D1:=H.other g0 (F.cells o2 (by omega)) (by decide) (by omega);have K2:=H.1;refine ai (cg C1) ?_;obtain⟨z2,E1,r2,l2,M0,z0,F1,h0⟩:=qX (u:={u with shape:=p}) hX hI u0 i0.one B1 (by rw[e0];exact hP.del _) (v0 s2) (by show p.length < _;have:p.length<=8:=T1.2;omega) (by rw[e0];exact S1);refine az E1 ?_;have L2:=h0.1;refine ai (cg (h0.cells D1 (by omega))) ?_
 have G1:Sl z2 q w2:=(v0 u2).bH λb c t g hb ht=>by
  have ht:t=98:=by simpa[aP.ty,aP.fx]using ht
  subst ht;exact h0.cells hb λe=>by subst e;rw[u0]at hb;cases hb
 obtain⟨T2,H1,r3,l3,I1,J1,K1,N0⟩:=qX (u:={u with shape:=q,id:=a.un.id}) hX hI M0 i0.one F1 (by rw[z0,e0];exact P1) G1 (by show q.length < _;have:q.length<=8:=U1.2;omega) (by rw[z0,e0];exact C0);refine az H1 ?_
 have L1:∀{mm N1:M} {ns:List Mk} {v:aed} {cs:aee},Sl mm ns v->uI S mm N1->mm.get S=.cells cs 258 none->Sl N1 ns v:=λhs hk hS=>hs.bH λb c t g hb ht=>by
  have ht:t=89:=by simpa[aP.ty,aP.fx]using ht
  subst ht;exact hk.cells hb λe=>by subst e;rw[hS]at hb;cases hb
 refine .inr ⟨.inr (by omega),rfl,by omega,r3,v',l3,I1,by rw[J1,z0,e0],K1,L1 (L1 i0 h0 u0) N0 M0,?_⟩;exact((((jx.of (o0.trans d0)).trans F.xL).trans H).trans h0.xL).trans N0.xL
theorem Ak(hX:cV X)(hI:me X)(hG:qM X)(hS:m.get S=.cells [r,v] 258 none)(hF:cJ m l r)(hP:cF (bR l))(hM:jU n1 m ms v)(hl:ms.length < 1000)(P1:n1<=S){u:Un}(hu:cM (bR l) a.id=some u)
  (ha:sZ u.shape a.i a.k=none\/∃p q,sZ u.shape a.i a.k=some (p,q)/\(iY (jH (bR l) a.id) {u with shape:=p}=none\/∃us,iY (jH (bR l) a.id) {u with shape:=p}=some us/\iY us {u with shape:=q,id:=a.un.id}=none)):
  ∃m' b,CP X (.func 263) [ptrTo S,a.v w] m b m'/\n1<=b/\jx S v m m':=by
 have F2:=M.aL hS;refine CP.of hX (R:=λm' b=>n1<=b/\jx S v m m') (hX.no _ rfl) Ee rfl rfl ?_;have hlen:=cx (dP (hP.val u (eW hu).1));rw[Ql];dsimp only[aI,δ,ε,η,ι,ξ,ς,υ,φ,χ,ψ,dA];refine au λm1 o2 Q1 S1=>?_;have k0:Ext m m1:=⟨by omega,S1⟩
 have g1:m1.get m.n=.cells (a.c w) 91 none:=Q1;have gS:=k0.cells hS;have T1:=hM.aD k0;refine .inr ?_;refine ai aW (ai (eX g1).2.1 ?_);obtain⟨w5,m5,U1,d1,V0⟩:=sv (id:=a.id) hX gS (hF.aD k0) hP hu;refine az U1 ?_;have s2:=d1.n;refine au λm7 G2 V1 X1=>?_;refine aC ep V1 rfl rfl (Un.eN V0.sl.one) λm8 H2 Y1 a2=>?_;have g8:m8.get m5.n=.cells (u.c w5) 87 none:=Y1;have e1:Ext m5 m8:=⟨by omega,λc hc=>by rw[a2 c (by omega),X1 c hc]⟩
 refine ai (cg g8) ?_;refine au λI2 u2 i1 j1=>?_;refine aC ep i1 rfl rfl (Un.eN V0.sl.one) λX0 v2 k1 o1=>?_;have g12:X0.get m8.n=.cells (u.c w5) 87 none:=k1;have A0:Ext m8 X0:=⟨by omega,λc hc=>by rw[o1 c (by omega),j1 c hc]⟩
 have B0:=A0.cells g8;have J0:=(d1.trans e1).trans A0;have z2:=J0.n;have ga:=J0.cells g1;refine .inr ?_;refine ai bA (ai (pV B0).2.2.2.1 ?_);refine ai cn (ai (eX ga).2.2.1 ?_);refine ai cq (ai (eX ga).2.2.2.1 ?_);obtain⟨rv,Y0,p1,H,C0⟩:=MR (m:=X0) hX hG ((V0.aD e1).aD A0) (by omega) a.i a.k;refine az p1 ?_;have c2:=H.n;unfold EL at C0;rcases ha with ha |⟨p,q,ha,rest⟩
 ·rw[ha]at C0;obtain rfl:rv=_:=C0;refine ai (v:=aeg) rfl ?_;refine ai (v:=aeg) rfl ?_;refine ai (v:=.int .i64 70) rfl ?_;refine ai bA ?_;have q0:=H.cells B0;have r0:=H.cells g12;refine bW kG q0 rfl (by show 3+1<=6;omega) rfl λK0 r1 L0 h0=>?_;refine ai bA ?_;have D0:K0.get m8.n=.cells (u.c w5) 87 none:=by rw[h0 _ (by omega),r0]
  refine bW kG D0 rfl (by show 3+1<=6;omega) rfl λE0 s1 M0 s0=>?_;refine .inl ?_;refine ai (v:=aei) (by rw[aY];rfl) ?_;exact .inl ⟨_,_,ke,by omega,.of ⟨by omega,λc hc=>by rw[s0 c (by omega),h0 c (by omega),H.get c (by omega),J0.get c (by omega),k0.get c hc]⟩⟩
 rw[ha]at C0;obtain⟨w1,w2,rfl,v0,z0⟩:=C0;have J2:p.length<=100/\q.length<=100:=MS ha (by omega);refine ai (v:=w1) rfl ?_;refine ai (v:=w2) rfl ?_;refine ai (v:=.int .i64 0) rfl ?_;refine ai bA ?_;have q0:=H.cells B0;have r0:=H.cells g12;refine bW kG q0 (by rw[v0.sl.cells];rfl) (by rw[v0.sl.cells];show 3+1<=6;omega) (by rw[v0.sl.cells];simp[v0.sl.one]) λK0 r1 L0 h0=>?_;have d2:K0.get m5.n=.cells (u.c w1) 87 none:=by rw[L0,v0.sl.cells];rfl
 refine ai bA ?_;have D0:K0.get m8.n=.cells (u.c w5) 87 none:=by rw[h0 _ (by omega),r0]
 refine bW kG D0 (by rw[z0.sl.cells];rfl) (by rw[z0.sl.cells];show 3+1<=6;omega) (by rw[z0.sl.cells];simp[z0.sl.one]) λE0 s1 M0 s0=>?_;have e2:E0.get m8.n=.cells (u.c w2) 87 none:=by rw[M0,z0.sl.cells];rfl
 have u1:E0.get m5.n=.cells (u.c w1) 87 none:=by rw[s0 _ (by omega),d2]
 refine .inr ?_;refine ai (v:=aeh) (by rw[aY];rfl) ?_;refine az (jr hX) ?_;have F0:∀c,c≠m5.n->c≠m8.n->E0.get c=Y0.get c:=λc h1 h2=>by rw[s0 c h2,h0 c h1]
 have v1:E0.get m.n=.cells (a.c w) 91 none:=by rw[F0 _ (by omega) (by omega)];exact H.cells ga
 refine ai bN (ai bE ?_);refine ai (eX v1).2.2.2.2.2 (ai bE ?_);refine bW mO e2 rfl (by show 0+1<=6;omega) rfl λi0 A2 z1 N0=>?_;have g2:i0.get m8.n=.cells (({u with shape:=q,id:=a.un.id}:Un).c w2) 87 none:=z1;have G0:∀c,c≠m5.n->c≠m8.n->i0.get c=Y0.get c:=λc h1 h2=>by rw[N0 c h2,F0 c h1 h2]
 have A1:i0.get m5.n=.cells (u.c w1) 87 none:=by rw[N0 _ (by omega),u1]
 refine .inr ?_;have d0:Ext m1 i0:=⟨by omega,λc hc=>by rw[G0 c (by omega) (by omega),H.get c (by omega),J0.get c hc]⟩
 have B1:∀c cs g,Y0.get c=.cells cs 98 g->i0.get c=.cells cs 98 g:=λc cs g hc=>by rw[G0 c (λe=>by subst e;rw[q0]at hc;cases hc) (λe=>by subst e;rw[r0]at hc;cases hc),hc]
 have C1:Sl i0 p w1:=v0.sl.bH λb c t g hb ht=>by
  have ht:t=98:=by simpa[aP.ty,aP.fx]using ht
  subst ht;exact B1 _ _ _ hb
 have i2:Sl i0 q w2:=z0.sl.bH λb c t g hb ht=>by
  have ht:t=98:=by simpa[aP.ty,aP.fx]using ht
  subst ht;exact B1 _ _ _ hb
 have O0:=d0.cells g1;have u0:=d0.cells gS;refine ai aW (ai (eX O0).2.1 ?_);obtain⟨K2,D1,r',l',P0,e0,Q0,a0⟩:=qT (id:=a.id) hX u0 hM.sl.one ((hF.aD k0).aD d0) hP (rL hu);refine az D1 ?_;have E1:=a0.cells O0 (by omega);refine .inr ?_;refine ai aW (ai (eX E1).2.1 ?_);have j0:=(T1.aD d0).rI a0 u0;have B2:=a0.1;obtain⟨j2,L2,v',F1,C2,H0,a1,b0⟩:=sD (id:=a.id) hX P0 Q0.sl.one j0 hl P1;refine az F1 ?_;have S0:=Q0.yY b0 j0 P0
 have l0:∀{sh:List Pl} {w:aed},Sl i0 sh w->Sl j2 sh w:=λhs=>hs.bH λb c t g hb ht=>by
  have ht:t=98:=by simpa[aP.ty,aP.fx]using ht
  subst ht;refine b0.other j0 (a0.cells hb λe=>by subst e;rw[u0]at hb;cases hb) (by decide) λe=>by subst e;rw[u0]at hb;cases hb
 have T0:=b0.other j0 (a0.cells A1 (by omega)) (by decide) (by omega);have G1:=b0.other j0 (a0.cells g2 (by omega)) (by decide) (by omega);have D2:=b0.1;have F:=rest;rcases F with F |⟨us,F,o0⟩
 ·have c1:pE (jH (bR l) a.id) {u with shape:=p}=false:=by
   unfold iY at F;split at F;·cases F
   exact acn.2 ‹¬_›
  refine .inl ?_;refine ai (cg T0) ?_;obtain⟨H1,M2,I0,rfl,g0⟩:=qW (u:={u with shape:=p}) hX hI H0 S0 (by rw[e0];exact hP.del _) (l0 C1) (by show p.length < _;omega) (by rw[e0];exact c1);exact .inl ⟨_,_,I0,by omega,(((jx.of (k0.trans d0)).trans a0.xL).trans b0).trans g0.xL⟩
 obtain⟨k2,rfl,N2⟩:=jw (hP.del a.id) F
 have c1:pE (jH (bR l) a.id) {u with shape:=p}=true:=by
  unfold iY at F;split at F
  ·assumption
  cases F
 have I1:pE (mR (jH (bR l) a.id) {u with shape:=p}) {u with shape:=q,id:=a.un.id}=false:=by
  unfold iY at o0;split at o0;·cases o0
  exact acn.2 ‹¬_›
 refine .inr ?_;refine ai (cg T0) ?_;obtain⟨H1,I0,r2,l2,J1,U0,K1,g0⟩:=qX (u:={u with shape:=p}) hX hI H0 a1.one S0 (by rw[e0];exact hP.del _) (l0 C1) (by show p.length < _;omega) (by rw[e0];exact c1);refine az I0 ?_;have E2:=g0.1;refine ai (cg (g0.cells G1 (by omega))) ?_
 have L1:Sl H1 q w2:=(l0 i2).bH λb c t g hb ht=>by
  have ht:t=98:=by simpa[aP.ty,aP.fx]using ht
  subst ht;exact g0.cells hb λe=>by subst e;rw[H0]at hb;cases hb
 obtain⟨O2,P2,N1,rfl,O1⟩:=qW (u:={u with shape:=q,id:=a.un.id}) hX hI J1 K1 (by rw[U0,e0];exact k2) L1 (by show q.length < _;omega) (by rw[U0,e0];exact I1);exact .inl ⟨_,_,N1,by omega,((((jx.of (k0.trans d0)).trans a0.xL).trans b0).trans g0.xL).trans O1.xL⟩
theorem MM(H:cV X)(hS:m.get S=.cells [r,v] 258 none)(hF:cJ m l r)(hP:cF (bR l))(hu:cM (bR l) a.id=none):
  ∃m' b,CP X (.func 263) [ptrTo S,a.v w] m b m'/\S<=b/\jx S v m m':=by
 have g0:=M.aL hS;refine CP.of H (R:=λm' b=>S<=b/\jx S v m m') (H.no _ rfl) Ee rfl rfl ?_;rw[Ql];dsimp only[aI,δ,ε,η,ι,ξ,ς,υ,φ,χ,ψ,dA];refine au λm1 e0 a0 b0=>?_;have F:Ext m m1:=⟨by omega,b0⟩
 have g1:m1.get m.n=.cells (a.c w) 91 none:=a0;refine .inl ?_;refine ai aW (ai (eX g1).2.1 ?_);obtain⟨m5,b5,d0,rfl,h5⟩:=yC (id:=a.id) H (F.cells hS) (hF.aD F) hP hu;exact .inl ⟨_,_,d0,by omega,(jx.of F).trans h5.xL⟩
theorem ML(H:cV X)(hS:m.get S=.cells [r,v] 258 none)(hF:cJ m l r)(hP:cF (bR l))(hu:cM (bR l) a.id=none):
  ∃m' b,CP X (.func 268) [ptrTo S,a.v w] m b m'/\S<=b/\jx S v m m':=by
 have g0:=M.aL hS;refine CP.of H (R:=λm' b=>S<=b/\jx S v m m') (H.no _ rfl) Ed rfl rfl ?_;rw[Qk];dsimp only[aI,δ,ε,η,ι,ξ,ς,υ,φ,χ,ψ,dA];refine au λm1 e0 a0 b0=>?_;have F:Ext m m1:=⟨by omega,b0⟩
 have g1:m1.get m.n=.cells (a.c w) 91 none:=a0;refine .inl ?_;refine ai aW (ai (eX g1).2.1 ?_);obtain⟨m5,b5,d0,rfl,h5⟩:=yC (id:=a.id) H (F.cells hS) (hF.aD F) hP hu;refine⟨⟨_,_,d0,by omega,(jx.of F).trans h5.xL⟩,?_⟩;refine ai cn (ai (eX g1).2.2.1 ?_);refine ai cq ?_;exact ai (eX g1).2.2.2.1 trivial
end
theorem len_nil{l:List Pl}:decide ((l.length:Int)=0)=decide (l=[]):=by
 rw[decide_eq_decide];constructor;·intro h;exact acF.1 (by omega)
 rintro rfl;rfl
theorem mD(hX:cV X){u:Un}{w:aed}(hw:Sl m u.shape w):C X (.func 249) [u.v w] m m.n (.bool (gL u)) m:=by
 refine Cl.flat (hX.no _ rfl) R4 rfl rfl ?_;rw[YK];dsimp only[aI,δ,ε,η,κ,ς,φ,χ];refine au λm1 e0 a0 b0=>?_;have d0:Ext m m1:=⟨by omega,b0⟩
 have g1:m1.get m.n=.cells (u.c w) 87 none:=a0;unfold ptrTo;refine cG (λvs m2 H=>vs=[.bool (gL u)]/\m.n<=H) (λR hR=>?_) ?_
 ·refine ai kZ (ai (pV g1).2.1 ?_);rw[aY,ae];rw[an];refine aq (λF=>?_) (λF=>hR _ _ _ ⟨by simp only[gL,F,aav,aaH,aaz,aaw,aal,aau,aaV,aaM,aaE,aax],by omega⟩);refine ai kY (ai (pV g1).2.2.1 ?_);rw[aY,ae];rw[an];refine aq (λh1=>?_) (λh1=>hR _ _ _ ⟨by simp only[gL,F,h1,aav,aaH,aaz,aaw,aal,aau,aaV,aaM,aaE,aax],by omega⟩);refine ai bA (ai (pV g1).2.2.2.1 ?_);rw[(hw.aD d0).len dS,aE,aY,ae,len_nil];rw[an];refine aq (λh2=>?_) (λh2=>hR _ _ _ ⟨by simp only[gL,F,h1,h2,aav,aaH,aaz,aaw,aal,aau,aaV,aaM,aaE,aax],by omega⟩);refine ai ff (ai (pV g1).2.2.2.2.1 ?_);rw[aY,ae];rw[an];refine aq (λh3=>?_) (λh3=>hR _ _ _ ⟨by simp only[gL,F,h1,h2,h3,aav,aaH,aaz,aaw,aal,aau,aaV,aaM,aaE,aax],by omega⟩)
  refine ai fc (ai (pV g1).2.2.2.2.2 ?_);rw[aY,ae];exact hR _ _ _ ⟨by simp only[gL,F,h1,h2,h3,aav,aaH,aaz,aaw,aal,aau,aaV,aaM,aaE,aax],by omega⟩
 rintro _ m2 H ⟨rfl,hl⟩;rw[aH];exact⟨rfl,hl⟩
theorem Hd(hX:cV X){a:Ac}{w:aed}(hw:Sl m a.un.shape w)(hu:a.un.shape.length < 4611686018427387904):C X (.func 238) [a.v w] m m.n (.bool (lq a.un && decide (a.id=0) && decide (a.i=0) && decide (a.k=0))) m:=by
 refine Cl.flat (hX.no _ rfl) R9 rfl rfl ?_;rw[YR];dsimp only[aI,δ,ε,η,ς,φ,χ,ψ];refine au λm1 e0 a0 b0=>?_;have d0:Ext m m1:=⟨by omega,b0⟩
 have g1:m1.get m.n=.cells (a.c w) 91 none:=a0;unfold ptrTo;refine cG (λvs m2 F=>vs=[.bool (lq a.un && decide (a.id=0) && decide (a.i=0) && decide (a.k=0))]/\m.n<=F) (λR hR=>?_) ?_
 ·refine ai bN (ai (np g1) ?_);refine az (kl hX (hw.aD d0) hu) ?_;rw[an];refine aq (λH=>?_) (λH=>hR _ _ _ ⟨by simp only[H,aav,aaH,aaz,aaw,aal,aau,aaV,aaM,aaE,aax],by omega⟩);refine ai aW (ai (eX g1).2.1 ?_);rw[aY,ae];rw[an];refine aq (λh1=>?_) (λh1=>hR _ _ _ ⟨by simp only[H,h1,aav,aaH,aaz,aaw,aal,aau,aaV,aaM,aaE,aax],by omega⟩);refine ai cn (ai (eX g1).2.2.1 ?_);rw[aY,ae];rw[an];refine aq (λh2=>?_) (λh2=>hR _ _ _ ⟨by simp only[H,h1,h2,aav,aaH,aaz,aaw,aal,aau,aaV,aaM,aaE,aax],by omega⟩);refine ai cq (ai (eX g1).2.2.2.1 ?_);rw[aY,ae];exact hR _ _ _ ⟨by simp only[H,h1,h2,aav,aaH,aaz,aaw,aal,aau,aaV,aaM,aaE,aax],by omega⟩
 rintro _ m2 F ⟨rfl,hl⟩;rw[aH];exact⟨rfl,hl⟩
theorem Hc(hX:cV X){a:Ac}{w:aed}(hw:Sl m a.un.shape w)(hu:a.un.shape.length < 4611686018427387904):C X (.func 247) [a.v w] m m.n (.bool (eA a.id 0 99 && dN a)) m:=by
 refine Cl.flat (hX.no _ rfl) R6 rfl rfl ?_;rw[YM];dsimp only[aI,δ,ε,η,ς,φ,χ,ψ];refine au λm1 e0 a0 b0=>?_;have d0:Ext m m1:=⟨by omega,b0⟩
 have g1:m1.get m.n=.cells (a.c w) 91 none:=a0;unfold ptrTo;refine cG (λvs m2 H=>vs=[.bool (eA a.id 0 99 && dN a)]/\m.n<=H) (λR hR=>?_) ?_
 ·refine ai aW (ai (eX g1).2.1 ?_);refine az (mr hX _) ?_;rw[an];refine aq (λF=>?_) (λF=>hR _ _ _ ⟨by simp only[dN,F,aav,aaH,aaz,aaw,aal,aau,aaV,aaM,aaE,aax],by omega⟩);refine ai cn (ai (eX g1).2.2.1 ?_);rw[aY,ae];rw[an];refine aq (λh1=>?_) (λh1=>hR _ _ _ ⟨by simp only[dN,F,h1,aav,aaH,aaz,aaw,aal,aau,aaV,aaM,aaE,aax],by omega⟩);refine ai cq (ai (eX g1).2.2.2.1 ?_);rw[aY,ae];rw[an];refine aq (λh2=>?_) (λh2=>hR _ _ _ ⟨by simp only[dN,F,h1,h2,aav,aaH,aaz,aaw,aal,aau,aaV,aaM,aaE,aax],by omega⟩);refine ai bN (ai (np g1) ?_);refine az (mD hX (hw.aD d0)) ?_;rw[an];refine aq (λh3=>?_) (λh3=>hR _ _ _ ⟨by simp only[dN,F,h1,h2,h3,aav,aaH,aaz,aaw,aal,aau,aaV,aaM,aaE,aax],by omega⟩)
  refine ai bN (ai bE ?_);refine ai (eX g1).2.2.2.2.2 ?_;rw[aY,ae];exact hR _ _ _ ⟨by simp only[dN,F,h1,h2,h3,aav,aaH,aaz,aaw,aal,aau,aaV,aaM,aaE,aax],by omega⟩
 rintro _ m2 H ⟨rfl,hl⟩;rw[aH];exact⟨rfl,hl⟩
theorem Hb(hX:cV X){a:Ac}{w:aed}(hw:Sl m a.un.shape w)(hu:a.un.shape.length < 4611686018427387904):C X (.func 260) [a.v w] m m.n (.bool (eA a.id 0 99 && eA a.un.id 0 99 && !decide (a.id=a.un.id) && gL a.un && eA a.i 0 7 && eA a.k 0 7 && !decide (a.i=a.k))) m:=by
 refine Cl.flat (hX.no _ rfl) R1 rfl rfl ?_;rw[YE];dsimp only[aI,δ,ε,η,ς,φ,χ,ψ];refine au λm1 g0 b0 d0=>?_;have e0:Ext m m1:=⟨by omega,d0⟩
 have g1:m1.get m.n=.cells (a.c w) 91 none:=b0;unfold ptrTo;refine cG (λvs m2 a0=>vs=[.bool (eA a.id 0 99 && eA a.un.id 0 99 && !decide (a.id=a.un.id) && gL a.un && eA a.i 0 7 && eA a.k 0 7 && !decide (a.i=a.k))]/\m.n<=a0) (λR H=>?_) ?_
 ·refine ai aW (ai (eX g1).2.1 ?_);refine az (mr hX _) ?_;rw[an];refine aq (λF=>?_) (λF=>H _ _ _ ⟨by simp only[F,aav,aaH,aaz,aaw,aal,aau,aaV,aaM,aaE,aax],by omega⟩);refine ai bN (ai bE ?_);refine ai (eX g1).2.2.2.2.2 ?_;refine az (mr hX _) ?_;rw[an];refine aq (λh1=>?_) (λh1=>H _ _ _ ⟨by simp only[F,h1,aav,aaH,aaz,aaw,aal,aau,aaV,aaM,aaE,aax],by omega⟩);refine ai aW (ai (eX g1).2.1 ?_);refine ai bN (ai bE ?_);refine ai (eX g1).2.2.2.2.2 ?_;rw[da,ae];rw[an];refine aq (λh2=>?_) (λh2=>H _ _ _ ⟨by simp only[F,h1,h2,aav,aaH,aaz,aaw,aal,aau,aaV,aaM,aaE,aax],by omega⟩);refine ai bN (ai (np g1) ?_);refine az (mD hX (hw.aD e0)) ?_;rw[an];refine aq (λh3=>?_) (λh3=>H _ _ _ ⟨by simp only[F,h1,h2,h3,aav,aaH,aaz,aaw,aal,aau,aaV,aaM,aaE,aax],by omega⟩)
  refine ai cn (ai (eX g1).2.2.1 ?_);refine az (gF hX _ _ _) ?_;rw[an];refine aq (λh4=>?_) (λh4=>H _ _ _ ⟨by simp only[F,h1,h2,h3,h4,aav,aaH,aaz,aaw,aal,aau,aaV,aaM,aaE,aax],by omega⟩);refine ai cq (ai (eX g1).2.2.2.1 ?_);refine az (gF hX _ _ _) ?_;rw[an];refine aq (λh5=>?_) (λh5=>H _ _ _ ⟨by simp only[F,h1,h2,h3,h4,h5,aav,aaH,aaz,aaw,aal,aau,aaV,aaM,aaE,aax],by omega⟩);refine ai cn (ai (eX g1).2.2.1 ?_);refine ai cq (ai (eX g1).2.2.2.1 ?_);rw[da,ae];exact H _ _ _ ⟨by simp only[F,h1,h2,h3,h4,h5,aav,aaH,aaz,aaw,aal,aau,aaV,aaM,aaE,aax],by omega⟩
 rintro _ m2 a0 ⟨rfl,hl⟩;rw[aH];exact⟨rfl,hl⟩
theorem Ha(hX:cV X){a:Ac}{w:aed}(hw:Sl m a.un.shape w)(hu:a.un.shape.length < 4611686018427387904):C X (.func 266) [a.v w] m m.n (.bool (eA a.id 0 99 && eA a.i (-40) 40 && eA a.k (-40) 40 && (!decide (a.i=0) || !decide (a.k=0)) && gL a.un && decide (a.un.id=0))) m:=by
 refine Cl.flat (hX.no _ rfl) RX rfl rfl ?_;rw[Yz];dsimp only[aI,δ,ε,η,ς,φ,χ,ψ];refine au λm1 g0 d0 e0=>?_;have a0:Ext m m1:=⟨by omega,e0⟩
 have g1:m1.get m.n=.cells (a.c w) 91 none:=d0;unfold ptrTo;refine cG (λvs m2 b0=>vs=[.bool (eA a.id 0 99 && eA a.i (-40) 40 && eA a.k (-40) 40 && (!decide (a.i=0) || !decide (a.k=0)) && gL a.un && decide (a.un.id=0))]/\m.n<=b0) (λR H=>?_) ?_
 ·refine ai aW (ai (eX g1).2.1 ?_);refine az (mr hX _) ?_;rw[an];refine aq (λF=>?_) (λF=>H _ _ _ ⟨by simp only[F,aav,aaH,aaz,aaw,aal,aau,aaV,aaM,aaE,aax],by omega⟩);refine ai cn (ai (eX g1).2.2.1 ?_);refine az (gF hX _ _ _) ?_;rw[an];refine aq (λh1=>?_) (λh1=>H _ _ _ ⟨by simp only[F,h1,aav,aaH,aaz,aaw,aal,aau,aaV,aaM,aaE,aax],by omega⟩);refine ai cq (ai (eX g1).2.2.2.1 ?_);refine az (gF hX _ _ _) ?_;rw[an];refine aq (λh2=>?_) (λh2=>H _ _ _ ⟨by simp only[F,h1,h2,aav,aaH,aaz,aaw,aal,aau,aaV,aaM,aaE,aax],by omega⟩);refine ai cn (ai (eX g1).2.2.1 ?_);rw[da,ae];rw[an];refine aq (λh3=>?_) (λh3=>?_)
  ·refine ai bN (ai (np g1) ?_);refine az (mD hX (hw.aD a0)) ?_;rw[an];refine aq (λh4=>?_) (λh4=>H _ _ _ ⟨by simp only[F,h1,h2,h3,h4,aav,aaH,aaz,aaw,aal,aau,aaV,aaM,aaE,aax],by omega⟩);refine ai bN (ai bE ?_);refine ai (eX g1).2.2.2.2.2 ?_;rw[aY,ae];exact H _ _ _ ⟨by simp only[F,h1,h2,h3,h4,aav,aaH,aaz,aaw,aal,aau,aaV,aaM,aaE,aax],by omega⟩
  refine ai cq (ai (eX g1).2.2.2.1 ?_);rw[da,ae];rw[an];refine aq (λh4=>?_) (λh4=>H _ _ _ ⟨by simp only[F,h1,h2,h3,h4,aav,aaH,aaz,aaw,aal,aau,aaV,aaM,aaE,aax],by omega⟩);refine ai bN (ai (np g1) ?_);refine az (mD hX (hw.aD a0)) ?_;rw[an];refine aq (λh5=>?_) (λh5=>H _ _ _ ⟨by simp only[F,h1,h2,h3,h4,h5,aav,aaH,aaz,aaw,aal,aau,aaV,aaM,aaE,aax],by omega⟩);refine ai bN (ai bE ?_);refine ai (eX g1).2.2.2.2.2 ?_;rw[aY,ae];exact H _ _ _ ⟨by simp only[F,h1,h2,h3,h4,h5,aav,aaH,aaz,aaw,aal,aau,aaV,aaM,aaE,aax],by omega⟩
 rintro _ m2 b0 ⟨rfl,hl⟩;rw[aH];exact⟨rfl,hl⟩
theorem GZ(hX:cV X){a:Ac}{w:aed}(hw:Sl m a.un.shape w)(hu:a.un.shape.length < 4611686018427387904):C X (.func 275) [a.v w] m m.n (.bool (zP a.jL && decide (a.id=0) && dN a)) m:=by
 refine Cl.flat (hX.no _ rfl) RS rfl rfl ?_;rw[Yt];dsimp only[aI,δ,ε,η,ς,φ,χ,ψ];refine au λm1 g0 b0 d0=>?_;have e0:Ext m m1:=⟨by omega,d0⟩
 have g1:m1.get m.n=.cells (a.c w) 91 none:=b0;unfold ptrTo;refine cG (λvs m2 a0=>vs=[.bool (zP a.jL && decide (a.id=0) && dN a)]/\m.n<=a0) (λR H=>?_) ?_
 ·refine ai dW (ai (AA g1) ?_);refine az (sQ hX _) ?_;rw[an];refine aq (λF=>?_) (λF=>H _ _ _ ⟨by simp only[dN,F,aav,aaH,aaz,aaw,aal,aau,aaV,aaM,aaE,aax],by omega⟩);refine ai aW (ai (eX g1).2.1 ?_);rw[aY,ae];rw[an];refine aq (λh1=>?_) (λh1=>H _ _ _ ⟨by simp only[dN,F,h1,aav,aaH,aaz,aaw,aal,aau,aaV,aaM,aaE,aax],by omega⟩);refine ai cn (ai (eX g1).2.2.1 ?_);rw[aY,ae];rw[an];refine aq (λh2=>?_) (λh2=>H _ _ _ ⟨by simp only[dN,F,h1,h2,aav,aaH,aaz,aaw,aal,aau,aaV,aaM,aaE,aax],by omega⟩);refine ai cq (ai (eX g1).2.2.2.1 ?_);rw[aY,ae];rw[an];refine aq (λh3=>?_) (λh3=>H _ _ _ ⟨by simp only[dN,F,h1,h2,h3,aav,aaH,aaz,aaw,aal,aau,aaV,aaM,aaE,aax],by omega⟩)
  refine ai bN (ai (np g1) ?_);refine az (mD hX (hw.aD e0)) ?_;rw[an];refine aq (λh4=>?_) (λh4=>H _ _ _ ⟨by simp only[dN,F,h1,h2,h3,h4,aav,aaH,aaz,aaw,aal,aau,aaV,aaM,aaE,aax],by omega⟩);refine ai bN (ai bE ?_);refine ai (eX g1).2.2.2.2.2 ?_;rw[aY,ae];exact H _ _ _ ⟨by simp only[dN,F,h1,h2,h3,h4,aav,aaH,aaz,aaw,aal,aau,aaV,aaM,aaE,aax],by omega⟩
 rintro _ m2 a0 ⟨rfl,hl⟩;rw[aH];exact⟨rfl,hl⟩
theorem yK(hX:cV X){a:Ac}{w:aed}(hw:Sl m a.un.shape w)(hu:a.un.shape.length < 4611686018427387904):C X (.func 272) [a.v w] m m.n (.bool (eA a.id 0 99 && dN a)) m:=by
 refine Cl.flat (hX.no _ rfl) RU rfl rfl ?_;rw[Yv];dsimp only[aI,δ,ε,η,ς,φ,χ,ψ];refine au λm1 e0 a0 b0=>?_;have d0:Ext m m1:=⟨by omega,b0⟩
 have g1:m1.get m.n=.cells (a.c w) 91 none:=a0;unfold ptrTo;refine cG (λvs m2 H=>vs=[.bool (eA a.id 0 99 && dN a)]/\m.n<=H) (λR hR=>?_) ?_
 ·refine ai aW (ai (eX g1).2.1 ?_);refine az (gF hX _ _ _) ?_;rw[an];refine aq (λF=>?_) (λF=>hR _ _ _ ⟨by simp only[dN,F,aav,aaH,aaz,aaw,aal,aau,aaV,aaM,aaE,aax],by omega⟩);refine ai cn (ai (eX g1).2.2.1 ?_);rw[aY,ae];rw[an];refine aq (λh1=>?_) (λh1=>hR _ _ _ ⟨by simp only[dN,F,h1,aav,aaH,aaz,aaw,aal,aau,aaV,aaM,aaE,aax],by omega⟩);refine ai cq (ai (eX g1).2.2.2.1 ?_);rw[aY,ae];rw[an];refine aq (λh2=>?_) (λh2=>hR _ _ _ ⟨by simp only[dN,F,h1,h2,aav,aaH,aaz,aaw,aal,aau,aaV,aaM,aaE,aax],by omega⟩);refine ai bN (ai (np g1) ?_);refine az (mD hX (hw.aD d0)) ?_;rw[an];refine aq (λh3=>?_) (λh3=>hR _ _ _ ⟨by simp only[dN,F,h1,h2,h3,aav,aaH,aaz,aaw,aal,aau,aaV,aaM,aaE,aax],by omega⟩)
  refine ai bN (ai bE ?_);refine ai (eX g1).2.2.2.2.2 ?_;rw[aY,ae];exact hR _ _ _ ⟨by simp only[dN,F,h1,h2,h3,aav,aaH,aaz,aaw,aal,aau,aaV,aaM,aaE,aax],by omega⟩
 rintro _ m2 H ⟨rfl,hl⟩;rw[aH];exact⟨rfl,hl⟩
abbrev fV(n:Nat):aed:=.func (.func n) #[] #[]
abbrev kS(a b c d e:aed):aed:=.agg #[a,b,c,d,e]
abbrev XG:aed:=kS (fV 238) (fV 239) (fV 241) (fV 243) (fV 244)
abbrev XF:aed:=kS (fV 247) (fV 250) (fV 251) (fV 254) (fV 258)
abbrev XE:aed:=kS (fV 260) (fV 262) (fV 263) .nilFunc (fV 265)
abbrev XD:aed:=kS (fV 266) (fV 267) (fV 268) (fV 270) (fV 271)
abbrev XC:aed:=kS (fV 275) (fV 276) (fV 277) .nilFunc (fV 281)
abbrev XB:aed:=kS (fV 272) (fV 273) (fV 282) (fV 284) (fV 274)
abbrev XA:aed:=kS (fV 272) (fV 273) (fV 285) (fV 286) (fV 274)
abbrev HB:aed:=kS .nilFunc .nilFunc .nilFunc .nilFunc .nilFunc
def nJ:List MapEntry:=[{key:=.int .i64 1,val:=XG,born:=0},{key:=.int .i64 2,val:=XF,born:=1},{key:=.int .i64 3,val:=XE,born:=2},{key:=.int .i64 4,val:=XD,born:=3}]
def qo:List MapEntry:=[{key:=.int .i64 5,val:=XC,born:=0},{key:=.int .i64 6,val:=XB,born:=1},{key:=.int .i64 7,val:=XA,born:=2}]
theorem DU{z:Int}:keyed TE 3 (.int .i64 z)=true:=by kernel_rfl
theorem eqI{a b:Int}:eq? TE 3 (.int .i64 a) (.int .i64 b)=some (decide (a=b)):=by kernel_rfl
theorem gO:TE.ty.get 260=some ag.t260:=by kernel_rfl
theorem mX{b:Nat}{z:Int}{v:aed}{es:List MapEntry}{clock:Nat}{P:M->Nat->Prop}(h:m.get b=.map es clock)(hk:findKey TE 3 (.int .i64 z) es 0=some none)
  (hP:∀m1,m1.n=m.n->m1.get b=.map (es++ [{key:=.int .i64 z,val:=v,born:=clock}]) (clock+1)->(∀c,c≠b->m1.get c=m.get c)->P m1 b):
  aT (fN TE m 260 (.map (some b)) (.int .i64 z) v) P:=by
 have hb:b < m.n:=by refine Nat.lt_of_not_le λhle=>?_;rw[M.kx hle]at h;cases h
 have e:fN TE m 260 (.map (some b)) (.int .i64 z) v=some (m.set b (.map (es++ [{key:=.int .i64 z,val:=v,born:=clock}]) (clock+1)),b):=by have F:findKey TE 3 (.int .i64 z) es 0=some none:=hk;have H:keyed TE 3 (.int .i64 z)=true:=DU;simp only[fN,eV,gO,ag.t260,h,H,cond_true,F]
 rw[e,aE];exact hP _ rfl (M.cY hb) λc hc=>M.cL hc
theorem Jb(hX:cV X):∃m',C X (.func 177) [] m m.n (.map (some m.n)) m'/\Ext m m'/\m.n < m'.n/\m'.get m.n=.map nJ 4:=by
 have key:=Cl.gen (E:=TE) (X:=X) (f:=177) (args:=[]) (m:=m) (R:=λrv m' b=>rv=.map (some m.n)/\b=m.n/\Ext m m'/\m.n < m'.n/\m'.get m.n=.map nJ 4) (hX.no _ rfl) Sq rfl ?_
 ·obtain⟨rv,m',b,hc,rfl,rfl,h⟩:=key;exact⟨m',hc,h⟩
 rw[Zb];dsimp only[aI,θ,χ];refine au λm1 l0 a0 b0=>?_;refine ai (v:=XG) (by kernel_rfl) ?_;refine mX a0 (by kernel_rfl) λm3 o0 d0 e0=>?_;refine ai (v:=XF) (by kernel_rfl) ?_;refine mX d0 (by kernel_rfl) λm6 q0 g0 h0=>?_;refine ai (v:=XE) (by kernel_rfl) ?_;refine mX g0 (by kernel_rfl) λm9 r0 i0 j0=>?_;refine ai (v:=XD) (by kernel_rfl) ?_;refine mX i0 (by kernel_rfl) λs0 k0 F H=>?_;exact .inr ⟨.inl rfl,rfl,by omega,⟨by omega,λc hc=>by rw[H c (by omega),j0 c (by omega),h0 c (by omega),e0 c (by omega),b0 c hc]⟩,by omega,F⟩
theorem KP(hX:cV X):∃m',C X (.func 178) [] m m.n (.map (some m.n)) m'/\Ext m m'/\m.n < m'.n/\m'.get m.n=.map qo 3:=by
 have key:=Cl.gen (E:=TE) (X:=X) (f:=178) (args:=[]) (m:=m) (R:=λrv m' b=>rv=.map (some m.n)/\b=m.n/\Ext m m'/\m.n < m'.n/\m'.get m.n=.map qo 3) (hX.no _ rfl) Sp rfl ?_
 ·obtain⟨rv,m',b,F,rfl,rfl,h⟩:=key;exact⟨m',F,h⟩
 rw[Za];dsimp only[aI,θ,χ];refine au λm1 j0 H a0=>?_;refine ai (v:=XC) (by kernel_rfl) ?_;refine mX H (by kernel_rfl) λm3 k0 b0 d0=>?_;refine ai (v:=XB) (by kernel_rfl) ?_;refine mX b0 (by kernel_rfl) λm6 l0 e0 g0=>?_;refine ai (v:=XA) (by kernel_rfl) ?_;refine mX e0 (by kernel_rfl) λm9 o0 h0 i0=>?_;exact .inr ⟨.inl rfl,rfl,by omega,⟨by omega,λc F=>by rw[i0 c (by omega),g0 c (by omega),d0 c (by omega),a0 c F]⟩,by omega,h0⟩
def iU(z:Int):Option aed:=if z=1 then some XG else if z=2 then some XF else if z=3 then some XE else if z=4 then some XD else none
def jc(z:Int):Option aed:=if z=5 then some XC else if z=6 then some XB else if z=7 then some XA else none
theorem UM{b c:Nat}{z:Int}(h:m.get b=.map nJ c):dn TE m 260 (.map (some b)) (.int .i64 z) true=some (.tuple #[(iU z).getD HB,.bool (iU z).isSome]):=by
 have F:keyed TE 3 (.int .i64 z)=true:=DU;have H:∀a b:Int,eq? TE 3 (.int .i64 a) (.int .i64 b)=some (decide (a=b)):=λ_ _=>eqI;have hz:eZ TE 186=some HB:=by kernel_rfl
 unfold iU;by_cases h1:z=1;·subst h1;simp only[dn,gO,ag.t260,h,F,cond_true,nJ,findKey,H,decide_true,abq];rfl
 by_cases h2:z=2;·subst h2;simp only[dn,gO,ag.t260,h,F,cond_true,nJ,findKey,H,decide_true,abq];rfl
 by_cases h3:z=3;·subst h3;simp only[dn,gO,ag.t260,h,F,cond_true,nJ,findKey,H,decide_true,abq];rfl
 by_cases h4:z=4;·subst h4;simp only[dn,gO,ag.t260,h,F,cond_true,nJ,findKey,H,decide_true,abq];rfl
 rw[aaa h1,aaa h2,aaa h3,aaa h4];simp only[dn,gO,ag.t260,h,F,cond_true,nJ,findKey,H,aat h1,aat h2,aat h3,aat h4,hz];rfl
theorem UN{b c:Nat}{z:Int}(h:m.get b=.map qo c):dn TE m 260 (.map (some b)) (.int .i64 z) true=some (.tuple #[(jc z).getD HB,.bool (jc z).isSome]):=by
 have F:keyed TE 3 (.int .i64 z)=true:=DU;have H:∀a b:Int,eq? TE 3 (.int .i64 a) (.int .i64 b)=some (decide (a=b)):=λ_ _=>eqI;have hz:eZ TE 186=some HB:=by kernel_rfl
 unfold jc;by_cases h1:z=5;·subst h1;simp only[dn,gO,ag.t260,h,F,cond_true,qo,findKey,H,decide_true,abq];rfl
 by_cases h2:z=6;·subst h2;simp only[dn,gO,ag.t260,h,F,cond_true,qo,findKey,H,decide_true,abq];rfl
 by_cases h3:z=7;·subst h3;simp only[dn,gO,ag.t260,h,F,cond_true,qo,findKey,H,decide_true,abq];rfl
 rw[aaa h1,aaa h2,aaa h3];simp only[dn,gO,ag.t260,h,F,cond_true,qo,findKey,H,aat h1,aat h2,aat h3,hz];rfl
theorem MC{x:Mk}:aw TE .eql 89 x.v (Mk.v ⟨0,0,0,0,false⟩)=some (.bool (Nd x)):=by
 have e:aw TE .eql 89 x.v (Mk.v ⟨0,0,0,0,false⟩)=some (.bool ((x.id==0) && ((x.un==0) && ((x.side==0) && ((x.kind==0) && ((x.Kw==false) && true)))))):=by kernel_rfl
 rw[e]
 unfold Nd
 congr 2
 obtain⟨a,b,c,d,e⟩:=x
 simp only[Mk.mk.injEq]
 by_cases F:a=0 <;>by_cases H:b=0 <;>by_cases h2:c=0 <;>by_cases h3:d=0 <;>cases e <;>simp[F,H,h2,h3]
theorem zm:aR TE 89 []=some (Mk.v ⟨0,0,0,0,false⟩):=by kernel_rfl
theorem DA{a:Ac}(h:a.kind=1):dU a=(lq a.un && decide (a.id=0) && decide (a.i=0) && decide (a.k=0)):=by unfold dU;simp only[h];rfl
theorem Dz{a:Ac}(h:a.kind=2):dU a=(eA a.id 0 99 && dN a):=by unfold dU;simp only[h];rfl
theorem Dy{a:Ac}(h:a.kind=3):dU a=(eA a.id 0 99 && eA a.un.id 0 99 && !decide (a.id=a.un.id) && gL a.un && eA a.i 0 7 && eA a.k 0 7 && !decide (a.i=a.k)):=by unfold dU;simp only[h];rfl
theorem Dx{a:Ac}(h:a.kind=4):dU a=(eA a.id 0 99 && eA a.i (-40) 40 && eA a.k (-40) 40 && (!decide (a.i=0) || !decide (a.k=0)) && gL a.un && decide (a.un.id=0)):=by unfold dU;simp only[h];rfl
theorem Dw{a:Ac}(h:a.kind=5):dU a=(zP a.jL && decide (a.id=0) && dN a):=by unfold dU;simp only[h];rfl
theorem vg{a:Ac}(h:a.kind=6\/a.kind=7):dU a=(eA a.id 0 99 && dN a):=by unfold dU;rcases h with h |h <;>(simp only[h];rfl)
theorem GY{a:Ac}(h:iU a.kind=none)(F:jc a.kind=none):dU a=false:=by
 unfold iU at h;unfold jc at F;have H:a.kind≠1:=λe=>by rw[aaf e]at h;cases h
 rw[aaa H]at h;have h3:a.kind≠2:=λe=>by rw[aaf e]at h;cases h
 rw[aaa h3]at h;have h4:a.kind≠3:=λe=>by rw[aaf e]at h;cases h
 rw[aaa h4]at h;have h5:a.kind≠4:=λe=>by rw[aaf e]at h;cases h
 have h6:a.kind≠5:=λe=>by rw[aaf e]at F;cases F
 rw[aaa h6]at F;have h7:a.kind≠6:=λe=>by rw[aaf e]at F;cases F
 rw[aaa h7]at F;have h8:a.kind≠7:=λe=>by rw[aaf e]at F;cases F
 unfold dU;rw[aaa H,aaa h3,aaa h4,aaa h5,aaa h6,aaa (by omega)]
theorem GW(H:cV X){a:Ac}{w kv:aed}(hu:a.un.shape.length < 4611686018427387904)(h:iU a.kind=some kv):
  ∃f b c d e,kv=kS (fV f) b c d e/\(cells kv).all one=true/\∀F,Sl F a.un.shape w->C X (.func f) [a.v w] F F.n (.bool (dU a)) F:=by
 unfold iU at h;split at h;·cases h;refine⟨_,_,_,_,_,rfl,rfl,λF hw=>?_⟩;rw[DA (by assumption)];exact Hd H hw hu
 split at h;·cases h;refine⟨_,_,_,_,_,rfl,rfl,λF hw=>?_⟩;rw[Dz (by assumption)];exact Hc H hw hu
 split at h;·cases h;refine⟨_,_,_,_,_,rfl,rfl,λF hw=>?_⟩;rw[Dy (by assumption)];exact Hb H hw hu
 split at h;·cases h;refine⟨_,_,_,_,_,rfl,rfl,λF hw=>?_⟩;rw[Dx (by assumption)];exact Ha H hw hu
 cases h
theorem GX(H:cV X){a:Ac}{w kv:aed}(hu:a.un.shape.length < 4611686018427387904)(h:jc a.kind=some kv):
  ∃f b c d e,kv=kS (fV f) b c d e/\(cells kv).all one=true/\∀F,Sl F a.un.shape w->C X (.func f) [a.v w] F F.n (.bool (dU a)) F:=by
 unfold jc at h;split at h;·cases h;refine⟨_,_,_,_,_,rfl,rfl,λF hw=>?_⟩;rw[Dw (by assumption)];exact GZ H hw hu
 split at h;·cases h;refine⟨_,_,_,_,_,rfl,rfl,λF hw=>?_⟩;rw[vg (.inl (by assumption))];exact yK H hw hu
 split at h;·cases h;refine⟨_,_,_,_,_,rfl,rfl,λF hw=>?_⟩;rw[vg (.inr (by assumption))];exact yK H hw hu
 cases h
theorem pk{b:Nat}{v1 v2 v3 v4 v5:aed}{g:Option Nat}(h:m.get b=.cells [v1,v2,v3,v4,v5] 186 g):ah TE m 186 (aeb b 0)=some (kS v1 v2 v3 v4 v5):=by rw[KR,aJ (n:=5) h (by show 0+5<=5;decide)];rfl
theorem e8{b:Nat}{a:Ac}{w:aed}{g:Option Nat}(h:m.get b=.cells (a.c w) 91 g):ah TE m 91 (aeb b 0)=some (a.v w):=by rw[Om,aJ (n:=15) h (by show 0+15<=15;decide)];rfl
theorem rZ(hX:cV X){a:Ac}{w:aed}(hw:Sl m a.un.shape w)(hu:a.un.shape.length < 4611686018427387904):
  ∃m',C X (.func 118) [a.v w] m m.n (.tuple #[(iU a.kind).getD ((jc a.kind).getD HB),.bool (dZ a)]) m'/\Ext m m':=by
 have key:=Cl.gen (E:=TE) (X:=X) (f:=118) (args:=[a.v w]) (m:=m) (R:=λrv m' b=>rv=.tuple #[(iU a.kind).getD ((jc a.kind).getD HB),.bool (dZ a)]/\b=m.n/\Ext m m') (hX.no _ rfl) SP rfl ?_
 ·obtain⟨rv,m',b,H,rfl,rfl,h⟩:=key;exact⟨m',H,h⟩
 have fin:∀(rv:aed) (mm:M) (lo:Nat),rv=.tuple #[(iU a.kind).getD ((jc a.kind).getD HB),.bool (dZ a)]->m.n<=lo->Ext m mm->(bP rv=true/\m.n<=lo/\rv=.tuple #[(iU a.kind).getD ((jc a.kind).getD HB),.bool (dZ a)]/\m.n=m.n/\Ext m m)\/((bP rv=false\/lo < m.n)/\rv=.tuple #[(iU a.kind).getD ((jc a.kind).getD HB),.bool (dZ a)]/\min m.n lo=m.n/\Ext m mm):=by
  intro rv mm lo h1 h2 h3
  cases hf:bP rv with
  |true=>exact .inl ⟨rfl,h2,h1,rfl,.refl⟩
  |false=>exact .inr ⟨.inl rfl,h1,by omega,h3⟩
 rw[Zz];dsimp only[aI,δ,ε,η,θ,ι,ξ,ς,υ,φ,χ,ψ]
 refine au λm1 k1 T0 U0=>?_
 refine au λm2 o1 V0 h0=>?_
 have K0:Ext m m2:=⟨by omega,λc H=>by rw[h0 c (by omega),U0 c H]⟩
 have g1:m2.get m.n=.cells (a.c w) 91 none:=by rw[h0 _ (by omega)];exact T0
 obtain⟨m4,X0,r0,p1,Y0⟩:=Jb (m:=m2) hX
 refine az X0 ?_
 refine⟨Ξ _,?_⟩
 have I0:=r0.cells g1
 have L0:=r0.cells V0
 unfold ptrTo
 refine ai fb ?_
 refine ai (eX I0).1 ?_
 refine ai (UM Y0) ?_
 refine ai (v:=(iU a.kind).getD HB) rfl ?_
 refine ai (v:=.bool (iU a.kind).isSome) rfl ?_
 refine au λa1 d1 H0 s0=>?_
 have e1:Ext m4 a1:=⟨by omega,s0⟩
 cases hk:iU a.kind with
 |some kv=>
  have h5:decide (a.kind=5)=false:=aat λe=>by rw[e]at hk;simp[iU]at hk
  obtain⟨f,b,c,d,e,rfl,F,hr⟩:=GW (w:=w) hX hu hk;refine aC hO H0 rfl rfl F λi0 M0 u0 v0=>?_;have a0:Ext m4 i0:=⟨by omega,λc H=>by rw[v0 c (by omega),s0 c H]⟩
  have g12:i0.get m4.n=.cells [fV f,b,c,d,e] 186 none:=u0;have ga:=a0.cells I0;have gk:=a0.cells L0;have j0:=(K0.trans r0).trans a0;have c1:=j0.n;rw[an];show Ce true _ _;rw[bU];refine cG (λvs m' lo=>vs=[.bool (dZ a)]/\m'.get m1.n=.cells [fV f,b,c,d,e] 186 none/\Ext m m'/\m.n<=lo) (λR hR=>?_) ?_
  ·refine ai (pk g12) (ai nC ?_);refine ai (show ah TE i0 181 (aeb m4.n (0+0))=some (fV f) by rw[BR,aF g12];rfl) ?_;refine ai (e8 ga) ?_;rw[bY];refine az (hr i0 (hw.aD j0)) ?_;refine⟨Ξ _,?_⟩;rw[an];refine aq (λhb=>?_) (λhb=>?_)
   ·refine ai dW (ai (AA ga) ?_);refine ai zm (ai MC ?_);refine aC hO gk rfl rfl F λm32 N0 z0 A0=>?_;refine⟨.inr ⟨by show m.n≠m1.n;omega,trivial⟩,?_⟩;exact hR _ _ _ ⟨by unfold dZ;rw[hb,h5];rfl,z0,⟨by omega,λc H=>by rw[A0 c (by omega),j0.get c H]⟩,by omega⟩
   refine aC hO gk rfl rfl F λm32 N0 z0 A0=>?_;refine⟨.inr ⟨trivial,trivial⟩,?_⟩;exact hR _ _ _ ⟨by unfold dZ;rw[hb];rfl,z0,⟨by omega,λc H=>by rw[A0 c (by omega),j0.get c H]⟩,by omega⟩
  rintro _ B0 lo ⟨rfl,g16,k0,C0⟩;rw[aH];refine ai (pk g16) ?_;have:=fin (.tuple #[kS (fV f) b c d e,.bool (dZ a)]) B0 lo (by rw[hk];rfl) C0 k0;rw[hk]at this;exact this
 |none=>
  refine aC hO H0 rfl rfl rfl λi0 M0 u0 v0=>?_
  have a0:Ext m4 i0:=⟨by omega,λc H=>by rw[v0 c (by omega),s0 c H]⟩
  have g12:i0.get m4.n=.cells [.nilFunc,.nilFunc,.nilFunc,.nilFunc,.nilFunc] 186 none:=u0
  rw[an]
  show Ce false _ _
  rw[aM]
  obtain⟨r1,O0,q0,i1,P0⟩:=KP (m:=i0) hX
  refine az O0 ?_
  refine⟨Ξ _,?_⟩
  have ga:=q0.cells (a0.cells I0)
  have gk:=q0.cells (a0.cells L0)
  have Q0:=q0.cells g12
  have j0:=((K0.trans r0).trans a0).trans q0
  have c1:=j0.n
  have j1:=r0.n
  refine ai fb ?_
  refine ai (eX ga).1 ?_
  refine ai (UN P0) ?_
  refine ai (v:=(jc a.kind).getD HB) rfl ?_
  refine ai (v:=.bool (jc a.kind).isSome) rfl ?_
  cases h0:jc a.kind with
  |some kv=>
   obtain⟨f,b,c,d,e,rfl,F,hr⟩:=GX (w:=w) hX hu h0;refine aC hO Q0 rfl rfl F λl0 S0 D0 e0=>?_;have G0:l0.get m4.n=.cells [fV f,b,c,d,e] 186 none:=D0;have E0:l0.get m.n=.cells (a.c w) 91 none:=by rw[e0 _ (by omega),ga]
   have o0:=(e0 m1.n (by omega)).trans gk;have g0:Ext m l0:=⟨by omega,λc H=>by rw[e0 c (by omega),j0.get c H]⟩
   refine cG (λvs m' lo=>vs=[.bool (dZ a)]/\m'.get m1.n=.cells [fV f,b,c,d,e] 186 none/\Ext m m'/\m.n<=lo) (λR hR=>?_) ?_
   ·refine ai (pk G0) ?_;rw[an];show Ce true _ _;rw[bU];refine ai nC ?_;refine ai (show ah TE l0 181 (aeb m4.n (0+0))=some (fV f) by rw[BR,aF G0];rfl) ?_;refine ai (e8 E0) ?_;rw[bY];refine az (hr l0 (hw.aD g0)) ?_;refine⟨Ξ _,?_⟩;rw[an];refine aq (λhb=>?_) (λhb=>?_)
    ·refine ai fb (ai (eX E0).1 ?_);rw[aY,ae,an];refine aq (λh5=>?_) (λh5=>?_)
     ·refine aC hO o0 rfl rfl F λJ0 F0 b0 d0=>?_;refine⟨.inr ⟨trivial,trivial⟩,?_⟩;exact hR _ _ _ ⟨by unfold dZ;rw[hb,h5];rfl,b0,⟨by omega,λc H=>by rw[d0 c (by omega),g0.get c H]⟩,by omega⟩
     refine ai dW (ai (AA E0) ?_);refine ai zm (ai MC ?_);refine aC hO o0 rfl rfl F λJ0 F0 b0 d0=>?_;refine⟨.inr ⟨by show m.n≠m1.n;omega,trivial⟩,?_⟩;exact hR _ _ _ ⟨by unfold dZ;rw[hb,h5];rfl,b0,⟨by omega,λc H=>by rw[d0 c (by omega),g0.get c H]⟩,by omega⟩
    refine aC hO o0 rfl rfl F λJ0 F0 b0 d0=>?_;refine⟨.inr ⟨trivial,trivial⟩,?_⟩;exact hR _ _ _ ⟨by unfold dZ;rw[hb];rfl,b0,⟨by omega,λc H=>by rw[d0 c (by omega),g0.get c H]⟩,by omega⟩
   rintro _ B0 lo ⟨rfl,g16,k0,C0⟩;rw[aH];refine ai (pk g16) ?_;have:=fin (.tuple #[kS (fV f) b c d e,.bool (dZ a)]) B0 lo (by rw[hk,h0];rfl) C0 k0;rw[hk,h0]at this;exact this
  |none=>
   refine aC hO Q0 rfl rfl rfl λl0 S0 D0 e0=>?_;have G0:l0.get m4.n=.cells [.nilFunc,.nilFunc,.nilFunc,.nilFunc,.nilFunc] 186 none:=D0;have o0:=(e0 m1.n (by omega)).trans gk;have g0:Ext m l0:=⟨by omega,λc H=>by rw[e0 c (by omega),j0.get c H]⟩
   refine cG (λvs m' lo=>vs=[.bool (dZ a)]/\m'.get m1.n=.cells [.nilFunc,.nilFunc,.nilFunc,.nilFunc,.nilFunc] 186 none/\Ext m m'/\m.n<=lo) (λR hR=>?_) ?_
   ·refine ai (pk G0) ?_;rw[an];show Ce false _ _;rw[aM];refine aC hO o0 rfl rfl rfl λJ0 F0 b0 d0=>?_;refine⟨.inr ⟨trivial,trivial⟩,?_⟩;exact hR _ _ _ ⟨by unfold dZ;rw[GY hk h0];rfl,b0,⟨by omega,λc H=>by rw[d0 c (by omega),g0.get c H]⟩,by omega⟩
   rintro _ B0 lo ⟨rfl,g16,k0,C0⟩;rw[aH];refine ai (pk g16) ?_;have:=fin (.tuple #[HB,.bool (dZ a)]) B0 lo (by rw[hk,h0];rfl) C0 k0;rw[hk,h0]at this;exact this
theorem Of{z:Int}:aK TE m 25 1 [(0,.int .i64 z)]=some (.slice (some ⟨m.n,0,none⟩) 1 1,m.push (.cells [.int .i64 z] 3 none)):=by kernel_rfl
theorem pB(H:cV X)(z:Int):∃v m',C X (.func 240) [.int .i64 z] m m.n v m'/\Ext m m'/\Sl m' [z] v/\bP v=false:=by
 have key:=Cl.gen (E:=TE) (X:=X) (f:=240) (args:=[.int .i64 z]) (m:=m) (R:=λF m' b=>b=m.n/\Ext m m'/\Sl m' [z] F/\bP F=false) (H.no _ rfl) R7 rfl ?_
 ·obtain⟨F,m',b,hc,rfl,h⟩:=key;exact⟨F,m',hc,h⟩
 rw[YP];dsimp only[aI,ν];rw[Of,aE];refine .inr ⟨.inl rfl,by omega,Ext.refl.push,Dq (α:=Int) (cs:=[.int .i64 z]) M.bJ rfl,rfl⟩
theorem Ht(hX:cV X)(a:Ac)(w:aed):∃v m',C X (.func 239) [a.v w] m m.n (.tuple #[v,aeg]) m'/\Ext m m'/\Sl m' [a.un.id] v:=by
 have key:=Cl.gen (E:=TE) (X:=X) (f:=239) (args:=[a.v w]) (m:=m) (R:=λrv m' b=>b=m.n/\∃v,rv=.tuple #[v,aeg]/\Ext m m'/\Sl m' [a.un.id] v) (hX.no _ rfl) R8 rfl ?_
 ·obtain⟨rv,m',b,hc,rfl,v,rfl,h⟩:=key;exact⟨v,m',hc,h⟩
 rw[YQ];dsimp only[aI,δ,ε,ς,φ,ψ];refine au λm1 h0 a0 b0=>?_;have d0:Ext m m1:=⟨by omega,b0⟩
 have g1:m1.get m.n=.cells (a.c w) 91 none:=a0;unfold ptrTo;refine ai bN (ai bE ?_);refine ai (eX g1).2.2.2.2.2 ?_;obtain⟨v,m5,e0,F,H,i0⟩:=pB (m:=m1) hX (a.un.id);refine az e0 ?_;have:=F.n
 have g0:bP (aO [v,aeg])=false:=by
  obtain⟨q,c,rfl⟩:=H.form
  cases q with
  |none=>rfl
  |some q=>rfl
 exact .inr ⟨.inl g0,by omega,v,rfl,d0.trans F,H⟩
theorem Hs(hX:cV X)(a:Ac)(w:aed):∃v m',C X (.func 250) [a.v w] m m.n (.tuple #[v,aeg]) m'/\Ext m m'/\Sl m' [a.id] v:=by
 have key:=Cl.gen (E:=TE) (X:=X) (f:=250) (args:=[a.v w]) (m:=m) (R:=λrv m' b=>b=m.n/\∃v,rv=.tuple #[v,aeg]/\Ext m m'/\Sl m' [a.id] v) (hX.no _ rfl) R3 rfl ?_
 ·obtain⟨rv,m',b,hc,rfl,v,rfl,h⟩:=key;exact⟨v,m',hc,h⟩
 rw[YJ];dsimp only[aI,δ,ε,ς,φ,ψ];refine au λm1 h0 a0 b0=>?_;have d0:Ext m m1:=⟨by omega,b0⟩
 have g1:m1.get m.n=.cells (a.c w) 91 none:=a0;unfold ptrTo;refine ai aW (ai (eX g1).2.1 ?_);obtain⟨v,m5,e0,F,H,i0⟩:=pB (m:=m1) hX (a.id);refine az e0 ?_;have:=F.n
 have g0:bP (aO [v,aeg])=false:=by
  obtain⟨q,c,rfl⟩:=H.form
  cases q with
  |none=>rfl
  |some q=>rfl
 exact .inr ⟨.inl g0,by omega,v,rfl,d0.trans F,H⟩
theorem Hq(hX:cV X)(a:Ac)(w:aed):∃v m',C X (.func 267) [a.v w] m m.n (.tuple #[v,aeg]) m'/\Ext m m'/\Sl m' [a.id] v:=by
 have key:=Cl.gen (E:=TE) (X:=X) (f:=267) (args:=[a.v w]) (m:=m) (R:=λrv m' b=>b=m.n/\∃v,rv=.tuple #[v,aeg]/\Ext m m'/\Sl m' [a.id] v) (hX.no _ rfl) RW rfl ?_
 ·obtain⟨rv,m',b,hc,rfl,v,rfl,h⟩:=key;exact⟨v,m',hc,h⟩
 rw[Yy];dsimp only[aI,δ,ε,ς,φ,ψ];refine au λm1 h0 a0 b0=>?_;have d0:Ext m m1:=⟨by omega,b0⟩
 have g1:m1.get m.n=.cells (a.c w) 91 none:=a0;unfold ptrTo;refine ai aW (ai (eX g1).2.1 ?_);obtain⟨v,m5,e0,F,H,i0⟩:=pB (m:=m1) hX (a.id);refine az e0 ?_;have:=F.n
 have g0:bP (aO [v,aeg])=false:=by
  obtain⟨q,c,rfl⟩:=H.form
  cases q with
  |none=>rfl
  |some q=>rfl
 exact .inr ⟨.inl g0,by omega,v,rfl,d0.trans F,H⟩
theorem yS(hX:cV X)(a:Ac)(w:aed):∃v m',C X (.func 273) [a.v w] m m.n (.tuple #[aeg,v]) m'/\Ext m m'/\Sl m' [a.id] v:=by
 have key:=Cl.gen (E:=TE) (X:=X) (f:=273) (args:=[a.v w]) (m:=m) (R:=λrv m' b=>b=m.n/\∃v,rv=.tuple #[aeg,v]/\Ext m m'/\Sl m' [a.id] v) (hX.no _ rfl) RT rfl ?_
 ·obtain⟨rv,m',b,hc,rfl,v,rfl,h⟩:=key;exact⟨v,m',hc,h⟩
 rw[Yu];dsimp only[aI,δ,ε,ς,φ,ψ];refine au λm1 h0 a0 b0=>?_;have d0:Ext m m1:=⟨by omega,b0⟩
 have g1:m1.get m.n=.cells (a.c w) 91 none:=a0;unfold ptrTo;refine ai aW (ai (eX g1).2.1 ?_);obtain⟨v,m5,e0,F,H,i0⟩:=pB (m:=m1) hX (a.id);refine az e0 ?_;have:=F.n
 have g0:bP (aO [aeg,v])=false:=by
  obtain⟨q,c,rfl⟩:=H.form
  cases q with
  |none=>rfl
  |some q=>rfl
 exact .inr ⟨.inl g0,by omega,v,rfl,d0.trans F,H⟩
theorem Hp(hX:cV X)(a:Ac)(w:aed):∃v1 v2 m',C X (.func 276) [a.v w] m m.n (.tuple #[v1,v2]) m'/\Ext m m'/\Sl m' [a.jL.un] v1/\Sl m' [a.jL.id] v2:=by
 have key:=Cl.gen (E:=TE) (X:=X) (f:=276) (args:=[a.v w]) (m:=m) (R:=λrv m' b=>b=m.n/\∃v1 v2,rv=.tuple #[v1,v2]/\Ext m m'/\Sl m' [a.jL.un] v1/\Sl m' [a.jL.id] v2) (hX.no _ rfl) RQ rfl ?_
 ·obtain⟨rv,m',b,hc,rfl,v1,v2,rfl,h⟩:=key;exact⟨v1,v2,m',hc,h⟩
 rw[Ys];dsimp only[aI,δ,ε,ς,φ,ψ];refine au λm1 l0 e0 g0=>?_;have h0:Ext m m1:=⟨by omega,g0⟩
 have g1:m1.get m.n=.cells (a.c w) 91 none:=e0;unfold ptrTo;refine ai dW (ai fW ?_);refine ai (show ah TE m1 3 (aeb m.n (0+10+1))=some (.int .i64 a.jL.un) by rw[cd,aF g1];rfl) ?_;obtain⟨v,m6,i0,a0,b0,o0⟩:=pB (m:=m1) hX a.jL.un;refine az i0 ?_;have:=a0.n;refine⟨Ξ _,?_⟩;have g6:=a0.cells g1;refine ai dW (ai cH ?_);refine ai (eX g6).2.2.2.2.1 ?_;obtain⟨v2,q0,d0,F,H,k0⟩:=pB (m:=m6) hX a.jL.id;refine az d0 ?_;have:=F.n
 have j0:bP (aO [v,v2])=false:=by obtain⟨q,c,rfl⟩:=b0.form;obtain⟨q2,c2,rfl⟩:=H.form;cases q <;>rfl
 exact .inr ⟨.inl j0,by omega,v,v2,rfl,(h0.trans a0).trans F,b0.aD F,H⟩
theorem NR{x y:Int}:aK TE m 25 2 [(0,.int .i64 x),(1,.int .i64 y)]=some (.slice (some ⟨m.n,0,none⟩) 2 2,m.push (.cells [.int .i64 x,.int .i64 y] 3 none)):=by kernel_rfl
theorem Hr(hX:cV X)(a:Ac)(w:aed):∃v m',C X (.func 262) [a.v w] m m.n (.tuple #[v,aeg]) m'/\Ext m m'/\Sl m' [min a.id a.un.id,max a.id a.un.id] v:=by
 have key:=Cl.gen (E:=TE) (X:=X) (f:=262) (args:=[a.v w]) (m:=m) (R:=λrv m' b=>b=m.n/\∃v,rv=.tuple #[v,aeg]/\Ext m m'/\Sl m' [min a.id a.un.id,max a.id a.un.id] v) (hX.no _ rfl) RZ rfl ?_
 ·obtain⟨rv,m',b,hc,rfl,v,rfl,h⟩:=key;exact⟨v,m',hc,h⟩
 rw[YC];dsimp only[aI,δ,ε,κ,ν,ς,φ]
 refine au λF d0 H a0=>?_
 have b0:Ext m F:=⟨by omega,a0⟩
 have g1:F.get m.n=.cells (a.c w) 91 none:=H
 unfold ptrTo
 refine ai aW ?_
 refine ai (eX g1).2.1 ?_
 refine ai bN ?_
 refine ai bE ?_
 refine ai (eX g1).2.2.2.2.2 ?_
 rw[iQ,aE]
 refine ai aW ?_
 refine ai (eX g1).2.1 ?_
 refine ai bN ?_
 refine ai bE ?_
 refine ai (eX g1).2.2.2.2.2 ?_
 rw[lJ,aE,NR,aE]
 refine .inr ⟨.inl rfl,by omega,_,rfl,b0.trans Ext.refl.push,.inr ⟨F.n,0,2,[.int .i64 (min a.id a.un.id),.int .i64 (max a.id a.un.id)],none,rfl,M.bJ,Ξ _,λi x hi=>?_⟩⟩
 match i with
 |0=>cases hi;rfl
 |1=>cases hi;rfl
 |i+2=>simp at hi
def lM(z:Int):aed:=(iU z).getD ((jc z).getD HB)
theorem Ho(hX:cV X){a:Ac}{w:aed}(h:dU a=true):
  ∃x f y z u,lM a.kind=kS x (fV f) y z u/\(cells (lM a.kind)).all one=true/\∀F,∃v1 v2 m',C X (.func f) [a.v w] F F.n (.tuple #[v1,v2]) m'/\Ext F m'/\Sl m' (fK a) v1/\Sl m' (vQ a) v2:=by
 obtain⟨kd,un,id,i,k,jL⟩:=a;by_cases h1:kd=1
 ·subst h1;refine⟨_,_,_,_,_,rfl,rfl,λF=>?_⟩;obtain⟨v,m',H,hx,hs⟩:=Ht (m:=F) hX ⟨1,un,id,i,k,jL⟩ w;exact⟨_,_,m',H,hx,hs,Sl.nil⟩
 by_cases h2:kd=2
 ·subst h2;refine⟨_,_,_,_,_,rfl,rfl,λF=>?_⟩;obtain⟨v,m',H,hx,hs⟩:=Hs (m:=F) hX ⟨2,un,id,i,k,jL⟩ w;exact⟨_,_,m',H,hx,hs,Sl.nil⟩
 by_cases h3:kd=3
 ·subst h3;refine⟨_,_,_,_,_,rfl,rfl,λF=>?_⟩;obtain⟨v,m',H,hx,hs⟩:=Hr (m:=F) hX ⟨3,un,id,i,k,jL⟩ w;exact⟨_,_,m',H,hx,hs,Sl.nil⟩
 by_cases h4:kd=4
 ·subst h4;refine⟨_,_,_,_,_,rfl,rfl,λF=>?_⟩;obtain⟨v,m',H,hx,hs⟩:=Hq (m:=F) hX ⟨4,un,id,i,k,jL⟩ w;exact⟨_,_,m',H,hx,hs,Sl.nil⟩
 by_cases h5:kd=5
 ·subst h5;refine⟨_,_,_,_,_,rfl,rfl,λF=>?_⟩;obtain⟨v1,v2,m',H,hx,a0,b0⟩:=Hp (m:=F) hX ⟨5,un,id,i,k,jL⟩ w;exact⟨_,_,m',H,hx,a0,b0⟩
 by_cases h6:kd=6
 ·subst h6;refine⟨_,_,_,_,_,rfl,rfl,λF=>?_⟩;obtain⟨v,m',H,hx,hs⟩:=yS (m:=F) hX ⟨6,un,id,i,k,jL⟩ w;exact⟨_,_,m',H,hx,Sl.nil,hs⟩
 by_cases h7:kd=7
 ·subst h7;refine⟨_,_,_,_,_,rfl,rfl,λF=>?_⟩;obtain⟨v,m',H,hx,hs⟩:=yS (m:=F) hX ⟨7,un,id,i,k,jL⟩ w;exact⟨_,_,m',H,hx,Sl.nil,hs⟩
 exfalso;unfold dU at h;dsimp only at h;rw[aaa h1,aaa h2,aaa h3,aaa h4,aaa h5,aaa (by omega)]at h;cases h
theorem KK{a:Ac}(h:dU a=true):¬(fK a=[]/\vQ a=[]):=by
 rintro⟨F,H⟩
 unfold fK at F
 unfold vQ at H
 unfold dU at h
 repeat' split at F
 all_goals first |cases F |skip
 repeat' split at H
 all_goals first |cases H |skip
 simp_all
theorem ID(hX:cV X){a:Ac}{w:aed}(hw:Sl m a.un.shape w)(hu:a.un.shape.length < 4611686018427387904):
  ∃v1 v2 m',C X (.func 43) [a.v w] m m.n (.tuple #[v1,v2]) m'/\Ext m m'/\Sl m' (if dZ a=true then fK a else []) v1/\Sl m' (if dZ a=true then vQ a else []) v2:=by
 have key:=Cl.gen (E:=TE) (X:=X) (f:=43) (args:=[a.v w]) (m:=m) (R:=λrv m' b=>b=m.n/\∃v1 v2,rv=.tuple #[v1,v2]/\Ext m m'/\Sl m' (if dZ a=true then fK a else []) v1/\Sl m' (if dZ a=true then vQ a else []) v2) (hX.no _ rfl) Vy rfl ?_
 ·obtain⟨rv,m',b,hc,rfl,v1,v2,rfl,h⟩:=key;exact⟨v1,v2,m',hc,h⟩
 rw[F43];dsimp only[aI,δ,ε,ι,ξ,ο,ς,υ,φ,ψ]
 refine au λm1 C0 o0 q0=>?_
 have e0:Ext m m1:=⟨by omega,q0⟩
 have g1:m1.get m.n=.cells (a.c w) 91 none:=o0
 unfold ptrTo
 refine ai (e8 g1) ?_
 obtain⟨m4,r0,a0⟩:=rZ (m:=m1) hX (hw.aD e0) hu
 refine az r0 ?_
 have A0:=a0.n
 refine ai (v:=lM a.kind) rfl ?_
 refine ai (v:=.bool (dZ a)) rfl ?_
 refine au λm8 D0 g0 s0=>?_
 cases hf:dZ a with
 |false=>
  have b0:(cells (lM a.kind)).length=5/\(cells (lM a.kind)).all one=true:=by
   unfold lM iU jc;repeat' split
   all_goals exact⟨rfl,rfl⟩
  refine aC hO g0 b0.1 b0.1 b0.2 λm9 u0 h0 i0=>?_;rw[bM,ae,an,aau,bU];refine .inl ⟨rfl,by omega,rfl,_,_,rfl,.refl,?_,?_⟩;·rw[aaa (by decide)];exact Sl.nil
  rw[aaa (by decide)];exact Sl.nil
 |true=>
  have hr:dU a=true:=by unfold dZ at hf;rw[Ψ]at hf;exact hf.1
  obtain⟨x,f,y,z,u,e,F,v0⟩:=Ho (w:=w) hX hr;rw[e]at F⊢;refine aC hO g0 rfl rfl F λm9 u0 h0 i0=>?_;have g9:m9.get m4.n=.cells [x,fV f,y,z,u] 186 none:=h0;have d0:Ext m4 m9:=⟨by omega,λc hc=>by rw[i0 c (by omega),s0 c hc]⟩
  rw[bM,ae,an,aal,aM];refine ai tZ ?_;refine ai (show ah TE m9 95 (aeb m4.n (0+1))=some (fV f) by rw[Ol,aF g9];rfl) ?_;refine ai (e8 (d0.cells (a0.cells g1))) ?_;rw[bY];obtain⟨v1,v2,E0,j0,H,k0,l0⟩:=v0 m9;refine az j0 ?_;have F0:=H.n;have B0:=d0.n;refine ai (v:=v1) rfl ?_;refine ai (v:=v2) rfl ?_
  have z0:bP (aO [v1,v2])=false:=by
   rcases k0 with⟨rfl,e1⟩ |⟨b1,o1,c1,G0,H0,rfl, -⟩
   ·rcases l0 with⟨rfl,e2⟩ |⟨b2,o2,c2,I0,J0,rfl, -⟩;·exact absurd ⟨e1,e2⟩ (KK hr)
    rfl
   rfl
  refine .inr ⟨.inl z0,by omega,v1,v2,rfl,((e0.trans a0).trans d0).trans H,?_,?_⟩;·rw[aaf rfl];exact k0
  rw[aaf rfl];exact l0
end
end Go.Proofs.YtmdfgncoekfgdaaGreatDoor
