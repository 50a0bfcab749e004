/- What functions of the program .. -/
import Derived.Test.YtigpcbodmjjaiaaGreatDoorG6J
import Derived.Deep.WholeRow
import Derived.Lib.AppendZerosOnto
import Derived.Shelf.Spec.SlicesInsert
set_option maxRecDepth 100000
noncomputable section
open Go Go.D Go.Proofs.Tryz
namespace Go.Proofs.YtigpcbodmjjaiaaGreatDoor
theorem aaX{X:aK}{x0:Φ}{m:M}{R:Bt->M->Nat->Prop}:dP TE (aL TE X) f104 [x0] m R=ρ m x0 33 λa=>ς a [YM,YM] 33 λb=>ε 33 (υ m) 1 λc=>δ b 31 c λc=>ψ X 106 [c] b λb c d=>θ 33 [(1,b)] λb=>ς c [YM,YM] 33 λf=>ι f 33 (υ c) b λb f=>ε 33 (υ m) 0 λg=>ε 30 g 0 λg=>δ b 28 g λg=>κ b .len [28] [g] λh _=>Lp (λb d f i=>un d λd _=>η .lss 3 d h λh=>aR h (ζ 28 g d λa=>δ f 60 a λa=>ς f [χ 0,χ 0,χ 0,YM,χ 0,χ 0] 60 λg=>ι g 60 (υ f) a λa g=>ε 60 (υ f) 3 λh=>δ a 58 h λh=>ψ X 82 [h] a λa h j=>ε 60 (υ f) 3 λk=>ι h 58 k a λa h=>ε 33 (υ c) 0 λk=>ε 30 k 0 λk=>δ a 28 k λk=>δ a 60 (υ f) λf=>ν a 28 1 [(0,f)] λa f=>κ (M.wl f f.n) .append [28,28] [k,a] λa f=>ε 33 (υ c) 0 λc=>ε 30 c 0 λc=>ι f 28 c a λa c=>η .add 3 d (χ 1) λd=>b [d] a (Θ i g j h (M.low f) c)) (δ f 33 (υ c) λb=>ι f 33 (υ a) b λb c=>ai (ah TE b 33 (υ a)) λa=>R [a] b (min i c))) [χ 0] b (ω m.n d f):=by kernel_rfl
section
variable {X:aK} {m:M}
def oR{α:Type}[aW α](n1:Nat)(m:M)(l:List α)(v:Φ):Prop:=
 Ow n1 m l v\/(l=[]/\∃b,v=.slice (some ⟨b,0,none⟩) 0 0/\n1<=b/\m.get b=.cells [] (aW.ty α) none)
section
variable {α:Type} [aW α]
theorem oR.sl{n1:Nat}{l:List α}{v:Φ}(h:oR n1 m l v):Sl m l v:=by
 rcases h with h|⟨rfl,b,rfl,h1,H⟩;·exact h.sl
 exact .inr ⟨b,0,0,[],none,rfl,H,by simp,by grind⟩
theorem oR.aE{n1:Nat}{m':M}{l:List α}{v:Φ}(h:oR n1 m l v)(H:Ext m m'):oR n1 m' l v:=
 h.imp (λh=>h.aE H) λ⟨h1,b,h2,h3,h4⟩=>⟨h1,b,h2,h3,H.cells h4⟩
theorem oR.mono{n1 n2:Nat}{l:List α}{v:Φ}(h:oR n1 m l v)(H:n2<=n1):oR n2 m l v:=
 h.imp (λh=>h.mono H) λ⟨h1,b,h2,h3,h4⟩=>⟨h1,b,h2,by omega,h4⟩
theorem oR.om{n1:Nat}{m':M}{l:List α}{v:Φ}(ht:aW.cT α=[])(h:oR n1 m l v)(hk:∀c,n1<=c->c<m.n->m'.get c=m.get c):oR n1 m' l v:=
 h.imp (λh=>h.om ht hk) λ⟨h1,b,h2,H,h4⟩=>⟨h1,b,h2,H,by rw[hk b H (M.aU h4),h4]⟩
theorem adI{T:TypeId}(hT:qH TE T α){a0 a:Addr}{c:Nat}:av TE (m.wl m.n) .append [T,T] [.slice (some a0) 0 0,.slice (some a) 0 c]=some (.slice (some a0) 0 0,m.wl m.n):=by
 have⟨ti,H,t1,t2,t3,t4,t5,t6⟩:=hT;have b0:=aW.pos (α:=α);have c1:Nat.beq ti.es 0=false:=by
  cases hb:Nat.beq ti.es 0 with
  |false=>rfl
  |true=>have:=vZ hb;omega
 have c2:Nat.blt 65536 H.bytes=false:=by
  cases hb:Nat.blt 65536 H.bytes with
  |false=>rfl
  |true=>rw[OZ]at hb;omega
 have hf:first? (m.wl m.n) ti.es 0 (.slice (some a) 0 c)=some []:=rfl;have hc:(Nat.beq ti.es 0 ||Nat.blt 65536 H.bytes || !([]:Bt).all D.one ||Nat.blt 268435456 (0+0) || !Nat.beq ([]:Bt).length (0*ti.es) || !gw H.zero ti.es)=false:=by
  have c4:Nat.beq ([]:Bt).length (0*ti.es):=by simp_all
  rw[c1,c2,c4,t3,t6];rfl
 simp only[av,dU,t1,t2,t4,lX,hf];rw[hc];rfl
abbrev V7(T:TypeId)(W:Words)(x0:Φ)(m:M)(R:Bt->M->Nat->Prop):Prop:=
(W.ai (aA TE .eql T x0 (.slice none 0 0)) λv1=>(aR v1
(R [.slice none 0 0] m (M.n m))
(W.aO (aF TE m T 0 []) λv2 m3=>(W.aO (av TE (M.wl m3 (M.n m3)) .append [T,T] [v2,x0]) λv4 m5=>(R [v4] m5 (min (M.n m) (M.low m5)))))))
theorem pM{T:TypeId}(hT:qH TE T α){f:Nat}{fn:Func}(hX:PV X f)(hf:TE.fn.get f=some fn)(hn:Nat.ble 1 fn.ntmps)
  (hF:∀{W:Words} {x0:Φ} {m:M} {R:Bt->M->Nat->Prop},dP TE W fn [x0] m R=V7 T W x0 m R)
  (h1:aA TE .eql T YM YM=some Ku) (h2:∀a n c,aA TE .eql T (.slice (some a) n c) YM=some Zf)
  (h3:∀m:M,aF TE m T 0 []=some (KI m.n 0 0 0,m.push (.cells [] (aW.ty α) none)))
  {l:List α} {v:Φ} (hl:Sl m l v) (hs:l.length<=1000000):∃v' m',C X (.func f) [v] m m.n v' m'/\Ext m m'/\oR m.n m' l v':=by
 have key:∃v' m' b,C X (.func f) [v] m b v' m'/\b=m.n/\Ext m m'/\oR m.n m' l v':=by
  refine Cl.gen (R:=λv' m' b=>b=m.n/\Ext m m'/\oR m.n m' l v') hX hf hn ?_;rw[hF];dsimp only[V7,aL];rcases hl with⟨rfl,rfl⟩|⟨b,o,c,bc,g,rfl,hb,hlen,e0⟩;·rw[h1,ae,aj,bH];exact .inl ⟨rfl,Ox _,rfl,.refl,.inl Ow.nil⟩
  have hl:Sl m l (KI b o l.length c):=.inr ⟨b,o,c,bc,g,rfl,hb,hlen,e0⟩;rw[h2,ae,aj,aN,h3,az];have H:Ext m (m.push (.cells [] (aW.ty α) none)):=Ext.refl.push;by_cases a0:l=[]
  ·subst a0;rw[GK,adI hT,az];exact .inr ⟨.inl rfl,by show min m.n _=m.n;simp[M.xE,M.iQ],H.wl,.inr ⟨rfl,m.n,rfl,Ox _,M.aX⟩⟩
  have⟨v',m1,e1,b0,he,d0⟩:=ik (m:=m.push (.cells [] (aW.ty α) none)) hT (b:=m.n) M.aX (hl.aE H) a0 hs;rw[e1,az];have g0:=b0.flat a0;rw[M.iQ]at d0;exact .inr ⟨.inl g0,by omega,H.trans he,.inl (b0.mono (by rw[M.iQ];omega))⟩
 obtain⟨v',m',b,hc,rfl,h⟩:=key;exact⟨v',m',hc,h⟩
end
theorem aen{W:Words}{x0:Φ}{m:M}{R:Bt->M->Nat->Prop}:dP TE W f106 [x0] m R=V7 31 W x0 m R:=by kernel_rfl
theorem V3{W:Words}{x0:Φ}{m:M}{R:Bt->M->Nat->Prop}:dP TE W f82 [x0] m R=V7 58 W x0 m R:=by kernel_rfl
theorem zf(H:cd X){l:List Mk}{v:Φ}(hl:Sl m l v)(hs:l.length<=1000000):∃v' m',C X (.func 106) [v] m m.n v' m'/\Ext m m'/\oR m.n m' l v':=
 pM vd (H.no _ rfl) (Kg func106) rfl aen (by kernel_rfl) (λ_ _ _=>by kernel_rfl) (λ_=>by kernel_rfl) hl hs
structure R6(S n1:Nat)(mm:M)(acc:List UW)(ms:List Mk)(r vm:Φ):Prop where
 cell:mm.get S=.cells [r,vm] 33 none
 ow:Ow (S+1) mm acc r
 sh:∀x∈acc,Sl mm x.u.shape x.w
 ln:∀x∈acc,x.u.shape.length < 1000000
 BN:oR n1 mm ms vm
theorem R6.qE{S n1:Nat}{mm:M}{acc:List UW}{ms:List Mk}{r vm:Φ}(h:R6 S n1 mm acc ms r vm):cP mm acc r:=
 ⟨h.ow.sl,h.sh,h.ln,by
  rcases h.ow with⟨_,h⟩|⟨b,cs,h1,h2,h3,H,h5,h6⟩;·grind
  ·exact .inr ⟨b,0,_,cs,_,h1,Ox _,H,.inr rfl⟩⟩
theorem GN(hX:cd X){l:List UW}{ms:List Mk}{r vm:Φ}(hF:cP m l r)(k1:∀x∈l,x.u.shape≠ [])(H1:l.length<=1000)(hm:Sl m ms vm)(l1:ms.length<=1000000):
  ∃r' H m' l',C X (.func 104) [.agg #[r,vm]] m m.n (.agg #[r',H]) m'/\Ext m m'/\bM l'=bM l/\cP m' l' r'/\oR m.n m' ms H:=by
 refine Cl.ky hX (Kg func104) (R:=λv' m'=>∃r' H l',v'=.agg #[r',H]/\Ext m m'/\bM l'=bM l/\cP m' l' r'/\oR m.n m' ms H) ?_ λv' m' hc ⟨r',H,l',e,h1,h2,h3,h4⟩=>⟨r',H,m',l',e ▸ hc,h1,h2,h3,h4⟩
 rw[aaX];dsimp only[δ,ε,ζ,η,θ,ι,κ,ν,ρ,ς,υ,χ,ψ,Θ,ω];refine aw λm1 d2 o1 i2=>?_;refine aw λm2 j2 p1 r1=>?_;have z0:Ext m m2:=⟨by omega,by grind⟩
 have g1:m2.get m.n=.cells [r,vm] 33 none:=by rw[r1 _ (by omega)];exact o1
 have g2:m2.get m1.n=.cells [YM,YM] 33 none:=p1;unfold ptrTo;rw[cB,ae,ki,aI g1];simp only[Wl,zi,F9,ae];have⟨H,m6,u1,q0,r0⟩:=zf (m:=m2) hX (hm.aE z0) l1;refine aG u1 ?_;have I1:=q0.n;have l0:one H:=r0.sl.one;have⟨am,cm,v1⟩:=r0.sl.form;have H0:aJ TE 33 [(1,H)]=some (.agg #[YM,H]):=by rw[v1];exact zj rfl
 rw[H0,ae];refine aw λm9 k2 w1 l2=>?_;refine aC eH w1 rfl rfl (by show(true && (one H && true))=true;rw[l0];rfl) λm10 J1 I0 K1=>?_;have g10:m10.get m6.n=.cells [YM,H] 33 none:=I0;have g0:Ext m6 m10:=⟨by omega,by grind⟩
 have J0:=(z0.trans q0).trans g0;have L1:=z0.n;have G1:=g0.cells (q0.cells g1);rw[bV,ae,bJ,ae,dT,aI G1];simp only[Wl,zi,ae];rw[(hF.sl.aE J0).len dc,az];refine Lp.T0 (γ:=Nat) (λi=>l.length-i) (λi vs mm lo=>∃acc r',vs=[YR i]/\i<=l.length/\bM acc=(bM l).take i/\R6 m6.n m2.n mm acc ms r' H/\(∀c,c<m6.n->mm.get c=m10.get c)/\m10.n<=mm.n/\m.n<=lo) 0 ⟨[],_,rfl,ZE _,rfl,⟨g10,Ow.nil,λx hx=>(by cases hx),λx hx=>(by cases hx),r0.aE g0⟩,λ_ _=>rfl,Ox _,by omega⟩ ?_;rintro i vs mm lo ⟨acc,r',rfl,hi,m0,hS,hk,o2,u2⟩ P hP;have A0:Ext m mm:=⟨by omega,λc hc=>by rw[hk c (by omega),J0.get c hc]⟩
 have N1:acc.length=i:=by have:=congrArg List.length m0;rw[cx,Gy,cx]at this;omega
 rw[aB,aM,ae,aj];refine an (λB0=>?_) (λv2=>?_)
 ·have B0:i<l.length:=by grind
  obtain⟨x,hx⟩:∃x,l[i]?=some x:=⟨_,Fx B0⟩
  have e0:=LZ hx;have⟨a,e1,e2,l0⟩:=(hF.sl.aE A0).eY (k:=.i64) hx;rw[e1,ae,e2,ae];refine aw λw2 O1 K0 P1=>?_;refine aC dm K0 rfl rfl (Un.cH l0) λC0 T1 L0 a2=>?_;have v0:Ext mm C0:=⟨by omega,by grind⟩
  have gu:C0.get mm.n=.cells x.c 60 none:=L0;obtain⟨-, -, -,l3, -, -⟩:=kz gu;rw[bD,ae,l3,ae];obtain⟨w',y2,N0,d0,n0⟩:=ze (m:=C0) hX ((hF.sh x e0).aE (A0.trans v0)) (k1 x e0) (by have:=hF.ln x e0;omega);refine aG N0 ?_;have n31:=n0.n;have o7:one w':=d0.sl.one;have O0:=n0.cells gu;rw[ae];refine bS vj O0 (by rw[d0.sl.cells];rfl) (by rw[d0.sl.cells];show 3+1<=6;omega) (by rw[d0.sl.cells];simp[o7]) λa0 b2 P0 y0=>?_;have y1:a0.get mm.n=.cells (x.u.c w') 60 none:=by rw[P0,d0.sl.cells];rfl
  have o0:∀c,c<mm.n->a0.get c=mm.get c:=λc hc=>by rw[y0 c (by omega),n0.get c (by omega),v0.get c hc]
  have i0:Ext mm a0:=⟨by omega,o0⟩
  have b0:R6 m6.n m2.n a0 acc ms r' H:=⟨i0.cells hS.cell,hS.ow.aE i0,λy hy=>(hS.sh y hy).aE i0,hS.ln,hS.BN.aE i0⟩
  have a1:Sl a0 x.u.shape w':=d0.sl.aV λb c t g hb ht=>by
   have h1:b≠mm.n:=λe=>by subst e;rw[O0]at hb;cases hb;simp[aW.ty,aW.cT]at ht
   rw[y0 b h1,hb]
  rw[bV,ae,bJ,ae,dT,aI b0.cell];simp only[Wl,zi,ae];rw[bU y1,ae];have z1:aF TE a0 28 1 [(0,x.u.v w')]=some (KI a0.n 0 1 1,a0.push (.cells (UW.c ⟨x.u,w'⟩) 60 none)):=BE (x:=⟨x.u,w'⟩);rw[z1,az];have b1:Ext a0 (a0.push (.cells (UW.c ⟨x.u,w'⟩) 60 none)):=Ext.refl.push;obtain⟨r2,z2,k0,e3,e4,h5,h6,h7,h8,h9,A1⟩:=M9 (α:=UW) (o:=0) (x:=⟨x.u,w'⟩) PJ rfl Mx rfl b0.cell rfl (OS _) (by grind) b0.ow b1 (Aa (M.aX) o7) (by omega);rw[e3,az,bJ,ae];simp only[Wl]at e4⊢;rw[e4,az,aP,ae,wrap64];have h8:a0.n+1<=k0.n:=h8;have c1:∀c,c<a0.n->(a0.push (.cells (UW.c ⟨x.u,w'⟩) 60 none)).get c=a0.get c:=λc hc=>M.cy hc;have D0:∀c,c<a0.n->c≠m6.n->(∀cs g,a0.get c≠.cells cs 60 g)->k0.get c=a0.get c:=λc hc h1 h2=>by rw[A1 c (by show c<a0.n+1;omega) h1 (λcs g=>by rw[c1 c hc];exact h2 cs g),c1 c hc]
  have d1:∀{sh:List Pl} {w:Φ},Sl a0 sh w->Sl k0 sh w:=λhs=>hs.aV λb c t g hb ht=>by
   have ht:t=141:=by simpa[aW.ty,aW.cT]using ht
   subst ht;rw[D0 b (M.aU hb) (λe=>by subst e;rw[b0.cell]at hb;cases hb) (by grind),hb]
  have s0:oR m2.n k0 ms H:=by
   rcases b0.BN with(⟨h1,h2⟩|⟨b,cs,h1,h2,h3,h4,E0,F0⟩)|⟨h1,b,h2,h3,h4⟩;·exact .inl (.inl ⟨h1,h2⟩)
   ·have B1:k0.get b=a0.get b:=D0 b (M.aU h4) (λe=>by subst e;rw[b0.cell]at h4;cases h4) (λC1 g' e=>by rw[e]at h4;cases h4);exact .inl (.inr ⟨b,cs,h1,h2,h3,by grind,E0,λi y hy=>F0 i y hy⟩)
   have B1:k0.get b=a0.get b:=D0 b (M.aU h4) (λe=>by subst e;rw[b0.cell]at h4;cases h4) (λC1 g' e=>by rw[e]at h4;cases h4);exact .inr ⟨h1,b,h2,h3,by grind⟩
  refine hP (i+1) _ _ _ (by omega) ⟨acc++ [⟨x.u,w'⟩],r2,by push_cast;rfl,B0,?_,⟨h6,h7,λy hy=>?_,λy hy=>?_,s0⟩,λc hc=>?_,by omega,by omega⟩;·rw[Q1,fP hx,<-m0];unfold bM;rw[Cu];rfl
  ·rcases OH.1 hy with hy|hy;·exact d1 (b0.sh y hy)
   rw[Qk]at hy;subst hy;exact d1 a1
  ·rcases OH.1 hy with hy|hy;·exact hS.ln y hy
   rw[Qk]at hy;subst hy;exact hF.ln x e0
  rw[h9 c (by omega) (by omega),o0 c (by omega),hk c hc]
 have D1:i=l.length:=by
  grind
 have er:one r':=hS.ow.sl.one;rw[lV,aQ (n:=2) hS.cell (by grind),TN,ae];have E1:mm.get m1.n=.cells [YM,YM] 33 none:=by rw[hk _ (by omega),g0.get _ (by omega),q0.get _ (by omega),g2]
 refine aC eH E1 rfl rfl (by show(one r' && (one H && true))=true;rw[er,r0.sl.one];rfl) λu0 c2 i1 j1=>?_;have F1:u0.get m1.n=.cells [r',H] 33 none:=i1;rw[lV,aQ (n:=2) F1 (by grind),TN,ae];have G0:Ext m u0:=⟨by omega,λc hc=>by rw[j1 c (by omega),A0.get c hc]⟩
 have s0:oR m.n u0 ms H:=by
  rcases hS.BN with(⟨h1,h2⟩|⟨b,cs,h1,h2,h3,h4,E0,F0⟩)|⟨h1,b,h2,h3,h4⟩;·exact .inl (.inl ⟨h1,h2⟩)
  ·exact .inl (.inr ⟨b,cs,h1,h2,by omega,by grind,E0,λi y hy=>F0 i y hy⟩)
  exact .inr ⟨h1,b,h2,by omega,by grind⟩
 have p0:cP u0 acc r':=hS.qE.aV λc cs t g hc ht=>by
  grind
 have j0:bM acc=bM l:=by rw[m0,D1,<-cx,V9]
 rcases hS.ow with⟨h1,h2⟩|⟨b,cs,h1, -⟩
 ·rcases s0 with(⟨h3,h4⟩|⟨b,cs,h3,hh⟩)|⟨h3,b,h4,hh⟩;·subst h1 h3;subst h2 h4;exact .inl ⟨by first|rfl|trivial,by omega,by grind,_,_,[],rfl,.refl,j0,HU m,.inl Ow.nil⟩
  ·exact .inr ⟨.inl (by rw[h1,h3];first|rfl|trivial),by omega,r',H,acc,rfl,G0,j0,p0,.inl (.inr ⟨b,cs,h3,hh⟩)⟩
  exact .inr ⟨.inl (by rw[h1,h4];first|rfl|trivial),by omega,r',H,acc,rfl,G0,j0,p0,.inr ⟨h3,b,h4,hh⟩⟩
 exact .inr ⟨.inl (by rw[h1];rfl),by omega,r',H,acc,rfl,G0,j0,p0,s0⟩
end
section
variable {m:M}
section
variable {α:Type} [aW α]
theorem KJ{cs:Bt}{k i j p:Nat}{c:Φ}(H:j<k):chunk (cs.set (i*k+j) c) k p=if p=i then(chunk cs k p).set j c else chunk cs k p:=by
 unfold chunk;by_cases e:p=i;·subst e;rw[Tf rfl,TX,im,show p*k+j-p*k=j by omega,List.take_set]
 rw[QL e];by_cases h:p<i;·have:(p+1)*k<=i*k:=ZW _ h;rw[JY,KR]at this;rw[TX,im,List.take_set,List.set_eq_of_length_le (by grind)]
 have:(i+1)*k<=p*k:=ZW _ (by omega);rw[JY,KR]at this;rw[TX,WD]
theorem TA(i0:aW.cT α=[]){n1:Nat}{l:List α}{v:Φ}(h:Ow n1 m l v){i:Nat}{x:α}(hi:l[i]?=some x){T t0:TypeId}(hT:oU TE T t0 α):
  ∃b,(∀q,ak TE T v (.int q i)=some (Ga b (0+i*aW.sz α)))/\n1<=b/\(∃cs g,m.get b=.cells cs (aW.ty α) g)/\b<m.n/\
   (∃cs,aW.rep m x cs/\∀j,j<aW.sz α->cellAt m ⟨b,0+i*aW.sz α+j,none⟩=cs[j]?)/\
   ∀(k:Nat) (t:TypeId) (ti:TI) (y:α) (c:Φ),TE.ty.get t=some ti->ti.size=1->cells c=[c]->one c->k<aW.sz α->(∀cs,aW.rep m x cs->∀m',aW.rep m' y (cs.set k c))->
    ∀P:M->Nat->Prop,(∀m1,m1.n=m.n->Ow n1 m1 (l.set i y) v->(∀c,c≠b->m1.get c=m.get c)->P m1 b)->
    aO (aD TE m t (Ga b (0+i*aW.sz α+k)) c) P:=by
 have b0:=(OJ.1 hi).1;rcases h with⟨_,rfl⟩|⟨b,cs,rfl,h2,h3,h4,h5,h6⟩;·grind
 have⟨d0,te,t1,⟨e,t2⟩,t3,t4,t5,t6⟩:=hT;have g0:=aW.pos (α:=α);have hmul:(i+1)*aW.sz α<=l.length*aW.sz α:=ZW _ b0;rw[JY,KR]at hmul;refine⟨b,λq=>?_,h3,⟨cs,_,h4⟩,M.aU h4,⟨_,h6 i x hi,λj hj=>?_⟩,λk t ti y c ht j0 hc h1 hk hy P hP=>?_⟩
 ·have H:0<=(i:Int)/\(i:Int)< (l.length:Int)/\0<d0.es:=⟨by omega,by omega,by omega⟩
  simp only[ak,t1,t2];rw[Tf H,bj rfl,t3];rfl
 ·rw[aI h4];unfold chunk;grind
 refine bS ht h4 (by grind) (by grind) (by grind) λm1 hn hg e0=>?_;rw[hc]at hg;have a0:cs.take (0+i*aW.sz α+k)++([c]++cs.drop (0+i*aW.sz α+k+ [c].length))=cs.set (i*aW.sz α+k) c:=by rw[Wl];exact iO (by omega)
 rw[a0]at hg;refine hP m1 hn (.inr ⟨b,_,by grind,by grind,h3,hg,by grind,λp z hz=>?_⟩) e0;rw[KJ hk];by_cases e:p=i;·grind
 rw[QL e];rw[List.getElem?_set_ne (Ne.symm e)]at hz;exact aW.aV (h6 p z hz) λb c t g _ h=>by grind
end
end
end Go.Proofs.YtigpcbodmjjaiaaGreatDoor
namespace Go.D
open Go
section
section
variable {P:Program} {E:Env} {X:aK} {σ:Sg} {m m1:M} {w w':World} {f:Nat} {args:Bt} {v:Φ} {args':Array Φ}
theorem Cl.calls(hE:E.OK P)(H:dJ P X)(hc:Cl E X (.func f) args m m.n v m1)(hs:fN P σ m w)(hl:bN σ args args'.toList):
  CallsIn Fence.wide 0 P f args' w (gD P σ (m.wl m.n) w v (m1.wl m.n))/\(callFunc f args').run P w=.ok (.enter f args') w:=by have⟨hn,_,n0,h⟩:=hc;have h1:=h (n0+1) (by omega) m.n (Ox _);rw[R0]at h1;exact rO hE H (mh hE H n0) h1 (hs.low m.n) hl
theorem gD.flat(hs:fN P σ m w)(hv:bw v){e:Ending}(h:gD P σ (m.wl m.n) w v (m1.wl m.n) e w'):gD P σ m w v m e w':=by obtain⟨v',σ',rfl,H,he⟩:=h;have:=H.bR hv;subst this;exact⟨_,σ,rfl,.flat _ hv,Ev.kept hs (λB hB=>he.heap B hB λb i hb _=>hs.rT b i hb) he.hle he.os he.tape he.output⟩
end
end
section
abbrev aeS:=Fn->Bt->M->Option M
end
end Go.D
namespace Go.Proofs.YtigpcbodmjjaiaaGreatDoor
section
variable {X:aK} {m:M}
theorem QP{r:Φ}(h:one r):(cells (.agg #[r])).all one:=by show(one r && true)=true;rw[h];rfl
abbrev Ac.c(a:Ac)(w:Φ):Bt:=[.int .i64 a.kind,.int .i64 a.un.id,.int .i64 a.un.kind,.int .i64 a.un.du,w,.int .i64 a.un.back,.int .i64 a.un.front,.int .i64 a.id,.int .i64 a.i,.int .i64 a.k,.int .i64 a.zB.id,.int .i64 a.zB.un,.int .i64 a.zB.side,.int .i64 a.zB.kind,.bool a.zB.Hq]
abbrev Ac.v(a:Ac)(w:Φ):Φ:=.agg (a.c w).toArray
section
variable {b:Nat} {a:Ac} {w:Φ} {g:Option Nat}
theorem PT(h:m.get b=.cells (a.c w) 184 g):ah TE m 60 (Ga b (0+1))=some (a.un.v w):=by rw[nF,aQ (n:=6) h (by simp_all)];rfl
theorem PU(h:m.get b=.cells (a.c w) 184 g):ah TE m 137 (Ga b (0+10))=some a.zB.v:=by rw[DR,aQ (n:=5) h (by simp_all)];rfl
theorem YK(h:m.get b=.cells (a.c w) 184 g):
  ah TE m 3 (Ga b (0+0))=some (YR a.kind)/\ah TE m 3 (Ga b (0+7))=some (YR a.id)/\ah TE m 3 (Ga b (0+8))=some (YR a.i)/\
  ah TE m 3 (Ga b (0+9))=some (YR a.k)/\ah TE m 3 (Ga b (0+10+0))=some (YR a.zB.id)/\ah TE m 3 (Ga b (0+1+0))=some (YR a.un.id):=by refine⟨?_,?_,?_,?_,?_,?_⟩ <;>(rw[bF,aI h];rfl)
end
theorem VW{x:Mk}:aA TE .eql 137 x.v (Mk.v ⟨0,0,0,0,false⟩)=some (.bool (vS x)):=by
 have e:aA TE .eql 137 x.v (Mk.v ⟨0,0,0,0,false⟩)=some (.bool ((x.id==0) && ((x.un==0) && ((x.side==0) && ((x.kind==0) && ((x.Hq==false) && true)))))):=by kernel_rfl
 rw[e];unfold vS;congr 2;have⟨a,b,c,d,e⟩:=x;grind
theorem eK(hX:cd X)(n lo hi:Int):C X (.func 301) [YR n,YR lo,YR hi] m m.n (.bool (cR n lo hi)) m:=by
 refine Cl.fl hX (Kg func301) ?_;rw[aa8];dsimp only[η];refine aZ (λvs m2 H=>vs=[.bool (cR n lo hi)]/\m.n<=H) (λR hR=>?_) ?_;·simp only[cz,cI,ae,aj];refine an (λh=>hR _ _ _ ⟨by simp[cR,h],Ox _⟩) (λh=>hR _ _ _ ⟨by simp[cR,h],Ox _⟩)
 rintro _ m2 H ⟨rfl,hl⟩;rw[aB];exact⟨rfl,hl⟩
theorem Aw(hX:cd X)(x:Mk):C X (.func 224) [x.v] m m.n (.bool (Av x)) m:=by
 refine Cl.fl hX (Kg func224) ?_;rw[ZU];dsimp only[δ,ε,ρ,υ,χ,ψ,Γ,Δ,ω];refine aw λm1 b0 H d0=>?_;have H:m1.get m.n=.cells x.c 137 none:=H;obtain⟨l0,l1,l2,l3, -⟩:=CL H;unfold ptrTo;refine aZ (λvs m' lo=>vs=[.bool (Av x)]/\m.n<=lo) (λR hR=>?_) ?_;·rw[bX,ae,l0,ae];refine aG (eK hX _ _ _) ?_;rw[aj];refine an (λc1=>?_) (λc1=>hR _ _ _ ⟨by unfold Av;rw[c1];rfl,by omega⟩);rw[dn,ae,l1,ae];refine aG (eK hX _ _ _) ?_;rw[aj];refine an (λc2=>?_) (λc2=>hR _ _ _ ⟨by unfold Av;rw[c1,c2];rfl,by omega⟩);rw[eE,ae,l2,ae];refine aG (eK hX _ _ _) ?_;rw[aj];refine an (λc3=>?_) (λc3=>hR _ _ _ ⟨by unfold Av;rw[c1,c2,c3];rfl,by omega⟩);rw[jV,ae,l3,ae];refine aG (eK hX _ _ _) ?_;exact hR _ _ _ ⟨by unfold Av;rw[c1,c2,c3];rfl,by omega⟩
 rintro _ m' lo ⟨rfl,a0⟩;rw[aB];exact⟨rfl,a0⟩
theorem zU(hX:cd X){u:Un}{w:Φ}(hw:Sl m u.shape w):C X (.func 302) [u.v w] m m.n (.bool (eN u)) m:=by
 refine Cl.fl hX (Kg func302) ?_;rw[ZB];dsimp only[δ,ε,η,κ,ρ,υ,χ];refine aw λm1 g0 H a0=>?_;have H:m1.get m.n=.cells (u.c w) 60 none:=H;have b0:=hw.aE (m':=m1) ⟨by omega,a0⟩;obtain⟨-,l1,l2,l3,l4,l5⟩:=kz H;unfold ptrTo;refine aZ (λvs m' lo=>vs=[.bool (eN u)]/\m.n<=lo) (λR hR=>?_) ?_
 ·simp only[cM,cL,bD,cK,cJ,ae,l1,l2,l3,l4,l5,b0.len cA,az,aS,aj];have d0:decide ((u.shape.length:Int)=0)=decide (u.shape=[]):=by
   simp_all
  refine an (λc1=>?_) (λc1=>hR _ _ _ ⟨by unfold eN;rw[c1];rfl,by omega⟩);refine an (λc2=>?_) (λc2=>hR _ _ _ ⟨by unfold eN;rw[c1,c2];rfl,by omega⟩);rw[d0];refine an (λc3=>?_) (λc3=>hR _ _ _ ⟨by unfold eN;rw[c1,c2,c3];rfl,by omega⟩);refine an (λc4=>?_) (λc4=>hR _ _ _ ⟨by unfold eN;rw[c1,c2,c3,c4];rfl,by omega⟩);exact hR _ _ _ ⟨by unfold eN;rw[c1,c2,c3,c4];rfl,by omega⟩
 rintro _ m' lo ⟨rfl,e0⟩;rw[aB];exact⟨rfl,e0⟩
def pz(a:Ac):Bool:=eN a.un && decide (a.un.id=0)
def mK(a:Ac):Bool:=decide (a.i=0) && decide (a.k=0)
section
variable {a:Ac}
theorem RC(hk:a.kind=1):ez a=(jD a.un && (decide (a.id=0) && (mK a && vS a.zB))):=by
 unfold ez ny mK;grind
theorem RB(hk:a.kind=2):ez a=(cR a.id 0 99 && (pz a && (mK a && vS a.zB))):=by
 unfold ez ny mK pz uj;grind
theorem RA(hk:a.kind=3):ez a=(cR a.id 0 99 && (eN a.un && (cR a.un.id 0 99 && (!decide (a.un.id=a.id) && (cR a.i 0 7 && (cR a.k 0 7 && (!decide (a.i=a.k) && vS a.zB))))))):=by
 unfold ez ny;grind
theorem Rz(hk:a.kind=4):ez a=(cR a.id 0 99 && (pz a && (cR a.i (-40) 40 && (cR a.k (-40) 40 && (!mK a && vS a.zB))))):=by
 unfold ez ny mK pz;grind
theorem Ry(hk:a.kind=5):ez a=(Av a.zB && (decide (a.id=0) && (pz a && mK a))):=by
 unfold ez ny mK pz uj;grind
theorem HS(hk:a.kind=6\/a.kind=7):ez a=(cR a.id 0 99 && (pz a && (mK a && vS a.zB))):=by
 unfold ez ny mK pz uj;grind
theorem RD(h:¬a.kind=1/\¬a.kind=2/\¬a.kind=3/\¬a.kind=4/\¬a.kind=5/\¬a.kind=6/\¬a.kind=7):ez a=false:=by
 unfold ez ny;grind
end
theorem aec(hX:cd X){a:Ac}{w:Φ}(hw:Sl m a.un.shape w)(hl:a.un.shape.length<4611686018427387904):C X (.func 227) [a.v w] m m.n (.bool (ez a)) m:=by
 refine Cl.fl hX (Kg func227) ?_;rw[ZR];dsimp only[aL,Fm,Wo,LH,RW,Qt,JA,IJ,Nn,RI,Γ,Δ,Θ,ω];refine aw λm1 l0 i0 j0=>?_;have g1:m1.get m.n=.cells (a.c w) 184 none:=i0;have g0:=hw.aE (m':=m1) ⟨by omega,j0⟩;obtain⟨fk,b0,fi,e0, -,d0⟩:=YK g1;have fU:=PT g1;have fM:=PU g1;unfold ptrTo;refine aZ (λvs mm lo=>vs=[.bool (pz a)]/\m1=mm/\lo=m.n) (λR H=>?_) ?_;·rw[jS,ae,fU,ae];refine aG (zU hX g0) ?_;rw[aj];refine an (λc=>?_) (λc=>H _ _ _ ⟨by unfold pz;rw[c];rfl,rfl,by omega⟩);rw[ae,bz,ae,d0,ae,aS,ae];exact H _ _ _ ⟨by unfold pz;rw[c];rfl,rfl,by omega⟩
 rintro _ _ _ ⟨rfl,rfl,rfl⟩;rw[aB];refine aZ (λvs mm lo=>vs=[.bool (mK a)]/\m1=mm/\lo=m.n) (λR H=>?_) ?_;·rw[oF,ae,fi,ae,aS,ae,aj];refine an (λc=>?_) (λc=>H _ _ _ ⟨by unfold mK;rw[c];rfl,rfl,rfl⟩);rw[oE,ae,e0,ae,aS,ae];exact H _ _ _ ⟨by unfold mK;rw[c];rfl,rfl,rfl⟩
 rintro _ _ _ ⟨rfl,rfl,rfl⟩;have k0:aJ TE 137 []=some (Mk.v ⟨0,0,0,0,false⟩):=aet;rw[aB];simp only[jT,jS,jR,oF,oE,oD,bz,ae];rw[fM,ae,k0,ae,VW,ae,fk,ae];have done:∀{lo:Nat} {b:Bool},m.n<=lo->b=ez a->bh [Value.bool b]=Value.bool (ez a)/\m.n<=lo:=λa0 e=>⟨by rw[e];rfl,a0⟩
 rw[aS,ae,aj];refine an (λk1=>?_) (λk1=>?_);·have hf:=RC (NT k1);refine aZ (λvs mm lo=>vs=[.bool (ez a)]/\m.n<=lo) (λR H=>?_) (by rintro _ mm lo ⟨rfl,a0⟩;rw[aB];exact done a0 rfl);rw[hf]at H;rw[fU,ae];refine aG (iP hX g0 hl) ?_;rw[aj];refine an (λc1=>?_) (λc1=>H _ _ _ ⟨by grind,by omega⟩);rw[b0,ae,aS,ae,aj];refine an (λc2=>?_) (λc2=>H _ _ _ ⟨by grind,by omega⟩);rw[aj];refine an (λc3=>?_) (λc3=>H _ _ _ ⟨by grind,by omega⟩);exact H _ _ _ ⟨by grind,by omega⟩
 have k1:=Ja k1;rw[aS,ae,aj];refine an (λk2=>?_) (λk2=>?_);·have hf:=RB (NT k2);refine aZ (λvs mm lo=>vs=[.bool (ez a)]/\m.n<=lo) (λR H=>?_) (by rintro _ mm lo ⟨rfl,a0⟩;rw[aB];exact done a0 rfl);rw[hf]at H;rw[b0,ae];refine aG (eK hX _ _ _) ?_;rw[aj];refine an (λc1=>?_) (λc1=>H _ _ _ ⟨by grind,by omega⟩);rw[aj];refine an (λc2=>?_) (λc2=>H _ _ _ ⟨by grind,by omega⟩);rw[aj];refine an (λc3=>?_) (λc3=>H _ _ _ ⟨by grind,by omega⟩);exact H _ _ _ ⟨by grind,by omega⟩
 have k2:=Ja k2;rw[aS,ae,aj];refine an (λk3=>?_) (λk3=>?_)
 ·have hf:=RA (NT k3);refine aZ (λvs mm lo=>vs=[.bool (ez a)]/\m.n<=lo) (λR H=>?_) (by rintro _ mm lo ⟨rfl,a0⟩;rw[aB];exact done a0 rfl);rw[hf]at H;rw[b0,ae];refine aG (eK hX _ _ _) ?_;rw[aj];refine an (λc1=>?_) (λc1=>H _ _ _ ⟨by grind,by omega⟩);rw[fU,ae];refine aG (zU hX g0) ?_;rw[aj];refine an (λc2=>?_) (λc2=>H _ _ _ ⟨by grind,by omega⟩);rw[d0,ae];refine aG (eK hX _ _ _) ?_;rw[aj];refine an (λc3=>?_) (λc3=>H _ _ _ ⟨by grind,by omega⟩);rw[d0,ae,b0,ae,bL,ae,aj];refine an (λc4=>?_) (λc4=>H _ _ _ ⟨by grind,by omega⟩);rw[fi,ae];refine aG (eK hX _ _ _) ?_;rw[aj];refine an (λc5=>?_) (λc5=>H _ _ _ ⟨by grind,by omega⟩);rw[e0,ae];refine aG (eK hX _ _ _) ?_;rw[aj];refine an (λc6=>?_) (λc6=>H _ _ _ ⟨by grind,by omega⟩);rw[fi,ae,e0,ae,bL,ae,aj];refine an (λc7=>?_) (λc7=>H _ _ _ ⟨by grind,by omega⟩);exact H _ _ _ ⟨by grind,by omega⟩
 have k3:=Ja k3;rw[aS,ae,aj];refine an (λk4=>?_) (λk4=>?_);·have hf:=Rz (NT k4);refine aZ (λvs mm lo=>vs=[.bool (ez a)]/\m.n<=lo) (λR H=>?_) (by rintro _ mm lo ⟨rfl,a0⟩;rw[aB];exact done a0 rfl);rw[hf]at H;rw[b0,ae];refine aG (eK hX _ _ _) ?_;rw[aj];refine an (λc1=>?_) (λc1=>H _ _ _ ⟨by grind,by omega⟩);rw[aj];refine an (λc2=>?_) (λc2=>H _ _ _ ⟨by grind,by omega⟩);rw[fi,ae];refine aG (eK hX _ _ _) ?_;rw[aj];refine an (λc3=>?_) (λc3=>H _ _ _ ⟨by grind,by omega⟩);rw[e0,ae];refine aG (eK hX _ _ _) ?_;rw[aj];refine an (λc4=>?_) (λc4=>H _ _ _ ⟨by grind,by omega⟩);rw[bk,ae,aj];refine an (λc5=>?_) (λc5=>H _ _ _ ⟨by grind,by omega⟩);exact H _ _ _ ⟨by grind,by omega⟩
 have k4:=Ja k4;rw[aS,ae,aj];refine an (λk5=>?_) (λk5=>?_);·have hf:=Ry (NT k5);refine aZ (λvs mm lo=>vs=[.bool (ez a)]/\m.n<=lo) (λR H=>?_) (by rintro _ mm lo ⟨rfl,a0⟩;rw[aB];exact done a0 rfl);rw[hf]at H;rw[ae];refine aG (Aw hX _) ?_;rw[aj];refine an (λc1=>?_) (λc1=>H _ _ _ ⟨by grind,by omega⟩);rw[b0,ae,aS,ae,aj];refine an (λc2=>?_) (λc2=>H _ _ _ ⟨by grind,by omega⟩);rw[aj];refine an (λc3=>?_) (λc3=>H _ _ _ ⟨by grind,by omega⟩);exact H _ _ _ ⟨by grind,by omega⟩
 have k5:=Ja k5;rw[aS,ae,aj];refine an (λk6=>?_) (λk6=>?_);·have hf:=HS (.inl (NT k6));rw[aj,k6,bH];refine aZ (λvs mm lo=>vs=[.bool (ez a)]/\m.n<=lo) (λR H=>?_) (by rintro _ mm lo ⟨rfl,a0⟩;rw[aB];exact done a0 rfl);rw[hf]at H;rw[b0,ae];refine aG (eK hX _ _ _) ?_;rw[aj];refine an (λc1=>?_) (λc1=>H _ _ _ ⟨by grind,by omega⟩);rw[aj];refine an (λc2=>?_) (λc2=>H _ _ _ ⟨by grind,by omega⟩);rw[aj];refine an (λc3=>?_) (λc3=>H _ _ _ ⟨by grind,by omega⟩);exact H _ _ _ ⟨by grind,by omega⟩
 have k6:=Ja k6;rw[aS,ae,aj];refine an (λk7=>?_) (λk7=>?_);·have hf:=HS (.inr (NT k7));refine aZ (λvs mm lo=>vs=[.bool (ez a)]/\m.n<=lo) (λR H=>?_) (by rintro _ mm lo ⟨rfl,a0⟩;rw[aB];exact done a0 rfl);rw[hf]at H;rw[b0,ae];refine aG (eK hX _ _ _) ?_;rw[aj];refine an (λc1=>?_) (λc1=>H _ _ _ ⟨by grind,by omega⟩);rw[aj];refine an (λc2=>?_) (λc2=>H _ _ _ ⟨by grind,by omega⟩);rw[aj];refine an (λc3=>?_) (λc3=>H _ _ _ ⟨by grind,by omega⟩);exact H _ _ _ ⟨by grind,by omega⟩
 have k7:=Ja k7;exact done (by omega) (RD ⟨k1,k2,k3,k4,k5,k6,k7⟩).symm
theorem jC{mm:M}{b:Nat}{v vm:Φ}{g:Option Nat}(h:mm.get b=.cells [v,vm] 33 g):
  ah TE mm 30 (Ga b (0+0))=some (.agg #[v])/\ah TE mm 28 (Ga b (0+0+0))=some v/\ah TE mm 31 (Ga b (0+1))=some vm/\ah TE mm 33 (Ga b 0)=some (.agg #[v,vm]):=by
 refine⟨?_,?_,?_,?_⟩;·rw[eo,aQ (n:=1) h (by grind)];rfl
 ·rw[dT,aI h];rfl
 ·rw[ki,aI h];rfl
 rw[lV,aQ (n:=2) h (by grind)];rfl
def SD(x:Mk)(u:Un):Bool:=decide (u.id=x.un) && decide (x.side < (u.shape.length:Int))
theorem Hr{us:List Un}{x:Mk}:us.any (SD x)↔∃u∈us,u.id=x.un/\x.side<u.shape.length:=by rw[JL];constructor <;>rintro⟨u,hu,h⟩ <;>refine⟨u,hu,?_⟩ <;>simpa[SD]using h
theorem Wn{ms:List Mk}(h:∀j x y,ms[j]?=some x->ms[j+1]?=some y->x.id<y.id):ms.Pairwise λa b=>a.id<b.id:=by
 have key:∀d i x y,ms[i]?=some x->ms[i+d+1]?=some y->x.id<y.id:=by
  intro d;induction d with
  |zero=>intro i x y H hy;exact h i x y H hy
  |succ d ih=>
   grind
 rw[Px];intro i j hi hj a0;refine key (j-i-1) i _ _ (Fx hi) ?_;grind
open Classical in
theorem uE{us:List Un}{ms:List Mk}(h:¬il us ms):iD us ms=false:=by unfold iD;exact Dh h
open Classical in
theorem fV{us:List Un}{ms:List Mk}:iD us ms=true↔il us ms:=by unfold iD;exact decide_eq_true_iff
theorem kT(hX:cd X){l:List UW}{v vm:Φ}{ms:List Mk}(h:cP m l v)(hlen:l.length<1000)(hm:Sl m ms vm)(G1:ms.length<4611686018427387904):
  C X (.func 176) [.agg #[v,vm]] m m.n (.bool (fL (bM l) && iD (bM l) ms)) m:=by
 refine Cl.fl hX (Kg func176) ?_;rw[aak];dsimp only[δ,ε,ζ,η,ι,κ,ο,ρ,ς,υ,χ,ψ,ω];refine aw λm1 H1 a1 b1=>?_;have g1:m1.get m.n=.cells [v,vm] 33 none:=a1;have l0:Ext m m1:=⟨by omega,b1⟩
 unfold ptrTo;simp only[bV,cB,bJ,ae];obtain⟨s0,s1,s2, -⟩:=jC g1;have no:∀{lo:Nat} {b:Bool},m.n<=lo->b=(fL (bM l) && iD (bM l) ms)->bh [Value.bool b]=Value.bool (fL (bM l) && iD (bM l) ms)/\m.n<=lo:=λq0 e=>⟨by rw[e];rfl,q0⟩
 refine aZ (λvs mm lo=>vs=[.bool (!(fL (bM l) && decide (ms.length<=20)))]/\m1=mm/\lo=m.n) (λR hR=>?_) ?_
 ·rw[s0,ae];refine aG (kU hX (h.aE l0) (by omega)) ?_;rw[bk,ae,aj];refine an (λc=>hR _ _ _ ⟨?_,rfl,by omega⟩) (λc=>?_);·rw[Jd]at c;rw[c];rfl
  rw[Q0]at c;rw[s2,ae,(hm.aE l0).len dv,az,bP,ae];refine hR _ _ _ ⟨?_,rfl,by omega⟩;rw[c,ZD];by_cases e:ms.length<=20;·rw[IH e,tx];rfl
  rw[Dh e,CM];rfl
 rintro _ _ _ ⟨rfl,rfl,rfl⟩;rw[aB,aj];refine an (λc=>no (Ox _) ?_) (λc=>?_)
 ·rw[Jd,Bool.and_eq_false_iff]at c;rcases c with c|c;·rw[c];rfl
  have:¬ms.length<=20:=Ja c;rw[uE λhM=>this hM.len,Qv]
 rw[Q0,JJ]at c;have D0:=c.1;have c1:ms.length<=20:=NT c.2;rw[D0,ZD]at no⊢;refine Lp.intro (γ:=Nat) (λi=>ms.length-i) (λi vs mm lo=>vs=[Zf,YR i]/\i<=ms.length/\Ext m1 mm/\m.n<=lo/\(∀j x,j<i->ms[j]?=some x->Av x/\(bM l).any (SD x))/\∀j x y,j+1<i->ms[j]?=some x->ms[j+1]?=some y->x.id<y.id) 0 ⟨rfl,ZE _,.refl,Ox _,λj x hj=>by omega,λj x y hj=>by omega⟩ ?_;rintro i vs mm lo ⟨rfl,hi,m0,q0,r0,n0⟩;have nm:=m0.n;obtain⟨I1,J1,d1, -⟩:=jC (m0.cells g1);have v0:=(hm.aE l0).aE m0;rw[aB,aB,d1,ae,v0.len dv,az,aM,ae,aj];refine an (λy0=>?_) (λh1=>?_)
 ·have y0:i<ms.length:=by grind
  obtain⟨x,hx⟩:∃x,ms[i]?=some x:=⟨_,Fx y0⟩
  have⟨p,e1,e2⟩:=v0.qZ (k:=.i64) hx;rw[ae,e1,ae,e2,ae];refine aw λK1 r1 E0 u1=>?_;refine aC tT E0 rfl rfl rfl λe0 v1 F0 w1=>?_;have G0:e0.get mm.n=.cells x.c 137 none:=F0;have g0:Ext mm e0:=⟨by omega,by grind⟩
  have n35:=g0.n;have⟨x0,x1,x2,x3,xv⟩:=CL G0;have a0:=m0.trans g0;simp only[bX,dn,eE,ae];have bad:∀{j:Nat} {y:Mk},i=j+1->ms[j]?=some y->x.id<=y.id->¬il (bM l) ms:=λz0 hy hle hM=>by subst z0;have:=Px.1 hM.tP _ _ (OJ.1 hy).1 y0 (by omega);rw[(OJ.1 hy).2,(OJ.1 hx).2]at this;omega
  refine aZ (λvs m' A0=>(vs=[Ku]/\¬il (bM l) ms\/vs=[Zf]/\Av x/\∀j y,i=j+1->ms[j]?=some y->y.id<x.id)/\e0=m'/\m.n<=A0) (λR hR=>?_) ?_
  ·rw[xv,ae];refine aG (Aw hX x) ?_;rw[bk,ae,aj];refine an (λc=>hR _ _ _ ⟨.inl ⟨rfl,λhM=>?_⟩,rfl,by omega⟩) (λc=>?_);·rw[hM.ok x (LZ hx)]at c;cases c
   rw[Q0]at c;rw[bP,ae,aj];refine an (λc0=>?_) (λc0=>hR _ _ _ ⟨.inr ⟨rfl,c,λj y z0=>?_⟩,rfl,by omega⟩)
   ·obtain⟨j,rfl⟩:∃j,i=j+1:=⟨i-1,by grind⟩
    obtain⟨y,hy⟩:∃y,ms[j]?=some y:=⟨_,qp⟩
    have⟨b0,o0,bc,gg,cs,q1,i1,B0,_,j1⟩:=(v0.aE g0).fa dv (k:=.i64) hy;have B0:cs=y.c:=B0;subst B0;rw[x0,ae,(jC (a0.cells g1)).2.2.1,ae,dt,ae,wrap64,show(((j+1:Nat):Int)-1)=(j:Int) by omega,q1,ae,bX,ae,show ah TE e0 3 (Ga b0 (o0+0))=some (YR y.id) by rw[bF,aI i1,j1 0 (by decide)];rfl,ae,cz,ae];by_cases hle:x.id<=y.id;·rw[IH hle];exact hR _ _ _ ⟨.inl ⟨rfl,bad rfl hy hle⟩,rfl,by omega⟩
    rw[Dh hle];refine hR _ _ _ ⟨.inr ⟨rfl,c,λj' y' z0 H0=>?_⟩,rfl,by omega⟩;obtain rfl:j=j':=by omega
    rw[hy]at H0;cases H0;omega
   have:¬(0:Int)< (i:Int):=Ja c0;omega
  rintro _ _ z1 ⟨h|⟨rfl,k1,C0⟩,rfl,i0⟩;·obtain⟨rfl,l1⟩:=h;rw[aB,aj,bH];exact no i0 (uE l1).symm
  rw[aB,aj,aN];have I0:=(h.aE l0).aE a0;refine Lp.intro (γ:=Nat) (λk=>l.length-k) (λk vs m' A0=>vs=[.bool (((bM l).take k).any (SD x)),YR k]/\k<=l.length/\Ext e0 m'/\m.n<=A0) 0 ⟨rfl,ZE _,.refl,i0⟩ ?_;rintro k vs J0 A1 ⟨rfl,hk,H,j0⟩;have n60:=H.n;have k0:=I0.aE H;rw[aB,aB,(jC (H.cells (a0.cells g1))).2.1,ae,k0.sl.len dc,az,aM,ae,aj];refine an (λB1=>?_) (λK0=>?_)
  ·have L0:k<l.length:=by grind
   obtain⟨u,hu⟩:∃u,l[k]?=some u:=⟨_,Fx L0⟩
   have⟨q,q1,q2,ou⟩:=k0.sl.eY (k:=.i64) hu;have L1:(bM l).take (k+1)=(bM l).take k++ [u.u]:=by rw[Q1,fP hu];rfl
   rw[ae,q1,ae,q2,ae];refine aw λN1 C1 N0 D1=>?_;refine aC dm N0 rfl rfl (Un.cH ou) λO0 E1 P0 F1=>?_;have o1:O0.get J0.n=.cells (u.u.c u.w) 60 none:=P0;have d0:Ext J0 O0:=⟨by omega,by grind⟩
   obtain⟨u0, -, -,u3, -, -⟩:=kz o1;obtain⟨-,y1,y2, -, -⟩:=CL ((H.trans d0).cells G0);rw[aj];refine an (λht=>?_) (λht=>?_);·rw[aP,ae,wrap64];exact⟨k+1,by omega,by grind,by omega,H.trans d0,by omega⟩
   have p0:((bM l).take (k+1)).any (SD x)=SD x u.u:=by grind
   rw[bz,ae,u0,ae,y1,ae,aS,ae,aj];refine an (λe=>?_) (λe=>?_);·rw[y2,ae,bD,ae,u3,ae,((k0.sh u (LZ hu)).aE d0).len cA,az,aM,ae,aP,ae,wrap64];exact⟨k+1,by omega,by rw[p0];unfold SD;rw[e,ZD];rfl,by omega,H.trans d0,by omega⟩
   rw[aP,ae,wrap64];exact⟨k+1,by omega,by rw[p0];unfold SD;rw[e,zJ];rfl,by omega,H.trans d0,by omega⟩
  have L0:k=l.length:=by have:¬(k:Int)< (l.length:Int):=Ja K0;omega
  rw[QM (by rw[cx];omega),bk,ae,aj];refine an (λc=>no j0 ?_) (λc=>?_);·rw[Jd]at c;refine(uE λhM=>?_).symm;rw[Hr.2 (hM.un x (LZ hx))]at c;cases c
  rw[Q0]at c;rw[aP,ae,wrap64];refine⟨i+1,by omega,rfl,by omega,a0.trans H,j0,λj y hj hy=>?_,λj y z hj hy hz=>?_⟩
  ·by_cases e:j=i;·subst e;rw[hx]at hy;cases hy;exact⟨k1,c⟩
   exact r0 j y (by omega) hy
  by_cases e:j+1=i;·subst e;rw[hx]at hz;cases hz;exact C0 j y rfl hy
  exact n0 j y z (by omega) hy hz
 have p1:i=ms.length:=by have:¬(i:Int)< (ms.length:Int):=Ja h1;omega
 subst p1;refine no q0 (fV.2 ⟨c1,Wn λj x y hx hy=>n0 j x y (OJ.1 hy).1 hx hy,λx hx=>?_,λx hx=>?_⟩).symm;·have⟨j,hj⟩:=ZZ hx;exact(r0 j x (OJ.1 hj).1 hj).1
 have⟨j,hj⟩:=ZZ hx;exact Hr.1 (r0 j x (OJ.1 hj).1 hj).2
end
theorem ZS{X:aK}{x0:Φ}{m:M}{R:Bt->M->Nat->Prop}:dP TE (aL TE X) f226 [x0] m R=ρ m x0 30 λa=>ς a [YM] 30 λb=>ς b [YM] 30 λc=>Lp (λc d f g=>un d λd _=>ε 30 (υ m) 0 λh=>δ f 28 h λh=>κ f .len [28] [h] λh _=>η .lss 3 d h λh=>aR h (ε 30 (υ b) 0 λa=>δ f 28 a λa=>ε 30 (υ m) 0 λh=>δ f 28 h λh=>ζ 28 h d λh=>δ f 60 h λh=>ψ X 219 [h] f λh i j=>(f.n<=j)/\(ν i 28 1 [(0,h)] λf h=>κ (M.wl h h.n) .append [28,28] [a,f] λa f=>ε 30 (υ b) 0 λb=>ι f 28 b a λa b=>η .add 3 d (χ 1) λd=>c [d] a (Γ g j (M.low f) b))) (δ f 30 (υ b) λb=>ι f 30 (υ a) b λb c=>ai (ah TE b 30 (υ a)) λa=>R [a] b (min g c))) [χ 0] c m.n:=by kernel_rfl
end Go.Proofs.YtigpcbodmjjaiaaGreatDoor
namespace Go.D
open Go
section
def wG(m:M)(b k:Nat):Prop:=(∃cs H g,m.get b=.cells cs H g/\(g=none\/g=some k))\/∃cs,m.get b=.ro cs
theorem wG.lt{m:M}{b k:Nat}(h:wG m b k):b<m.n:=by
 rcases Gn b m.n with hl|H;·exact hl
 rcases h with⟨cs,te,g,h,_⟩|⟨cs,h⟩;·rw[M.iV H]at h;cases h
 rw[M.iV H]at h;cases h
theorem wG.of{m m1:M}{b k:Nat}(h:wG m b k)(e:m1.get b=m.get b):wG m1 b k:=by
 unfold wG at h⊢;grind
theorem wG.aE{m m1:M}{b k:Nat}(h:wG m b k)(he:Ext m m1):wG m1 b k:=h.of (he.get b h.lt)
section
variable {E:Env} {m:M} {T:TypeId} {ti:TI} {e:TypeId} {b n:Nat}
theorem Jj(t1:E.ty.get T=some ti)(t2:ti.d=.slice e)(hk:0<ti.es)(h:wG m b ti.es){o c i:Nat}(H:n<=c)(hi:i<=c):
  slice? E m T (KI b o n c) none (some (YR i)) none=some (KI b o i c):=by
 rcases h with⟨cs,te,g,h,hg⟩|⟨cs,h⟩;·exact zZ t1 t2 hk h hg H hi
 ·have b1:fF n c none (some (YR i)) none=some (0,i,c):=by unfold fF;simp only[pT hi]
  have e1:Nat.beq ti.es 0=false:=by
   cases hb:Nat.beq ti.es 0 with
   |false=>rfl
   |true=>have:=vZ hb;omega
  have e2:Nat.ble n c:=Cc H;have e0:(⟨b,o,none⟩:Addr).add (0*ti.es)=⟨b,o,none⟩:=by rw[bj rfl,JE];rfl
  simp only[slice?,t1,t2,b1,h,e1,e2,V8,Cz,T4,KA,e0];grind
end
section
variable {α:Type} [aW α] {m m':M} {l:List α} {v:Φ}
def YW(m:M)(l:List α)(v:Φ):Prop:=oK m l v/\∃b o c,v=.slice (some ⟨b,o,none⟩) l.length c/\l.length<=c/\wG m b (aW.sz α)
theorem YW.aE(h:YW m l v)(he:Ext m m'):YW m' l v:=by have⟨h1,b,o,c,H,h3,h4⟩:=h;exact⟨h1.aE he,b,o,c,H,h3,h4.aE he⟩
theorem oK.Xg(h:oK m l v)(hk:∀b,b<m.n->(∀cs t g,m.get b=.cells cs t g->t∈aW.ty α::aW.cT α)->m'.get b=m.get b)(ht:aW.cT α=[]):oK m' l v:=by
 rcases h with h|h;·refine .inl (h.aV λb c t g H a0=>?_);rw[hk b (M.aU H) λcs t' g' b0=>by grind,H]
 rcases h with h|⟨b,o,c,bc,h1,h2,h4⟩;·exact .inr (.inl h)
 have d0:b<m.n:=wG.lt (k:=0) (.inr ⟨_,h2⟩);refine .inr (.inr ⟨b,o,c,bc,h1,by grind,λi x hi=>⟨(h4 i x hi).1,aW.aV (h4 i x hi).2 λb c t g _ h=>by grind⟩⟩)
theorem oK.part{b o c:Nat}(h:oK m l (KI b o l.length c)){i k:Nat}(H:i+k<=l.length){c':Nat}:oK m ((l.drop i).take k) (KI b (o+i*aW.sz α) k c'):=by
 have hlen:((l.drop i).take k).length=k:=by grind
 rcases h with h|h;·exact .inl (h.part H)
 rcases h with⟨h,_⟩|⟨b',o',c1,bc,he,hb,a0⟩;·cases h
 ·cases he;refine .inr (.inr ⟨b,_,c',bc,by rw[hlen],hb,λj x hj=>?_⟩);grind
end
end
section
section
variable {E:Env} {m:M} {T:TypeId} {α:Type} [aW α]
theorem Jk{ti:TI}{e te:TypeId}{b n k:Nat}{cs:Bt}(t1:E.ty.get T=some ti)(t2:ti.d=.slice e)(t3:ti.es=k)(hk:0<k)(h:m.get b=.cells cs te (some k)){i:Nat}(hi:i<=n):
  slice? E m T (KI b 0 n n) none (some (YR i)) (some (YR i))=some (KI b 0 i i):=by
 have H:fF n n none (some (YR i)) (some (YR i))=some (0,i,i):=by unfold fF;simp only[pT hi,pT (Ox i)]
 have e1:Nat.beq ti.es 0=false:=by
  cases hb:Nat.beq ti.es 0 with
  |false=>rfl
  |true=>have:=vZ hb;omega
 have e2:Nat.ble n n:=Cc (Ox _);have e3:Nat.beq k ti.es:=by simp_all
 simp only[slice?,t1,t2,H,h,e1,e2,e3,V8,Cz,T4,cond_true,Bs,zJ,Km,Nx];simp only[JE,Addr.add,RK,KA];grind
theorem vU(hT:qH E T α){l ys:List α}{y:Φ}{b o c:Nat}{bc:Bt}{te:TypeId}{g:Option Nat}(h:m.get b=.cells bc te g)(hg:g=none\/(g=some (aW.sz α)/\o+c*aW.sz α<bc.length))
  (hl:Sl m l (KI b o l.length c)) (hy:Sl m ys y) (hc:c<l.length+ys.length) (hs:l.length+ys.length<=268435456):
  ∃v' m1,av E (m.wl m.n) .append [T,T] [KI b o l.length c,y]=some (v',m1)/\Ow m.n m1 (l++ys) v'/\Ext m m1/\m1.low=m.n:=by
 have⟨ti,ei,t1,t2,t3,t4,t5,t6⟩:=hT;have⟨news,e1,e2,e3,e4,e5⟩:=hy.first;have⟨fh,_,f2,f3,f4,f5⟩:=hl.first;have g0:=aW.pos (α:=α);have d0:(Nat.beq ti.es 0 ||Nat.blt 65536 ei.bytes || !news.all D.one ||Nat.blt 268435456 (l.length+ys.length) || !Nat.beq news.length (ys.length*ti.es) || !gw ei.zero ti.es)=false:=by
  have c1:Nat.beq ti.es 0=false:=by
   cases hb:Nat.beq ti.es 0 with
   |false=>rfl
   |true=>have:=vZ hb;omega
  have c2:Nat.blt 65536 ei.bytes=false:=by
   cases hb:Nat.blt 65536 ei.bytes with
   |false=>rfl
   |true=>rw[OZ]at hb;omega
  have c3:Nat.blt 268435456 (l.length+ys.length)=false:=by
   cases hb:Nat.blt 268435456 (l.length+ys.length)with
   |false=>rfl
   |true=>rw[OZ]at hb;omega
  simp_all
 have H:first? (m.wl m.n) ti.es ys.length y=some news:=by rw[cQ,t3];exact e2
 have a0:Nat.ble (l.length+ys.length) c=false:=by
  cases hb:Nat.ble (l.length+ys.length) c with
  |false=>rfl
  |true=>have:=JO hb;omega
 have hold:(bif Nat.beq l.length 0 then some []else loadCells (m.wl m.n) ⟨b,o,none⟩ (l.length*aW.sz α))=some fh:=by rw[cf];exact f2
 have g1:(g.isNone ||(g==some (aW.sz α) && Nat.blt (o+c*aW.sz α) bc.length)):=by
  simp_all
 have e0:(m.wl m.n).get b=.cells bc te g:=h;have hx:Ext m ((m.wl m.n).push (.cells (fh++news) (aW.ty α) (some (aW.sz α)))):=⟨Pz _,λc hc=>by rw[M.cy (m:=m.wl m.n) hc];rfl⟩
 refine⟨KI m.n 0 (l.length+ys.length) (l.length+ys.length),(m.wl m.n).push (.cells (fh++news) (aW.ty α) (some (aW.sz α))),?_,?_,hx,rfl⟩;·simp only[av,dU,t1,e1,t2,t4,H];rw[d0,a0];simp only[T4,lY,t3];simp only[e0,hold,g1,cond_true];rfl
 refine .inr ⟨m.n,fh++news,by grind,by grind,Ox _,M.aX (m:=m.wl m.n),by grind,λi x hi=>?_⟩;by_cases b0:i<l.length;·rw[QH b0]at hi;rw[mg f3 b0];exact aW.aE (f5 i x hi) hx
 rw[zC (by omega)]at hi;rw[lK f3 (by omega)];exact aW.aE (e5 _ x hi) hx
end
end
theorem append_nil{E:Env}{m:M}{T:TypeId}{α:Type}[aW α](hT:qH E T α){a:Addr}{n c:Nat}(hn:n<=c)(hs:n<=268435456){y:Φ}(hy:(∃a' c',y=.slice (some a') 0 c')\/y=YM):
  av E (m.wl m.n) .append [T,T] [.slice (some a) n c,y]=some (.slice (some a) n c,m.wl m.n):=by
 have⟨ti,ei,t1,t2,t3,t4,t5,t6⟩:=hT;have a0:=aW.pos (α:=α);have hl:lX y=some 0:=by rcases hy with⟨a',c',rfl⟩|rfl <;>rfl
 have hf:first? (m.wl m.n) ti.es 0 y=some []:=by rcases hy with⟨a',c',rfl⟩|rfl <;>rfl
 have hc:(Nat.beq ti.es 0 ||Nat.blt 65536 ei.bytes || !([]:Bt).all D.one ||Nat.blt 268435456 (n+0) || !Nat.beq ([]:Bt).length (0*ti.es) || !gw ei.zero ti.es)=false:=by
  have c1:Nat.beq ti.es 0=false:=by
   cases H:Nat.beq ti.es 0 with
   |false=>rfl
   |true=>have:=vZ H;omega
  have c2:Nat.blt 65536 ei.bytes=false:=by
   cases H:Nat.blt 65536 ei.bytes with
   |false=>rfl
   |true=>rw[OZ]at H;omega
  have c3:Nat.blt 268435456 (n+0)=false:=by
   cases H:Nat.blt 268435456 (n+0)with
   |false=>rfl
   |true=>rw[OZ]at H;omega
  simp_all
 simp only[av,dU,t1,hl,t2,t4,hf];rw[hc,Cc (show n+0<=c by omega)];rfl
end Go.D
namespace Go.Proofs.YtigpcbodmjjaiaaGreatDoor
section
variable {X:aK} {m:M}
theorem mS{α:Type}[aW α]{n1:Nat}{l:List α}{v:Φ}(h:Ow n1 m l v)(H:l≠ []):∃b,v=KI b 0 l.length l.length/\n1<=b:=by
 rcases h with⟨_,h⟩|⟨b,cs,h1,h2,h3,_⟩;·grind
 ·grind
theorem VQ{n1:Nat}{mm:M}{acc:List UW}{r:Φ}(H:Ow n1 mm acc r)(hs:∀x∈acc,Sl mm x.u.shape x.w)(hl:∀x∈acc,x.u.shape.length<1000000):cP mm acc r:=
 ⟨H.sl,hs,hl,by
  rcases H with⟨_,h⟩|⟨b,cs,h1,h2,h3,h4,h5,h6⟩;·grind
  ·exact .inr ⟨b,0,_,cs,_,h1,Ox _,h4,.inr rfl⟩⟩
theorem Fp(hX:cd X){l:List UW}{v:Φ}(h:cP m l v)(hlen:l.length<1000):
  ∃acc r m',C X (.func 226) [.agg #[v]] m m.n (.agg #[r]) m'/\Ext m m'/\bM acc=bM l/\Ow m.n m' acc r/\(∀x∈acc,Sl m' x.u.shape x.w)/\∀x∈acc,x.u.shape.length<1000000:=by
 refine Cl.ky hX (Kg func226) (R:=λrv m'=>Ext m m'/\∃acc r,rv=.agg #[r]/\bM acc=bM l/\Ow m.n m' acc r/\(∀x∈acc,Sl m' x.u.shape x.w)/\∀x∈acc,x.u.shape.length<1000000) ?_ λrv m' hc ⟨hx,acc,r,e,hr⟩=>⟨acc,r,m',e ▸ hc,hx,hr⟩
 rw[ZS];dsimp only[δ,ε,ζ,η,ι,κ,ν,ρ,ς,υ,χ,ψ,Γ];refine aw λm1 u0 k0 v0=>?_;refine aw λm2 y0 z0 l0=>?_;refine aw λm3 A0 e0 m0=>?_;have B0:Ext m m3:=⟨by omega,by grind⟩
 have g1:m3.get m.n=.cells [v] 30 none:=by rw[m0 _ (by omega),l0 _ (by omega)];exact k0
 have g2:m3.get m1.n=.cells [YM] 30 none:=by grind
 obtain⟨oc,n0⟩:∃oc,oc=m2.n:=⟨_,rfl⟩
 rw[<-n0]at e0⊢;unfold ptrTo;have o0:∀m':M,m'.get m.n=.cells [v] 30 none->ah TE m' 28 (Ga m.n (0+0))=some v:=λm' h=>by rw[dT,aI h];rfl
 have p0:∀(m':M) acc r,EH oc m' acc r->ah TE m' 28 (Ga oc (0+0))=some r:=λm' acc r h=>by rw[dT,aI h.cell];rfl
 simp only[bJ,ae];refine Lp.intro (γ:=Nat) (λi=>l.length-i) (λi vs mm lo=>∃(acc:List UW) (r:Φ),vs=[YR i]/\i<=l.length/\EH oc mm acc r/\(∀c,c<oc->mm.get c=m3.get c)/\m.n<=lo/\m3.n<=mm.n/\bM acc=(bM l).take i/\acc.length<=i) 0 ⟨[],_,rfl,ZE _,⟨e0,.nil,λx hx=>(by cases hx),λx hx=>(by cases hx)⟩,λc hc=>rfl,by omega,Ox _,rfl,Ox _⟩ ?_;rintro i vs mm C0 ⟨acc,r,rfl,hi,H,hk,D0,E0,a0,F0⟩;have gf:mm.get m.n=.cells [v] 30 none:=by grind
 have q0:Ext m mm:=⟨by omega,by grind⟩
 have hF:=h.aE q0;rw[aB,o0 mm gf,ae,hF.sl.len dc,az,aM,ae,aj];refine an (λg0=>?_) (λG0=>?_)
 ·have g0:i<l.length:=by grind
  obtain⟨x,hx⟩:∃x,l[i]?=some x:=⟨_,Fx g0⟩
  have b0:=LZ hx;have r0:(bM l).take (i+1)=(bM l).take i++ [x.u]:=by rw[Q1,fP hx];rfl
  have⟨q,q1,q2,_⟩:=hF.sl.eY (k:=.i64) hx;rw[p0 mm _ _ H,ae,ae,q1,ae,q2,ae];obtain⟨w',H0,I0,r',J0,K0,c1,c2,c3,c4,c5,c6,c7⟩:=mO hX H (hF.sh x b0) (h.ln x b0) (by omega);refine aG c1 ⟨Ox _,?_⟩;rw[c2,az,c3,az,c4,az,aP,ae,wrap64];have:=c7.n;exact⟨i+1,by omega,_,r',rfl,by omega,c6,λc hc=>by rw[c7.lo c hc,hk c hc],by omega,by omega,by rw[r0,<-a0];unfold bM;simp,by grind⟩
 have s0:i=l.length:=by
  have:¬(i:Int)< (l.length:Int):=by grind
  omega
 subst s0;rw[QM (by rw[cx];exact Ox _)]at a0;rw[eo,aQ H.cell (by simp)];show ai (some (Value.agg #[r])) _;rw[ae];have gz:mm.get m1.n=.cells [YM] 30 none:=by grind
 refine aC oX gz rfl rfl (by show(one r && true)=true;rw[H.ow.sl.one];rfl) λm9 L0 d0 i0=>?_;have d0:m9.get m1.n=.cells [r] 30 none:=d0;rw[eo,aQ d0 (by simp)];show ai (some (Value.agg #[r])) _;rw[ae];by_cases j0:acc=[]
 ·subst j0;rcases H.ow with⟨rfl,_⟩|⟨b,cs,_,h2,_⟩;·exact .inl ⟨rfl,by omega,by grind,.refl,[],_,rfl,a0,.nil,λx hx=>(by cases hx),λx hx=>(by cases hx)⟩
  simp at h2
 obtain⟨b,rfl,hb⟩:=mS H.ow j0;refine .inr ⟨.inl rfl,by omega,⟨by omega,by grind⟩,acc,_,rfl,a0,?_,λx hx=>?_,H.ln⟩
 ·refine Ow.mono (n1:=oc+1) (H.ow.aV λb c t g' hb ht=>?_) (by omega);have:b≠m1.n:=by rintro rfl;rw[hk _ (by omega),g2]at hb;cases hb;revert ht;decide
  rw[i0 b this,hb]
 refine(H.sh x hx).aV λb c t g' hb ht=>?_;have:b≠m1.n:=by rintro rfl;rw[hk _ (by omega),g2]at hb;cases hb;revert ht;decide
 rw[i0 b this,hb]
theorem Cp{n1:Nat}{ms:List Mk}{vm:Φ}(hm:Sl m ms vm)(hl:ms.length<=1000){b:Nat}(hg:m.get b=.cells [] 137 none)(hn:n1<=b):
  ∃r m1,av TE (m.wl m.n) .append [31,31] [KI b 0 0 0,vm]=some (r,m1)/\Sl m1 ms r/\Ext m m1/\m1.low=m.n/\(∃a p q,r=.slice (some a) p q)/\(ms≠ []->Ow m.n m1 ms r):=by
 by_cases he:ms=[]
 ·subst he;obtain⟨a,c,rfl⟩:=hm.form;refine⟨KI b 0 0 0,m.wl m.n,append_nil vd (Ox _) (by decide) ?_,.inr ⟨b,0,0,[],none,rfl,hg,by simp,by grind⟩,Ext.refl.wl,rfl,⟨_,_,_,rfl⟩,λh=>absurd rfl h⟩;rcases hm with⟨h,_⟩|⟨b',o,c',bc,g,h,_⟩;·grind
  ·grind
 obtain⟨v',m1,h1,H,h3,h4⟩:=ik vd hg hm he (by omega);obtain⟨b',rfl,_⟩:=mS H he;exact⟨_,m1,h1,H.sl,h3,h4,⟨_,_,_,rfl⟩,λ_=>H⟩
theorem JH{a b:Bool}:aA TE .neq 4 (.bool a) (.bool b)=some (.bool (!decide (a=b))):=by cases a <;>cases b <;>kernel_rfl
theorem iG:aF TE m 31 0 []=some (.slice (some ⟨m.n,0,none⟩) 0 0,m.push (.cells [] 137 none)):=by kernel_rfl
theorem adh(hX:cd X){ms:List Mk}{vm:Φ}{id:Int}(hm:Sl m ms vm)(hl:ms.length<=100):
  ∃r m',C X (.func 305) [vm,YR id] m m.n r m'/\Ext m m'/\Ow m.n m' (gh ms id) r:=by
 refine Cl.kI hX (Kg func305) ?_;rw[Zy];dsimp only[δ,ε,ζ,η,κ,ν,χ];refine Lp.intro (γ:=Nat) (λi=>ms.length-i) (λi vs mm lo=>∃r,vs=[r,YR i]/\i<=ms.length/\Ext m mm/\m.n<=lo/\Ow m.n mm (gh (ms.take i) id) r) 0 ⟨_,rfl,ZE _,.refl,Ox _,Ow.nil⟩ ?_;rintro i vs mm lo ⟨r,rfl,hi,H,j0,ho⟩;have nm:=H.n;have d0:=hm.aE H;rw[aB,aB,d0.len dv,az,aM,ae,aj];refine an (λk0=>?_) (λm0=>?_)
 ·have k0:i<ms.length:=by grind
  obtain⟨x,hx⟩:∃x,ms[i]?=some x:=⟨_,Fx k0⟩
  have⟨b0,o0,bc,g0,cs,e0,n0,i0,_,p0⟩:=d0.fa dv (k:=.i64) hx;have i0:cs=x.c:=i0;subst i0;have⟨a0,q0,lx⟩:=d0.qZ (k:=.i64) hx;obtain rfl:a0=Ga b0 o0:=Option.some.inj (q0.symm.trans e0);have l0:ms.take (i+1)=ms.take i++ [x]:=by rw[Q1,hx];rfl
  have s0:(gh (ms.take i) id).length<=i:=by unfold gh;have:=Ei (λy=> !decide (y.un=id)) (ms.take i);rw[Gy]at this;omega
  rw[e0,ae,dn,ae,show ah TE mm 3 (Ga b0 (o0+1))=some (YR x.un) by rw[bF,aI n0,p0 1 (by decide)];rfl,ae,bL,ae,aj];refine an (λc=>?_) (λc=>?_);·rw[ae,lx,ae];refine push_mk (x:=x) ho nm (by omega) λr' m2 w2 n2 k2 l2=>?_;rw[aP,ae,wrap64];refine⟨i+1,by omega,r',rfl,by omega,⟨by omega,λc hc=>by rw[k2 c hc,H.get c hc]⟩,by omega,?_⟩;rw[l0];unfold gh at w2⊢;rw[WN,Lm,Tf c];exact w2
  rw[aP,ae,wrap64];refine⟨i+1,by omega,r,rfl,by omega,H,j0,?_⟩;rw[l0];unfold gh at ho⊢;rw[WN,Lm,QL (by grind),Wm,Zu];exact ho
 have r0:i=ms.length:=by have:¬(i:Int)< (ms.length:Int):=Ja m0;omega
 subst r0;rw[V9]at ho;by_cases he:gh ms id=[]
 ·rw[he]at ho⊢;rcases ho with⟨rfl,_⟩|⟨b,cs,_,h2,_⟩;·exact .inl ⟨rfl,j0,by grind,.refl,.nil⟩
  simp at h2
 obtain⟨b,rfl,_⟩:=mS ho he;exact .inr ⟨.inl rfl,by omega,H,ho⟩
def Bc(ms:List Mk)(id:Int)(o:Bool)(m':M)(r:Φ)(b:Bool):Prop:=match mH ms id o with
 |some H=>b=true/\Sl m' H r
 |none=>b=false/\∃H:List Mk,Sl m' H r/\H.length<=ms.length
theorem vn(hX:cd X){ms:List Mk}{vm:Φ}{id:Int}{o:Bool}(hm:Sl m ms vm)(hl:ms.length<=100):
  ∃r b m',C X (.func 228) [vm,YR id,.bool o] m m.n (.tuple #[r,.bool b]) m'/\Ext m m'/\Bc ms id o m' r b:=by
 refine Cl.ky hX (Kg func228) (R:=λrv m'=>Ext m m'/\∃r b,rv=.tuple #[r,.bool b]/\Bc ms id o m' r b) ?_ λrv m' hc ⟨hx,r,b,e,h⟩=>⟨r,b,m',e ▸ hc,hx,h⟩
 rw[adu];dsimp only[δ,ε,ζ,η,ι,κ,ν,χ];rw[iG,az];have g0:Ext m (m.push (.cells [] 137 none)):=Ext.refl.push;have o0:(m.push (.cells [] 137 none)).get m.n=.cells [] 137 none:=M.aX;have A0:(m.push (.cells [] 137 none)).n=m.n+1:=rfl;generalize B0:m.push (.cells [] 137 none)=m2 at*;obtain⟨v3,m4,e4,p0,i0,C0,a0,q0⟩:=Cp (n1:=m.n) (hm.aE g0) (by omega) o0 (Ox _);have n4:=i0.n;have j0:=g0.trans i0;rw[e4,az];refine Lp.intro (γ:=Nat) (λi=>ms.length-i) (λi vs mm lo=>∃z z',vs=[z,z',YR i]/\i<=ms.length/\m4=mm/\m.n<=lo/\∀j y,j<i->ms[j]?=some y->y.id≠id) 0 ⟨_,_,rfl,ZE _,rfl,by grind,λj y hj=>by omega⟩ ?_;rintro i vs mm lo ⟨z,z',rfl,hi,rfl,k0,b0⟩;rw[aB,aB,aB,p0.len dv,az,aM,ae,aj];refine an (λd0=>?_) (λr0=>?_)
 ·have d0:i<ms.length:=by grind
  obtain⟨x,hx⟩:∃x,ms[i]?=some x:=⟨_,Fx d0⟩
  have s0:ms≠ []:=by grind
  have⟨b,q1,q2,q3,q4,⟨u0,v0,m0⟩,q6⟩:=TA rfl (q0 s0) hx dv;have y0:u0=x.c:=v0;subst y0;have l0:ah TE m4 3 (Ga b (0+i*aW.sz Mk+0))=some (YR x.id):=by rw[bF,m0 0 (by decide)];rfl
  have l4:ah TE m4 4 (Ga b (0+i*aW.sz Mk+4))=some (.bool x.Hq):=by rw[uH,m0 4 (by decide)];rfl
  rw[q1,ae,bX,ae,l0,ae,aS,ae,aj];refine an (λc=>?_) (λc=>?_)
  ·have c:x.id=id:=NT c;have e0:ms.findIdx? (λy=>decide (y.id=id))=some i:=by
    rw[List.findIdx?_eq_some_iff_getElem];refine⟨d0,?_,λj hj=>?_⟩;·rw[(OJ.1 hx).2];exact IH c
    have:=b0 j _ hj (qp);simpa using this
   have ht:mH ms id o=if x.Hq=o then none else some (ms.set i {x with Hq:=o}):=by unfold mH;rw[e0];dsimp only;rw[hx]
   rw[ae,jU,ae,l4,ae,JH,ae,ae,jU,ae];refine q6 4 4 _ {x with Hq:=o} (.bool o) EY rfl rfl rfl (by decide) (λcs hr m'=>by have hr:cs=x.c:=hr;subst hr;rfl) _ λD0 z0 H n0=>?_;obtain⟨a,p,q,rfl⟩:=a0;refine .inr ⟨.inl rfl,by omega,⟨by omega,λc hc=>by rw[n0 c (by omega),j0.get c hc]⟩,_,_,rfl,?_⟩;unfold Bc;rw[ht];by_cases e:x.Hq=o;·rw[Tf e,IH e];exact⟨rfl,_,H.sl,by simp⟩
   rw[QL e,Dh e];exact⟨rfl,H.sl⟩
  have c:x.id≠id:=Ja c;rw[aP,ae,wrap64];refine⟨i+1,by omega,z,z',rfl,by omega,rfl,k0,λj y hj hy=>?_⟩;by_cases e:j=i;·subst e;rw[hx]at hy;cases hy;exact c
  exact b0 j y (by omega) hy
 have E0:i=ms.length:=by have:¬(i:Int)< (ms.length:Int):=Ja r0;omega
 have e0:ms.findIdx? (λy=>decide (y.id=id))=none:=by rw[List.findIdx?_eq_none_iff];intro y hy;have⟨j,hj⟩:=ZZ hy;have:=b0 j y (by grind) hj;simpa using this
 refine .inl ⟨rfl,k0,by grind,.refl,_,_,rfl,?_⟩;unfold Bc mH;rw[e0];exact⟨rfl,[],.nil,ZE _⟩
def fJ(us:List Un)(id:Int)(m':M)(H:Φ):Prop:=match ck us id with
 |some u=>∃w',H=.tuple #[u.v w',.bool true]/\Sl m' u.shape w'
 |none=>H=.tuple #[.agg Un.zc.toArray,.bool false]
theorem xY(hX:cd X){l:List UW}{v:Φ}(h:cP m l v)(hP:cq (bM l))(id:Int):
  ∃rv m',C X (.func 303) [.agg #[v],YR id] m m.n rv m'/\Ext m m'/\fJ (bM l) id m' rv:=by
 have hl:l.length<=12:=by have:=hP.len;rwa[cx]at this
 refine Cl.kI hX (Kg func303) ?_;rw[ZA];dsimp only[δ,ε,ζ,η,θ,ι,κ,ρ,ς,υ,χ,ψ,ω];refine aw λm1 E0 v0 F0=>?_;refine aw λm2 G0 y0 z0=>?_;have i0:Ext m m2:=⟨by omega,by grind⟩
 have g1:m2.get m.n=.cells [v] 30 none:=by rw[z0 _ (by omega)];exact v0
 have g2:m2.get m1.n=.cells Un.zc 60 none:=y0;have hF:=h.aE i0;have j0:ah TE m2 28 (Ga m.n (0+0))=some v:=by rw[dT,aI g1];rfl
 have A0:ah TE m2 30 (Ga m.n 0)=some (.agg #[v]):=by rw[eo,aQ g1 (by simp)];rfl
 unfold ptrTo;simp only[bJ,ae];refine Lp.intro (γ:=Nat) (λi=>l.length-i) (λi vs mm lo=>∃z,vs=[z,YR i]/\i<=l.length/\m2=mm/\m.n<=lo/\∀j x,j<i->l[j]?=some x->x.u.id≠id) 0 ⟨_,rfl,ZE _,rfl,by omega,λj x hj=>by omega⟩ ?_;rintro i vs mm lo ⟨z,rfl,hi,rfl,H0,k0⟩;rw[aB,aB,j0,ae,hF.sl.len dc,az,aM,ae,aj];refine an (λl0=>?_) (λB0=>?_)
 ·have l0:i<l.length:=by grind
  obtain⟨x,hx⟩:∃x,l[i]?=some x:=⟨_,Fx l0⟩
  have⟨q,q0,f1,f2,f3⟩:=rV hF.sl hx;have⟨q',q1,q2,ow⟩:=hF.sl.eY (k:=.i64) hx;obtain rfl:q=q':=Option.some.inj (f1.symm.trans q1);refine aZ (λvs mm lo=>vs=[.bool (decide (x.u.id=id))]/\m2=mm/\m.n<=lo) (λR hR=>?_) ?_;·rw[ae,f1,ae,f2,ae,f3,ae,aS,ae,aj];refine an (λc=>?_) (λc=>hR _ _ _ ⟨by rw[c],rfl,by omega⟩);rw[A0,ae];refine aG (kU hX hF (by omega)) ?_;exact hR _ _ _ ⟨by rw[c,fC hP],rfl,by omega⟩
  rintro _ _ I0 ⟨rfl,rfl,m0⟩;rw[aB,aj];refine an (λc=>?_) (λc=>?_)
  ·have c:x.u.id=id:=NT c;have n0:=LZ hx;rw[j0,ae,q1,ae,q2,ae];have⟨w',J0,o0,b0,d0⟩:=AU (m:=m2) hX (hF.sh x n0) (hF.ln x n0);refine aG o0 ?_;have n36:=b0.n;have p0:=b0.cells g2;refine aC dm p0 rfl rfl (Un.cH d0.one) λe0 r0 H g0=>?_;have H:e0.get m1.n=.cells (x.u.c w') 60 none:=H;rw[bU H,ae];have a0:ck (bM l) id=some x.u:=by rw[<-c];exact pE hP (fP hx)
   have s0:Sl e0 x.u.shape w':=d0.aV λb cs t g hb ht=>by
    have:b≠m1.n:=by rintro rfl;rw[p0]at hb;cases hb;revert ht;decide
    rw[g0 b this,hb]
   have u0:∀mm:M,Sl mm x.u.shape w'->fJ (bM l) id mm (bh [x.u.v w',Ku]):=λmm hs=>by unfold fJ;rw[a0];exact⟨w',rfl,hs⟩
   cases C0:bA (bh [x.u.v w',Ku])with
   |false=>exact .inr ⟨.inl rfl,by omega,⟨by omega,λc hc=>by rw[g0 c (by omega),b0.get c (by omega),i0.get c hc]⟩,u0 e0 s0⟩
   |true=>
    refine .inl ⟨rfl,by omega,by grind,.refl,u0 m ?_⟩;rcases d0 with⟨rfl,e⟩|⟨b,o,cc,bc,g,rfl,_⟩;·rw[e];exact .nil
    simp[bh,bA,dC,bw]at C0
  rw[aP,ae,wrap64];refine⟨i+1,by omega,z,rfl,by omega,rfl,m0,λj y hj hy=>?_⟩;by_cases e:j=i;·subst e;rw[hx]at hy;cases hy;exact Ja c
  exact k0 j y (by omega) hy
 have K0:i=l.length:=by have:¬(i:Int)< (l.length:Int):=Ja B0;omega
 have a0:ck (bM l) id=none:=rH λu hu=>by obtain⟨x,hx,rfl⟩:=Bf hu;have⟨j,hj⟩:=ZZ hx;exact k0 j x (by grind) hj
 have D0:aJ TE 60 []=some (.agg Un.zc.toArray):=ng;rw[D0,ae];refine aC dm g2 rfl rfl rfl λe0 r0 H g0=>?_;have H:e0.get m1.n=.cells (Un.c ⟨0,0,0,[],0,0⟩ YM) 60 none:=H;rw[bU H,ae];refine .inl ⟨rfl,by omega,by grind,.refl,?_⟩;unfold fJ;rw[a0];rfl
def PX(us:List Un)(id:Int)(m':M)(H:Φ):Prop:=match ck us id with
 |some _=>∃acc r,H=.tuple #[.agg #[r],.int .i64 0]/\bM acc=uV us id/\cP m' acc r
 |none=>H=.tuple #[.agg #[.slice none 0 0],.int .i64 120]
theorem Jt(hX:cd X){l:List UW}{v:Φ}(h:cP m l v)(hP:cq (bM l))(id:Int):
  ∃rv m',C X (.func 304) [.agg #[v],YR id] m m.n rv m'/\Ext m m'/\PX (bM l) id m' rv:=by
 have hl:l.length<=12:=by have:=hP.len;rwa[cx]at this
 refine Cl.kI hX (Kg func304) ?_;rw[Zz];dsimp only[δ,ε,ζ,η,θ,ι,κ,ν,ξ,ο,ρ,ς,υ,χ,ψ,Γ,ω];refine aw λm1 p1 J0 r1=>?_;refine aw λm2 u1 K0 L0=>?_;have r0:Ext m m2:=⟨by omega,by grind⟩
 have g1:m2.get m.n=.cells [v] 30 none:=by rw[L0 _ (by omega)];exact J0
 have g2:m2.get m1.n=.cells [YM] 30 none:=K0;have j0:∀{mm:M} {b:Nat} {r:Φ},mm.get b=.cells [r] 30 none->ah TE mm 30 (Ga b 0)=some (.agg #[r]):=λh=>by rw[eo,aQ h (by simp)];rfl
 have z0:∀{mm:M} {b:Nat} {r:Φ},mm.get b=.cells [r] 30 none->ah TE mm 28 (Ga b (0+0))=some r:=λh=>by rw[dT,aI h];rfl
 unfold ptrTo;rw[j0 g1,ae];have⟨v1,m5,N0,s0,b0⟩:=xY (m:=m2) hX (h.aE r0) hP id;refine aG N0 ?_;have n5:=s0.n;unfold fJ at b0;have O0:aJ TE 30 []=some (.agg #[YM]):=AY;cases k0:ck (bM l) id with
 |none=>
  rw[k0]at b0;dsimp only at b0;subst b0;rw[aH,aH];simp only[zi,F9,ae];refine aw λm9 P0 u0 A0=>?_;refine aC dm u0 rfl rfl rfl λm10 B0 C0 l0=>?_;rw[bk,ae,aj,Km,bH,O0,ae];have D0:m10.get m1.n=.cells [YM] 30 none:=by rw[l0 _ (by omega),A0 _ (by omega)];exact s0.cells g2
  refine aC oX D0 rfl rfl rfl λm14 j1 e0 k1=>?_;have e0:m14.get m1.n=.cells [YM] 30 none:=e0;rw[j0 e0,ae];refine .inl ⟨rfl,by omega,by grind,.refl,?_⟩;unfold PX;rw[k0];rfl
 |some u=>
  rw[k0]at b0;obtain⟨w',rfl,a1⟩:=b0;rw[aH,aH];simp only[zi,F9,ae];refine aw λm9 P0 u0 A0=>?_;refine aC dm u0 rfl rfl (Un.cH a1.one) λm10 B0 C0 l0=>?_;have g0:Ext m5 m10:=⟨by omega,by grind⟩
  rw[bk,ae,aj,V8,aN];refine aw λm17 l1 m0 E0=>?_;obtain⟨oc,b1⟩:∃oc,oc=m10.n:=⟨_,rfl⟩
  rw[<-b1]at m0⊢;have v0:Ext m2 m17:=s0.trans (g0.trans ⟨by omega,E0⟩);have n10:=g0.n;simp only[bJ,ae];refine Lp.intro (γ:=Nat) (λi=>l.length-i) (λi vs mm lo=>∃(acc:List UW) (r:Φ),vs=[YR i]/\i<=l.length/\EH oc mm acc r/\(∀c,c<oc->mm.get c=m17.get c)/\m.n<=lo/\m17.n<=mm.n/\bM acc=uV ((bM l).take i) id/\acc.length<=i) 0 ⟨[],_,rfl,ZE _,⟨m0,.nil,λx hx=>(by cases hx),λx hx=>(by cases hx)⟩,λc hc=>rfl,by omega,Ox _,rfl,Ox _⟩ ?_;rintro i vs mm w1 ⟨acc,r,rfl,hi,H,hk,d1,e1,d0,y1⟩;have a0:Ext m2 mm:=⟨by grind,λc hc=>by rw[hk c (by omega),v0.get c hc]⟩
  have gf:=a0.cells g1;have hF:=(h.aE r0).aE a0;rw[aB,z0 gf,ae,hF.sl.len dc,az,aM,ae,aj];refine an (λF0=>?_) (λh1=>?_)
  ·have F0:i<l.length:=by grind
   obtain⟨x,hx⟩:∃x,l[i]?=some x:=⟨_,Fx F0⟩
   have n0:=LZ hx;have G0:(bM l).take (i+1)=(bM l).take i++ [x.u]:=by rw[Q1,fP hx];rfl
   have⟨q,q0,f1,f2,f3⟩:=rV hF.sl hx;have⟨q',q1,q2,ow⟩:=hF.sl.eY (k:=.i64) hx;obtain rfl:q=q':=Option.some.inj (f1.symm.trans q1);rw[ae,f1,ae,f2,ae,f3,ae,bL,ae,aj];refine an (λc=>?_) (λc=>?_);·rw[z0 H.cell,ae,ae,q1,ae,q2,ae];obtain⟨z1,A1,B1,r',C1,D1,c1,c2,c3,c4,c5,c6,c7⟩:=mO hX H (hF.sh x n0) (h.ln x n0) (by omega);refine aG c1 ⟨Ox _,?_⟩;rw[c2,az,c3,az,c4,az,aP,ae,wrap64];have:=c7.n;refine⟨i+1,by omega,_,r',rfl,by omega,c6,λc hc=>by rw[c7.lo c hc,hk c hc],by omega,by omega,?_,by grind⟩;rw[G0];unfold uV at d0⊢;rw[WN,<-d0,Lm,Tf c];unfold bM;simp
   rw[aP,ae,wrap64];refine⟨i+1,by omega,acc,r,rfl,by omega,H,hk,d1,e1,?_,by omega⟩;rw[G0];unfold uV at d0⊢;rw[WN,<-d0,Lm,QL (by grind),Wm,Zu]
  have i1:i=l.length:=by have:¬(i:Int)< (l.length:Int):=Ja h1;omega
  subst i1;rw[QM (by rw[cx];exact Ox _)]at d0;rw[j0 H.cell,ae];have gz:mm.get m1.n=.cells [YM] 30 none:=a0.cells g2;refine aC oX gz rfl rfl (by show(one r && true)=true;rw[H.ow.sl.one];rfl) λH0 o1 i0 o0=>?_;have i0:H0.get m1.n=.cells [r] 30 none:=i0;rw[j0 i0,ae];have p0:∀y0:M,cP y0 acc r->PX (bM l) id y0 (bh [.agg #[r],YR 0]):=λy0 hf=>by unfold PX;rw[k0];exact⟨acc,r,rfl,d0,hf⟩
  by_cases I0:acc=[]
  ·subst I0;rcases H.ow with⟨rfl,_⟩|⟨b,cs,_,h2,_⟩;·exact .inl ⟨rfl,by omega,by grind,.refl,p0 m ⟨.nil,λx hx=>(by cases hx),λx hx=>(by cases hx),.inl rfl⟩⟩
   simp at h2
  obtain⟨b,rfl,hb⟩:=mS H.ow I0;refine .inr ⟨.inl rfl,by omega,⟨by omega,λc hc=>by rw[o0 c (by omega),a0.get c (by omega),r0.get c hc]⟩,p0 H0 (H.qE.aV λc cs t g hb ht=>?_)⟩;have:c≠m1.n:=by rintro rfl;rw[gz]at hb;cases hb;rcases ht with ht|ht <;>exact absurd ht (by decide)
  rw[o0 c this,hb]
theorem Pf{b:Option Addr}{a c p q:Nat}{d:Addr}:bA (.agg #[.slice b a c,.slice (some d) p q])=false:=by simp[bA,dC,bw]
theorem AT(hX:cd X){l:List UW}{ms:List Mk}{v vm:Φ}(h:cP m l v)(hlen:l.length<1000)(hm:Sl m ms vm)(l0:ms.length<=1000):
  ∃acc r r2 m',C X (.func 184) [.agg #[v,vm]] m m.n (.agg #[r,r2]) m'/\Ext m m'/\bM acc=bM l/\cP m' acc r/\Sl m' ms r2:=by
 refine Cl.ky hX (Kg func184) (R:=λrv m'=>Ext m m'/\∃acc r r2,rv=.agg #[r,r2]/\bM acc=bM l/\cP m' acc r/\Sl m' ms r2) ?_ λrv m' H ⟨hx,acc,r,r2,e,hr⟩=>⟨acc,r,r2,m',e ▸ H,hx,hr⟩
 rw[aac];dsimp only[δ,ε,θ,ι,κ,ν,ρ,ς,υ,ψ,Γ];refine aw λm1 A0 m0 B0=>?_;refine aw λm2 C0 n0 o0=>?_;have j0:Ext m m2:=⟨by omega,by grind⟩
 have g1:m2.get m.n=.cells [v,vm] 33 none:=by rw[o0 _ (by omega)];exact m0
 have g2:m2.get m1.n=.cells [YM,YM] 33 none:=n0;unfold ptrTo;simp only[bV,cB,ae];rw[(jC g1).1,ae];have⟨acc,r,m6,p0,a0,q0,k0,r0,s0⟩:=Fp (m:=m2) hX (h.aE j0) hlen;refine aG p0 ⟨by omega,?_⟩;have n6:=a0.n;rw[iG,az];obtain⟨m9,g0⟩:∃x,x=m6.push (.cells [] 137 none):=⟨_,rfl⟩
 rw[<-g0];have D0:m9.n=m6.n+1:=by rw[g0];exact M.iQ
 have u0:m9.get m6.n=.cells [] 137 none:=by rw[g0];exact M.aX
 have d0:Ext m6 m9:=g0 ▸ Ext.refl.push;have v0:=j0.trans (a0.trans d0);rw[(jC ((a0.trans d0).cells g1)).2.2.1,ae];obtain⟨r2,m13,a1,a2,a3,a4,⟨aa,ap,aq,rfl⟩,a6⟩:=Cp (n1:=m6.n) (hm.aE v0) l0 u0 (Ox _);rw[a1,az];have n13:=a3.n;have y0:=k0.sl.one;obtain⟨b0,c0,rfl⟩:=k0.sl.form;rw[nR rfl rfl,ae];have G2:=((a0.trans d0).trans a3).cells g2;refine aC eH G2 rfl rfl rfl λm15 z0 e0 i0=>?_;have e0:m15.get m1.n=.cells _ 33 none:=e0;rw[(jC e0).2.2.2,ae];have aV:∀c cs t g,m13.get c=.cells cs t g->t≠33->m15.get c=.cells cs t g:=λc cs t g H ht=>by
  by_cases e:c=m1.n;·subst e;rw[G2]at H;cases H;exact absurd rfl ht
  rw[i0 c e,H]
 have hF:=(VQ k0 r0 s0).aE (d0.trans a3);refine .inr ⟨.inl Pf,by omega,⟨by omega,λc H=>?_⟩,acc,_,_,rfl,q0,hF.aV λc cs t g H ht=>aV c cs t g H (by grind),a2.aV λc cs t g H ht=>aV c cs t g H ?_⟩;·rw[i0 c (by omega),a3.get c (by omega),d0.get c (by omega),a0.get c (by omega),j0.get c H]
 have:t=137:=by simpa[aW.ty,aW.cT]using ht
 subst this;decide
theorem yG(u:Un):∀us:List Un,∃p q,us=p++q/\gG u us=p++u::q
 |[]=>⟨[],[],rfl,rfl⟩
 |a::r=>by
  rw[gG];by_cases e:u.id<a.id;·rw[Tf e];exact⟨[],a::r,rfl,rfl⟩
  ·rw[QL e];have⟨p,q,h1,H⟩:=yG u r;grind
theorem yH{u:Un}:∀{us:List Un},(us.Pairwise λa b=>a.id<b.id)->(∀v∈us,v.id≠u.id)->gG u us=uh us u
 |[],_,_=>rfl
 |a::r,h,H=>by
  have h0:=H a zN;have⟨h1,h2⟩:=Zv.1 h;rw[gG];by_cases e:u.id<a.id
  ·rw[Tf e];have e1:(a::r).filter (λy=>decide (y.id<u.id))=[]:=by
    rw[OD];grind
   have e2:(a::r).filter (λy=>decide (u.id<y.id))=a::r:=by
    rw[QJ];grind
   unfold uh;grind
  ·rw[QL e,yH h2 λv hv=>H v (W6 _ hv)];unfold uh;grind
theorem HV{us:List Un}{u:Un}(h:cq us):fL (gG u us)=GM us u:=by
 rw[OT,nd];constructor
 ·intro hF;rw[pW];obtain⟨p,q,rfl,e⟩:=yG u us;rw[e]at hF;have h1:=hF.len;have h3:=Y7.1 hF.KP;have h4:=Y7.1 hF.CG;rw[NN,zG]at h1;refine⟨hF.val u (by simp),by grind,λv H=>?_,λv H=>?_⟩
  ·rcases OH.1 H with H|H;·have:=h3.2.2 v H u (by simp);omega
   have:=(Zv.1 h3.2.1).1 v H;omega
  rcases OH.1 H with H|H;·rw[nC];exact h4.2.2 v H u (by simp)
  ·simp_all
 intro ha;rw[yH h.KP (pW.1 ha).2.2.1];exact h.ins ha
def P5(us:List Un)(u:Un)(m':M)(H:Φ):Prop:=match qF us u with
 |some vs=>∃l' r,H=.tuple #[.agg #[r],.int .i64 0]/\bM l'=vs/\cP m' l' r
 |none=>H=.tuple #[.agg #[.slice none 0 0],.int .i64 120]
theorem oS.put{l:List UW}{u:Un}{m':M}{rv:Φ}(H:cq (bM l))(h:oS l u m' rv):P5 (bM l) u m' rv:=by
 unfold oS at h;unfold P5 qF;by_cases e:GM (bM l) u=true;·rw[Tf ⟨fC H,by rw[HV H];exact e⟩]at h;rw[Tf e];have⟨l',r,h1,h2,h3⟩:=h;exact⟨l',r,h1,by rw[h2,yH H.KP (pW.1 e).2.2.1],h3⟩
 ·rw[QL λc=>e (by rw[<-HV H];exact c.2)]at h;grind
def gC(vs:List Un)(H:List Mk)(m':M)(v:Φ):Prop:=∃acc r r2,v=.agg #[r,r2]/\bM acc=vs/\cP m' acc r/\Sl m' H r2
theorem kS{α:Type}[aW α]{m':M}{l:List α}{v:Φ}(h:Sl m' l v)(H:Go.D.bw v)(m:M):l=[]/\Sl m l v:=by
 rcases h with⟨h1,h2⟩|⟨b,o,c,bc,g,h1,_⟩;·exact⟨h2,.inl ⟨h1,h2⟩⟩
 rw[h1]at H;simp[Go.D.bw]at H
theorem gC.flat{vs:List Un}{ns:List Mk}{m':M}{r r2:Φ}{t:Φ}(h:gC vs ns m' (.agg #[r,r2]))(hf:bA (.tuple #[.agg #[r,r2],t]))(m:M):gC vs ns m (.agg #[r,r2]):=by have⟨acc,r',a0,e,h1,h2,h3⟩:=h;cases e;have H:((Go.D.bw r && (Go.D.bw r2 && true)) && (dC t && true)):=hf;rw[JJ,JJ,JJ]at H;have⟨e1,k1⟩:=kS h2.sl H.1.1 m;have⟨e2,k2⟩:=kS h3 H.1.2.1 m;subst e1;exact⟨[],r,r2,rfl,h1,⟨k1,λx hx=>(by cases hx),λx hx=>(by cases hx),.inl rfl⟩,k2⟩
theorem gC.aV{vs:List Un}{ns:List Mk}{m' m'':M}{v:Φ}(h:gC vs ns m' v)(hk:∀c cs t g,m'.get c=.cells cs t g->t≠33->m''.get c=.cells cs t g):gC vs ns m'' v:=by
 have⟨acc,r,r2,e,h1,h2,h3⟩:=h
 exact⟨acc,r,r2,e,h1,h2.aV λc cs t g H ht=>hk c cs t g H (by grind),h3.aV λc cs t g H ht=>hk c cs t g H (by
  have:t=137:=by simpa[aW.ty,aW.cT]using ht
  grind)⟩
def S4(us:List Un)(ms:List Mk)(a:Ac)(m':M)(H:Φ):Prop:=match oT us ms a with
 |some (vs,ns)=>∃v,H=.tuple #[v,.bool true]/\gC vs ns m' v
 |none=>∃r r2,H=.tuple #[.agg #[r,r2],.bool false]/\one r=true/\one r2=true
theorem Fb{b:Nat}{v vm r:Φ}{g:Option Nat}{P:M->Nat->Prop}(h:m.get b=.cells [v,vm] 33 g)(h1:one r)(H:∀m1,m1.n=m.n->m1.get b=.cells [r,vm] 33 g->(∀c,c≠b->m1.get c=m.get c)->P m1 b):
  aO (aD TE m 30 (Ga b (0+0)) (.agg #[r])) P:=
 bS oX h rfl (by show 0+0+1<=2;decide) (by show(one r && true)=true;rw[h1];rfl) λm1 hn hg hk=>H m1 hn hg hk
theorem Bm{b n k:Nat}{o:Option Addr}{v vm:Φ}{g:Option Nat}{P:M->Nat->Prop}(h:m.get b=.cells [v,vm] 33 g)(h1:one (.slice o n k))(H:∀m1,m1.n=m.n->m1.get b=.cells [v,.slice o n k] 33 g->(∀c,c≠b->m1.get c=m.get c)->P m1 b):
  aO (aD TE m 31 (Ga b (0+1)) (.slice o n k)) P:=
 bS Ha h rfl (by show 0+1+1<=2;decide) (by show(one (.slice o n k) && true)=true;rw[h1];rfl) λm1 hn hg hk=>H m1 hn hg hk
theorem adk(hX:cd X){l:List UW}{ms:List Mk}{v vm w:Φ}{a:Ac}(hF:cP m l v)(hP:cq (bM l))(hm:Sl m ms vm)(N1:ms.length<=100)(hw:Sl m a.un.shape w)(O1:a.un.shape.length<1000000)(P1:a.kind=1\/a.kind=2):
  ∃rv m',C X (.func 229) [.agg #[v,vm],a.v w] m m.n rv m'/\Ext m m'/\S4 (bM l) ms a m' rv:=by
 have y2:l.length<=12:=by have:=hP.len;rwa[cx]at this
 refine Cl.kI hX (Kg func229) ?_;rw[ZP];dsimp only[δ,ε,η,θ,ι,κ,ν,ξ,ο,ρ,ς,υ,χ,ψ,WU,Qy,Δ,Θ,Λ,Ψ,Ω];refine aw λm1 I2 K0 T1=>?_;refine aw λm2 J2 L0 N0=>?_;refine aw λm3 K2 O0 G0=>?_;have P0:Ext m m3:=⟨by omega,by grind⟩
 have g1:m3.get m.n=.cells [v,vm] 33 none:=by rw[G0 _ (by omega),N0 _ (by omega)];exact K0
 have ga:m3.get m1.n=.cells (a.c w) 184 none:=by rw[G0 _ (by omega)];exact L0
 have gr:m3.get m2.n=.cells [YM,YM] 33 none:=O0;unfold ptrTo;simp only[bV,cB,jT,jS,jR,ae];rw[iG,az];obtain⟨m5,m0⟩:∃x,x=m3.push (.cells [] 137 none):=⟨_,rfl⟩
 rw[<-m0];have L2:m5.n=m3.n+1:=by rw[m0];exact M.iQ
 have b1:m5.get m3.n=.cells [] 137 none:=by rw[m0];exact M.aX
 have H0:Ext m3 m5:=m0 ▸ Ext.refl.push;rw[(jC (H0.cells g1)).2.2.1,ae];obtain⟨r2,m9,a1,a2,a3,a4,⟨aa,ap,aq,rfl⟩,a6⟩:=Cp (n1:=m3.n) (hm.aE (P0.trans H0)) (by omega) b1 (Ox _);rw[a1,az];have n9:=a3.n;rw[zj rfl,ae];refine aw λm11 z2 C0 c1=>?_;refine aC eH C0 rfl rfl rfl λm12 A2 D0 d1=>?_;have go:m12.get m9.n=.cells [YM,.slice (some aa) ap aq] 33 none:=D0;have E0:Ext m9 m12:=⟨by omega,by grind⟩
 have v0:=(H0.trans a3).trans E0;have a0:=P0.trans v0;have g1:=v0.cells g1;have ga:=v0.cells ga;have gr:=v0.cells gr;have b2:=a2.aE E0;clear a1 a2 a3 a6 D0 d1 C0 c1 b1 m0 K0 L0 O0 T1 N0 G0;obtain⟨fk,c2, -, -, -, -⟩:=YK ga;rw[fk,ae,aS,ae,aj]
 have fin:∀{mm b0:M} {r r2:Φ} {b:Bool} {lo:Nat} {Q:Prop},Q->one r->one r2->(∀c,c<m.n->mm.get c=m.get c)->m.n<=mm.n->(b->∃vs ns,oT (bM l) ms a=some (vs,ns)/\gC vs ns mm (.agg #[r,r2]))->(b=false->oT (bM l) ms a=none)->mm.get m2.n=.cells [YM,YM] 33 none->
   b0.n=mm.n->(∀c,c≠m2.n->b0.get c=mm.get c)->m.n<=lo->
   (bA (bh [.agg #[r,r2],.bool b])/\m.n<=lo/\(Q/\Ext m m/\S4 (bM l) ms a m (bh [.agg #[r,r2],.bool b])))\/((bA (bh [.agg #[r,r2],.bool b])=false\/lo<m.n)/\(min m.n lo=m.n/\Ext m b0/\S4 (bM l) ms a b0 (bh [.agg #[r,r2],.bool b]))):=by
  intro mm b0 r r2 b lo Q hQ h1 h2 hk hn ht hf hg j0 k0 d2;have hx:Ext m b0:=⟨by omega,by grind⟩
  have I0:bA (.tuple #[.agg #[r,r2],.bool b])->S4 (bM l) ms a m (.tuple #[.agg #[r,r2],.bool b]):=λI0=>by
   unfold S4;cases b with
   |true=>have⟨vs,ns,e1,e2⟩:=ht rfl;rw[e1];exact⟨_,rfl,e2.flat I0 m⟩
   |false=>
    grind
  have g2:S4 (bM l) ms a b0 (.tuple #[.agg #[r,r2],.bool b]):=by
   unfold S4;cases b with
   |true=>
    have⟨vs,ns,e1,e2⟩:=ht rfl;rw[e1];refine⟨_,rfl,e2.aV λc cs t g hc ht=>?_⟩;grind
   |false=>
    grind
  cases e:bA (.tuple #[.agg #[r,r2],.bool b]);·exact .inr ⟨.inl e,by omega,hx,g2⟩
  ·exact .inl ⟨e,d2,hQ,.refl,I0 e⟩
 refine an (λk1=>?_) (λk1=>?_)
 ·have k1:a.kind=1:=NT k1;rw[(jC g1).1,ae,PT ga,ae];obtain⟨rv,m22,i2,d0,ar⟩:=PR (m:=m12) hX (hF.aE a0) (by omega) (hw.aE a0) O1;refine aG i2 ?_;have n22:=d0.n;have hd:oT (bM l) ms a=(qF (bM l) a.un).map (·,ms):=by unfold oT;rw[Tf k1]
  have ar:=ar.put hP;unfold P5 at ar;cases hs:qF (bM l) a.un with
  |none=>
   rw[hs]at ar hd;subst ar;rw[aH,aH];simp only[zi,F9,ae];refine Fb (d0.cells go) rfl λn0 i1 o0 H=>?_;rw[(jC o0).2.2.2,ae,aS,ae];have G2:n0.get m2.n=.cells [YM,YM] 33 none:=by rw[H _ (by omega)];exact d0.cells gr
   refine aC eH G2 rfl rfl rfl λb0 j0 p0 k0=>?_;rw[(jC p0).2.2.2,ae];refine fin (mm:=n0) ?_ ?_ ?_ ?_ ?_ ?_ ?_ G2 j0 k0 ?_;·first|rfl|trivial
   ·exact rfl
   ·exact rfl
   ·exact λc hc=>by rw[H c (by omega),d0.get c (by omega),a0.get c hc]
   ·omega
   ·exact λe=>absurd e (by decide)
   ·exact λ_=>hd
   omega
  |some vs=>
   rw[hs]at ar hd;obtain⟨l',r,rfl,e1,e2⟩:=ar;rw[aH,aH];simp only[zi,F9,ae];refine Fb (d0.cells go) e2.sl.one λn0 i1 o0 H=>?_;rw[(jC o0).2.2.2,ae,aS,ae];have G2:n0.get m2.n=.cells [YM,YM] 33 none:=by rw[H _ (by omega)];exact d0.cells gr
   refine aC eH G2 rfl rfl (by show(one r && (true && true))=true;rw[e2.sl.one];rfl) λb0 j0 p0 k0=>?_;rw[(jC p0).2.2.2,ae];refine fin (mm:=n0) ?_ ?_ ?_ ?_ ?_ ?_ ?_ G2 j0 k0 ?_;·first|rfl|trivial
   ·exact e2.sl.one
   ·exact rfl
   ·exact λc hc=>by rw[H c (by omega),d0.get c (by omega),a0.get c hc]
   ·omega
   ·refine λ_=>⟨vs,ms,hd,?_⟩
    have:gC vs ms m22 (.agg #[r,.slice (some aa) ap aq]):=⟨l',r,_,rfl,e1,e2,b2.aE d0⟩
    exact this.aV λc cs t g hc ht=>by rw[H c (λe=>by subst e;rw[d0.cells go]at hc;cases hc;exact ht rfl),hc]
   ·exact λe=>absurd e (by decide)
   omega
 ·have k2:a.kind=2:=P1.resolve_left (Ja k1);have hd:oT (bM l) ms a=if(ck (bM l) a.id).isSome=true then some (uV (bM l) a.id,gh ms a.id)else none:=by unfold oT;rw[im,Tf k2]
  rw[(jC g1).1,ae,c2,ae];have⟨rv,y0,j2,q0,fr⟩:=xY (m:=m12) hX (hF.aE a0) hP a.id;refine aG j2 ?_;have n39:=q0.n;unfold fJ at fr;cases hf:ck (bM l) a.id with
  |none=>
   rw[hf]at fr hd;subst fr;rw[aH,aH];simp only[zi,F9,ae];refine aw λl2 j1 r0 l1=>?_;refine aC dm r0 rfl rfl rfl λe0 o1 p1 r1=>?_;rw[bk,ae,aj];refine an (λ_=>?_) (λc=>by cases c);have kp:∀c,c<y0.n->e0.get c=y0.get c:=by grind
   have go':e0.get m9.n=.cells [YM,.slice (some aa) ap aq] 33 none:=by rw[kp _ (by omega)];exact q0.cells go
   have G2:e0.get m2.n=.cells [YM,YM] 33 none:=by rw[kp _ (by omega)];exact q0.cells gr
   rw[(jC go').2.2.2,ae];refine aC eH G2 rfl rfl rfl λM2 u1 v1 w1=>?_;rw[(jC v1).2.2.2,ae];refine fin (mm:=e0) ?_ ?_ ?_ ?_ ?_ ?_ ?_ G2 u1 w1 ?_;·first|rfl|trivial
   ·exact rfl
   ·exact rfl
   ·exact λc hc=>by rw[kp c (by omega),q0.get c (by omega),a0.get c hc]
   ·omega
   ·exact λe=>absurd e (by decide)
   ·exact λ_=>hd
   omega
  |some u=>
   rw[hf]at fr hd;obtain⟨w',rfl,o2⟩:=fr;rw[aH,aH];simp only[zi,F9,ae];refine aw λl2 j1 r0 l1=>?_;refine aC dm r0 rfl rfl (Un.cH o2.one) λe0 o1 p1 r1=>?_;rw[bk,ae,aj];refine an (λc=>by cases c) (λ_=>?_);have kp:∀c,c<y0.n->e0.get c=y0.get c:=by grind
   have z0:Ext m12 e0:=q0.trans ⟨by omega,kp⟩;obtain⟨N2,y1, -, -, -, -⟩:=YK (z0.cells ga);rw[(jC (z0.cells g1)).1,ae,y1,ae];have⟨rv,A0,u2,z1,rr⟩:=Jt (m:=e0) hX (hF.aE (a0.trans z0)) hP a.id;refine aG u2 ?_;have O2:=z1.n;unfold PX at rr;rw[hf]at rr;obtain⟨acc,r,rfl,e1,e2⟩:=rr;rw[aH,aH];simp only[zi,F9,ae];refine aw λP2 B2 A1 C2=>?_;refine aC oX A1 rfl rfl (QP e2.sl.one) λB0 D2 s0 E2=>?_;have s0:B0.get A0.n=.cells [r] 30 none:=s0;have F0:Ext A0 B0:=⟨by omega,by grind⟩
   have g0:Ext m12 B0:=(z0.trans z1).trans F0;obtain⟨B1,J0, -, -, -, -⟩:=YK (g0.cells ga);rw[B1,ae,aS,ae,aj];refine an (λ_=>?_) (λc=>absurd k2 (Ja c));rw[(jC (g0.cells g1)).2.2.1,ae,J0,ae];have⟨rm,v2,w2,i0,ow⟩:=adh (m:=B0) (id:=a.id) hX (hm.aE (a0.trans g0)) N1;refine aG w2 ?_;have Q2:=i0.n;have n61:=g0.n;have C1:=ow.sl.one;have⟨bo,bc,D1⟩:=ow.sl.form;rw[D1];refine Bm ((g0.trans i0).cells go) (by grind) λE1 F2 F1 l0=>?_;have gF:E1.get A0.n=.cells [r] 30 none:=by rw[l0 _ (by omega)];exact i0.cells s0
   rw[show ah TE E1 30 (Ga A0.n 0)=some (.agg #[r]) by rw[eo,aQ gF (by simp)];rfl,ae];refine Fb F1 e2.sl.one λG1 H2 H1 u0=>?_;rw[(jC H1).2.2.2,ae];have G2:G1.get m2.n=.cells [YM,YM] 33 none:=by rw[u0 _ (by omega),l0 _ (by omega)];exact(g0.trans i0).cells gr
   rw[<-D1];refine aC eH G2 rfl rfl (by show(one r && (one rm && true))=true;rw[e2.sl.one,C1];rfl) λT2 I1 J1 K1=>?_;rw[(jC J1).2.2.2,ae];refine fin (mm:=G1) ?_ ?_ ?_ ?_ ?_ ?_ ?_ G2 I1 K1 ?_;·first|rfl|trivial
   ·exact e2.sl.one
   ·exact C1
   ·exact λc hc=>by rw[u0 c (by omega),l0 c (by omega),i0.get c (by omega),g0.get c (by omega),a0.get c hc]
   ·omega
   ·refine λ_=>⟨_,_,hd,?_⟩
    have:gC (uV (bM l) a.id) (gh ms a.id) v2 (.agg #[r,rm]):=⟨acc,r,_,rfl,e1,e2.aE (F0.trans i0),ow.sl⟩
    have go':=(g0.trans i0).cells go;exact this.aV λc cs t g hc ht=>by
     have L1:c≠m9.n:=by grind
     rw[u0 c L1,l0 c L1,hc]
   ·exact λe=>absurd e (by decide)
   omega
end
section
variable {X:aK} {m:M}
open Classical in
def sg(us:List Un)(ms:List Mk)(a:Ac):Option (List Un×List Mk):=if(fL us && iD us ms)=true then Hd us ms a else none
def oJ(D:Option (List Un×List Mk))(m':M)(H:Φ):Prop:=match D with
 |some (vs,ns)=>∃r r2,H=.tuple #[.agg #[r,r2],.int .i64 0]/\gC vs ns m' (.agg #[r,r2])
 |none=>H=.tuple #[.agg #[.slice none 0 0,.slice none 0 0],.int .i64 170]
def AA(D:Option (List Un×List Mk)):Option (List Un×List Mk):=match D with
 |some (H,ns)=>if iD H ns=true then some (H,ns)else none
 |none=>none
theorem Qx{us:List Un}{ms:List Mk}{a:Ac}(h1:fL us)(H:iD us ms)(h3:ez a):sg us ms a=AA (oT us ms a):=by
 unfold sg Hd AA;grind
theorem ac0{us:List Un}{ms:List Mk}{a:Ac}(h:(fL us && iD us ms && ez a)=false):sg us ms a=none:=by
 unfold sg Hd;grind
theorem Gp(ms:List Mk)(id:Int):(gh ms id).length<=ms.length:=by unfold gh;exact Ei _ _
theorem abP{ms H:List Mk}{id:Int}{o:Bool}(h:mH ms id o=some H):H.length=ms.length:=by
 unfold mH at h;grind
theorem zY{mm:M}{o z L:Nat}{r r2:Φ}{b:Bool}{D:Option (List Un×List Mk)}{R:Bt->M->Nat->Prop}(hX:cd X)(go:mm.get o=.cells [r,r2] 33 none)(gz:mm.get z=.cells [YM,YM] 33 none)
  (hT:match D with|some (vs,H)=>b=true/\gC vs H mm (.agg #[r,r2])/\cq vs/\H.length<4611686018427387904|none=>b=false) (hL:m.n<=L) (hz:m.n<=z) (J0:m.n<=mm.n) (hk:∀c,c<m.n->mm.get c=m.get c)
  (hR:∀(v:Φ) (e:Int) (m':M) (lo:Nat),m.n<=lo->Ext m m'->oJ (AA D) m' (.tuple #[v,YR e])->R [v,YR e] m' lo):
  jn (λR4=>ai (cU .not (.bool b)) λv49=>aR v49 (R4 [Ku] mm L) (ai (ah TE mm 33 (Ga o 0)) λv50=>bs TE X (.func 176) [v50] mm λv51 r0 s0=>ai (cU .not v51) λv54=>R4 [v54] r0 (min L s0)))
   (λm0 j0 g0=>un m0 λv55 _=>aR v55 (ai (aJ TE 33 []) λv57=>aO (aD TE j0 33 (Ga z 0) v57) λk0 u0=>ai (ah TE k0 33 (Ga z 0)) λv60=>R [v60,YR 170] k0 (min g0 u0)) (ai (ah TE j0 33 (Ga o 0)) λv0=>bs TE X (.func 184) [v0] j0 λy0 l0 z0=>aO (aD TE l0 33 (Ga z 0) y0) λd0 A0=>ai (ah TE d0 33 (Ga z 0)) λv67=>R [v67,YR 0] d0 (min (min g0 z0) A0))):=by
 refine aZ (λvs m' lo=>m'=mm/\m.n<=lo/\∃bad:Bool,vs=[.bool bad]/\(bad->AA D=none)/\(bad=false->∃vs H,AA D=some (vs,H)/\gC vs H mm (.agg #[r,r2])/\cq vs/\H.length<=20)) (λQ hQ=>?_) ?_
 ·rw[bk,ae,aj];cases D with
  |none=>rw[hT];refine an (λ_=>hQ _ _ _ ⟨rfl,hL,true,rfl,λ_=>rfl,λe=>by cases e⟩) (λc=>by cases c)
  |some d=>
   have⟨vs,H⟩:=d;have⟨hb,hS,a0,n0⟩:=hT;rw[hb];refine an (λc=>by cases c) (λ_=>?_);rw[(jC go).2.2.2,ae];have⟨acc,r',B0,e,e1,e2,e3⟩:=hS;cases e;have C0:acc.length<=12:=by have:=a0.len;rwa[<-e1,cx]at this
   refine aG (kT hX e2 (by omega) e3 n0) ?_;rw[bk,ae,e1,fC a0,ZD];have D0:AA (some (vs,H))=if iD vs H=true then some (vs,H)else none:=rfl
   refine hQ _ _ _ ⟨rfl,by omega,_,rfl,λc=>?_,λc=>?_⟩;·grind
   rw[Q0]at c;rw[D0,Tf c];exact⟨vs,H,rfl,⟨acc,_,_,rfl,e1,e2,e3⟩,a0,(fV.1 c).len⟩
 rintro _ _ lo ⟨rfl,K0,bad,rfl,h1,h2⟩;rw[aB,aj];refine an (λc=>?_) (λc=>?_)
 ·rw[qA,ae];refine aC eH gz rfl rfl rfl λk0 G0 o0 H0=>?_;rw[(jC o0).2.2.2,ae];refine hR _ _ _ _ (by omega) ⟨by omega,by grind⟩ ?_;unfold oJ;grind
 have⟨vs,H,e,hS,a0,n0⟩:=h2 c;rw[(jC go).2.2.2,ae];have⟨acc,r',B0,e',e1,e2,e3⟩:=hS;cases e';have C0:acc.length<=12:=by have:=a0.len;rwa[<-e1,cx]at this
 obtain⟨p0,q,q2,l0,E0,e0,F0,f63,q0⟩:=AT hX e2 (by omega) e3 (by omega);refine aG E0 ?_;have L0:=e0.n;refine aC eH (e0.cells gz) rfl rfl (by show(one q && (one q2 && true))=true;rw[f63.sl.one,q0.one];rfl) λd0 I0 b0 i0=>?_;have b0:d0.get z=.cells [q,q2] 33 none:=b0;rw[(jC b0).2.2.2,ae];refine hR _ _ _ _ (by omega) ⟨by omega,λc hc=>by rw[i0 c (by omega),e0.get c (by omega),hk c hc]⟩ ?_;unfold oJ;rw[e];have:gC vs H l0 (.agg #[q,q2]):=⟨p0,q,q2,rfl,by rw[F0,e1],f63,q0⟩
 exact⟨q,q2,rfl,this.aV λc cs t g hc ht=>by rw[i0 c (λe=>by subst e;rw[e0.cells gz]at hc;cases hc;exact ht rfl),hc]⟩
end
section
variable {X:aK} {m:M}
theorem oJ.flat{D:Option (List Un×List Mk)}{m':M}{v t:Φ}(h:oJ D m' (.tuple #[v,t]))(H:bA (.tuple #[v,t]))(m:M):oJ D m (.tuple #[v,t]):=by
 unfold oJ at h⊢;split at h;·have⟨r,r2,e,hs⟩:=h;cases e;exact⟨r,r2,rfl,hs.flat H m⟩
 exact h
theorem Jh(hX:cd X){l:List UW}{ms:List Mk}{v vm w:Φ}{a:Ac}(hF:cP m l v)(hlen:l.length<1000)(hm:Sl m ms vm)(c1:ms.length<4611686018427387904)(hw:Sl m a.un.shape w)(i1:a.un.shape.length<1000000)(h3:a.kind≠3)(h4:a.kind≠4):
  ∃rv m',C X (.func 185) [.agg #[v,vm],a.v w] m m.n rv m'/\Ext m m'/\oJ (sg (bM l) ms a) m' rv:=by
 refine Cl.kI hX (Kg func185) ?_;have H:∀R:Bt->M->Nat->Prop,(∀(v:Φ) (e:Int) (m':M) (lo:Nat),m.n<=lo->Ext m m'->oJ (sg (bM l) ms a) m' (.tuple #[v,YR e])->R [v,YR e] m' lo)->dP TE (aL TE X) f185 [.agg #[v,vm],a.v w] m R:=by
  intro R hR;rw[aab];dsimp only[δ,ε,η,θ,ι,ξ,ο,ρ,ς,υ,χ,ψ,Γ,Δ,ω];refine aw λm1 C1 E0 F0=>?_;refine aw λm2 D1 G0 B0=>?_;refine aw λm3 E1 H0 o0=>?_;have m0:Ext m m3:=⟨by omega,λc hc=>by rw[o0 c (by omega),B0 c (by omega),F0 c hc]⟩
  have g1:m3.get m.n=.cells [v,vm] 33 none:=by rw[o0 _ (by omega),B0 _ (by omega)];exact E0
  have ga:m3.get m1.n=.cells (a.c w) 184 none:=by rw[o0 _ (by omega)];exact G0
  have gr:m3.get m2.n=.cells [YM,YM] 33 none:=H0;unfold ptrTo;simp only[bV,cB,jT,jR,oD,ae];refine aZ (λvs mm lo=>vs=[.bool (!(fL (bM l) && iD (bM l) ms && ez a))]/\m3=mm/\lo=m.n) (λQ hQ=>?_) ?_
  ·rw[(jC g1).2.2.2,ae];refine aG (kT hX (hF.aE m0) hlen (hm.aE m0) c1) ?_;rw[bk,ae,aj];refine an (λc=>hQ _ _ _ ⟨?_,rfl,by omega⟩) (λc=>?_);·rw[Jd]at c;rw[c];rfl
   rw[Q0]at c;rw[show ah TE m3 184 (Ga m1.n 0)=some (a.v w) by rw[DP,aQ (n:=15) ga (by show 0+15<=15;decide)];rfl,ae];refine aG (aec hX (hw.aE m0) (by omega)) ?_;rw[bk,ae];exact hQ _ _ _ ⟨by rw[c,ZD],rfl,by omega⟩
  rintro _ _ _ ⟨rfl,rfl,rfl⟩;rw[aB,aj];refine an (λc=>?_) (λc=>?_);·rw[Jd]at c;rw[qA,ae];refine aC eH gr rfl rfl rfl λC0 z1 I0 J0=>?_;rw[(jC I0).2.2.2,ae];refine hR _ _ _ _ (by omega) ⟨by omega,λc hc=>by rw[J0 c (by omega),m0.get c hc]⟩ ?_;rw[ac0 c];rfl
  rw[Q0,JJ,JJ]at c;have⟨⟨K0,L0⟩,p0⟩:=c;have hP:=nd.1 K0;have hM:=fV.1 L0;have j1:=hM.len;rw[Qx K0 L0 p0]at hR;rw[(jC g1).1,ae,zk rfl,ae];refine aw λF1 A1 s0 u0=>?_;refine aC eH s0 rfl rfl (by show(one v && (true && true))=true;rw[hF.sl.one];rfl) λq0 B1 v0 y0=>?_;have go:q0.get m3.n=.cells [v,YM] 33 none:=v0;have j0:Ext m3 q0:=⟨by omega,λc hc=>by rw[y0 c (by omega),u0 c hc]⟩
  have k0:=m0.trans j0;have g1:=j0.cells g1;have ga:=j0.cells ga;have gr:=j0.cells gr;have N0:=hF.aE k0;have r0:=hm.aE k0;clear F0 B0 o0 E0 G0 H0 s0 u0 v0 y0;obtain⟨fk,O0, -, -, -, -⟩:=YK ga
  have tail:∀{g0 e0:M} {r:Φ} {b:Bool} {L:Nat},Ext q0 g0->e0.n=g0.n->e0.get m3.n=.cells [v,r] 33 none->(∀c,c≠m3.n->e0.get c=g0.get c)->m.n<=L->(match oT (bM l) ms a with|some (vs,ns)=>b=true/\vs=bM l/\Sl g0 ns r/\ns.length<=100|none=>b=false)->
    jn (λR4=>ai (cU .not (.bool b)) λv49=>aR v49 (R4 [Ku] e0 L) (ai (ah TE e0 33 (Ga m3.n 0)) λv50=>bs TE X (.func 176) [v50] e0 λv51 k1 l1=>ai (cU .not v51) λv54=>R4 [v54] k1 (min L l1)))
   (λP0 D0 z0=>un P0 λv55 _=>aR v55 (ai (aJ TE 33 []) λv57=>aO (aD TE D0 33 (Ga m2.n 0) v57) λC0 o1=>ai (ah TE C0 33 (Ga m2.n 0)) λv60=>R [v60,YR 170] C0 (min z0 o1)) (ai (ah TE D0 33 (Ga m3.n 0)) λp1=>bs TE X (.func 184) [p1] D0 λr1 u1 v1=>aO (aD TE u1 33 (Ga m2.n 0) r1) λa1 w1=>ai (ah TE a1 33 (Ga m2.n 0)) λv67=>R [v67,YR 0] a1 (min (min z0 v1) w1))):=by
   intro g0 e0 r b L b0 i0 d0 a0 hL hd;have n38:=b0.n;refine zY (m:=m) (D:=oT (bM l) ms a) hX d0 (by rw[a0 _ (by omega)];exact b0.cells gr) ?_ hL (by omega) (by omega) (λc hc=>by rw[a0 c (by omega),b0.get c (by omega),k0.get c hc]) hR;cases e:oT (bM l) ms a with
   |none=>rw[e]at hd;exact hd
   |some d=>
    have⟨vs,ns⟩:=d;rw[e]at hd;obtain⟨d1,rfl,d3,d4⟩:=hd;have n0:=b0.cells go;have:gC (bM l) ns g0 (.agg #[v,r]):=⟨l,v,r,rfl,rfl,N0.aE b0,d3⟩
    exact⟨d1,this.aV λc cs t g hc ht=>by rw[a0 c (λe=>by subst e;rw[n0]at hc;cases hc;exact ht rfl),hc],hP,by omega⟩
  rw[fk,ae,aS,ae,aj];refine an (λk5=>?_) (λk5=>?_)
  ·have k5:a.kind=5:=NT k5;rw[(jC g1).2.2.1,ae,PU ga,ae];have⟨g0,r,b,l0,b0,hr⟩:=Bb (x:=a.zB) hX r0 hM.tP j1;refine aG l0 ?_;rw[aH,aH];simp only[zi,F9,ae];have hd:oT (bM l) ms a=if(ms.any λy=>decide (y.id=a.zB.id))=true then none else some (bM l,mY ms a.zB):=by unfold oT;rw[im,im,im,im,Tf k5]
   obtain⟨o,n,k,rfl,h1⟩:∃o n k,r=.slice o n k/\one r:=by
    rcases hr with⟨_,rfl,_⟩|⟨_,_,h⟩;·exact⟨_,_,_,rfl,rfl⟩
    have⟨o,k,e⟩:=h.sl.form;exact⟨_,_,_,e,h.sl.one⟩
   refine Bm (b0.cells go) h1 λe0 i0 d0 a0=>?_;refine tail b0 i0 d0 a0 (by omega) ?_;rw[hd];rcases hr with⟨hb,_,h⟩|⟨hb,h,ho⟩;·rw[Tf h];exact hb
   rw[QL (by rw[h];decide)];exact⟨hb,rfl,ho.sl,by have:=yI ms a.zB;omega⟩
  have k5:a.kind≠5:=Ja k5;have A0:∀{g0:M} {r:Φ} {b:Bool} {o:Bool},Bc ms a.id o g0 r b->(a.kind=6\/a.kind=7)->o=decide (a.kind=7)->(∃o n k,r=.slice o n k/\one r)/\(match oT (bM l) ms a with|some (vs,ns)=>b=true/\vs=bM l/\Sl g0 ns r/\ns.length<=100|none=>b=false):=by
   intro g0 r b o ht hk ho;have hd:oT (bM l) ms a=(mH ms a.id o).map (bM l,·):=by unfold oT;rw[im,im,im,im,im,ho]
   unfold Bc at ht;rw[hd];cases e:mH ms a.id o with
   |none=>rw[e]at ht;have⟨hb,ns,hs,_⟩:=ht;have⟨p,q,e'⟩:=hs.form;exact⟨⟨_,_,_,e',hs.one⟩,hb⟩
   |some ns=>rw[e]at ht;have⟨hb,hs⟩:=ht;have⟨p,q,e'⟩:=hs.form;exact⟨⟨_,_,_,e',hs.one⟩,hb,rfl,hs,by rw[abP e];omega⟩
  rw[aS,ae,aj];refine an (λk6=>?_) (λk6=>?_);·have k6:a.kind=6:=NT k6;rw[(jC g1).2.2.1,ae,O0,ae];obtain⟨r,b,g0,l0,b0,hr⟩:=vn (id:=a.id) (o:=false) hX r0 (by omega);refine aG l0 ?_;rw[aH,aH];simp only[zi,F9,ae];obtain⟨⟨o,n,k,rfl,h1⟩,hd⟩:=A0 hr (.inl k6) (by rw[k6];rfl);refine Bm (b0.cells go) h1 λe0 i0 d0 a0=>?_;exact tail b0 i0 d0 a0 (by omega) hd
  have k6:a.kind≠6:=Ja k6;rw[aS,ae,aj];refine an (λk7=>?_) (λk7=>?_);·have k7:a.kind=7:=NT k7;rw[(jC g1).2.2.1,ae,O0,ae];obtain⟨r,b,g0,l0,b0,hr⟩:=vn (id:=a.id) (o:=true) hX r0 (by omega);refine aG l0 ?_;rw[aH,aH];simp only[zi,F9,ae];obtain⟨⟨o,n,k,rfl,h1⟩,hd⟩:=A0 hr (.inr k7) (by rw[k7];rfl);refine Bm (b0.cells go) h1 λe0 i0 d0 a0=>?_;exact tail b0 i0 d0 a0 (by omega) hd
  have k7:a.kind≠7:=Ja k7;have b1:a.kind=1\/a.kind=2:=by
   by_cases e1:a.kind=1;·exact .inl e1
   by_cases e2:a.kind=2;·exact .inr e2
   exfalso;unfold ez ny at p0;rw[QL e1,QL e2,QL h3,QL h4,QL k5,im]at p0;simp at p0
  rw[(jC g1).2.2.2,ae,show ah TE q0 184 (Ga m1.n 0)=some (a.v w) by rw[DP,aQ (n:=15) ga (by show 0+15<=15;decide)];rfl,ae];obtain⟨rv,g0,l0,b0,hr⟩:=adk hX N0 hP r0 (by omega) (hw.aE k0) i1 b1;refine aG l0 ?_;have n38:=b0.n;unfold S4 at hr;have fin:∀{r r2:Φ} {b:Bool},rv=.tuple #[.agg #[r,r2],.bool b]->one r->one r2->(match oT (bM l) ms a with|some (vs,ns)=>b=true/\gC vs ns g0 (.agg #[r,r2])/\cq vs/\ns.length<4611686018427387904|none=>b=false)->∀e0:M,e0.n=g0.n->e0.get m3.n=.cells [r,r2] 33 none->(∀c,c≠m3.n->e0.get c=g0.get c)->(match oT (bM l) ms a with|some (vs,ns)=>b=true/\gC vs ns e0 (.agg #[r,r2])/\cq vs/\ns.length<4611686018427387904|none=>b=false):=by
   intro r r2 b _ _ _ hd e0 i0 d0 a0;cases e:oT (bM l) ms a with
   |none=>rw[e]at hd;exact hd
   |some d=>have⟨vs,ns⟩:=d;rw[e]at hd;have⟨d1,d2,d3⟩:=hd;have n0:=b0.cells go;exact⟨d1,d2.aV λc cs t g hc ht=>by rw[a0 c (λe=>by subst e;rw[n0]at hc;cases hc;exact ht rfl),hc],d3⟩
  obtain⟨r,r2,b,rfl,h1,h2,hd⟩:∃r r2 b,rv=.tuple #[.agg #[r,r2],.bool b]/\one r/\one r2/\(match oT (bM l) ms a with|some (vs,ns)=>b=true/\gC vs ns g0 (.agg #[r,r2])/\cq vs/\ns.length<4611686018427387904|none=>b=false):=by
   cases e:oT (bM l) ms a with
   |none=>rw[e]at hr;have⟨r,r2,e1,e2,e3⟩:=hr;exact⟨r,r2,false,e1,e2,e3,rfl⟩
   |some d=>
    have⟨vs,ns⟩:=d;rw[e]at hr;obtain⟨_,e1,acc,r,r2,rfl,e2,e3,e4⟩:=hr;have G1:ns.length<=ms.length:=by
     unfold oT at e;rcases b1 with k|k
     ·rw[Tf k]at e;cases e5:qF (bM l) a.un with
      |none=>rw[e5]at e;cases e
      |some q=>rw[e5]at e;cases e;exact Ox _
     rw[im,Tf k]at e;split at e;·cases e;exact Gp _ _
     cases e
    exact⟨r,r2,true,e1,e3.sl.one,e4.one,rfl,⟨acc,r,r2,rfl,e2,e3,e4⟩,Ic hP e,by omega⟩
  rw[aH,aH];simp only[zi,F9,ae];refine aC eH (b0.cells go) rfl rfl (by show(one r && (one r2 && true))=true;rw[h1,h2];rfl) λe0 i0 d0 a0=>?_;have d0:e0.get m3.n=.cells [r,r2] 33 none:=d0;exact zY (m:=m) (D:=oT (bM l) ms a) hX d0 (by rw[a0 _ (by omega)];exact b0.cells gr) (fin rfl h1 h2 hd e0 i0 d0 a0) (by omega) (by omega) (by omega) (λc hc=>by rw[a0 c (by omega),b0.get c (by omega),k0.get c hc]) hR
 refine H _ λv e m' lo y1 hx hs=>?_;show(bA (.tuple #[v,YR e])/\m.n<=lo/\(m.n=m.n/\Ext m m/\oJ _ m (.tuple #[v,YR e])))\/((bA (.tuple #[v,YR e])=false\/lo<m.n)/\(min m.n lo=m.n/\Ext m m'/\oJ _ m' (.tuple #[v,YR e])));cases hf:bA (.tuple #[v,YR e]);·exact .inr ⟨.inl rfl,by omega,hx,hs⟩
 exact .inl ⟨rfl,y1,rfl,.refl,hs.flat hf m⟩
theorem yf{α:Type}[aW α]{T:TypeId}(hT:qH TE T α)(j0:aW.cT α=[]){n1:Nat}{acc:List α}{r v:Φ}{cs:Bt}{x:α}(hw:Ow n1 m acc r)(hn:n1<=m.n)(k0:acc.length<1000000)
  (d0:aF TE m T 1 [(0,v)]=some (KI m.n 0 1 1,m.push (.cells cs (aW.ty α) none))) (hr:∀m',aW.rep m' x cs) {P:Φ->M->Prop}
  (hP:∀r' m2,Ow n1 m2 (acc++ [x]) r'->m.n<=m2.n->(∀c,c<n1->m2.get c=m.get c)->(∀c,c<m.n->(∀cs g,m.get c≠.cells cs (aW.ty α) g)->m2.get c=m.get c)->n1<=m2.low->(∀c,c<m.n->(∀a n k,r=.slice (some a) n k->c≠a.block)->m2.get c=m.get c)->(∀a n k,r'=.slice (some a) n k->m.n<=a.block)->P r' m2):
  aO (aF TE m T 1 [(0,v)]) λa m1=>aO (av TE (M.wl m1 (M.n m1)) .append [T,T] [r,a]) λr' m2=>P r' m2:=by
 rw[d0,az];obtain⟨m1,H⟩:∃y,y=m.push (.cells cs (aW.ty α) none):=⟨_,rfl⟩
 rw[<-H];have a0:Ext m m1:=by rw[H];exact Ext.refl.push
 have l0:m1.n=m.n+1:=by rw[H];rfl
 have e0:m1.get m.n=.cells cs (aW.ty α) none:=by rw[H];exact M.aX
 have g0:=hw.aE a0;obtain⟨r',m2,e1,h1,h2,h3,h4⟩:=g0.append hT (by grind) (gU e0 (hr _)) (by omega) (by grind);rw[e1,az];have ho:∀c,c<m.n->(∀a n k,r=.slice (some a) n k->c≠a.block)->m2.get c=m.get c:=λc hc b0=>by rw[fg e1 (by omega) b0,a0.get c hc]
 refine hP r' m2 h1 (by have:=h2.n;omega) (λc hc=>by rw[h2.get c hc,a0.get c (by omega)]) (λc hc b0=>ho c hc λad n k e he=>?_) h3 ho λa n k e=>?_
 ·have⟨i0,g',m0,_⟩:=eR hw e;grind
 obtain⟨k',rfl⟩:∃k,r'=KI m1.n 0 k k:=by
  rcases hw with⟨rfl,_⟩|⟨b,i0,rfl,_⟩;·exact⟨_,kn e1 rfl (by simp)⟩
  exact⟨_,kn e1 rfl (by simp)⟩
 cases e;show m.n<=m1.n;omega
theorem fq{α:Type}[aW α]{T:TypeId}(hT:qH TE T α)(a0:aW.cT α=[]){n1:Nat}{acc:List α}{r v:Φ}{cs:Bt}{x:α}(hw:Ow n1 m acc r)(hn:n1<=m.n)(b0:acc.length<1000000)
  (d0:aF TE m T 1 [(0,v)]=some (KI m.n 0 1 1,m.push (.cells cs (aW.ty α) none))) (hr:∀m',aW.rep m' x cs) {P:Φ->M->Prop}
  (hP:∀H m2,Ow n1 m2 (acc++ [x]) H->m.n<=m2.n->(∀c,c<n1->m2.get c=m.get c)->(∀c,c<m.n->(∀cs g,m.get c≠.cells cs (aW.ty α) g)->m2.get c=m.get c)->n1<=m2.low->P H m2):
  aO (aF TE m T 1 [(0,v)]) λa m1=>aO (av TE (M.wl m1 (M.n m1)) .append [T,T] [r,a]) λH m2=>P H m2:=
 yf hT a0 hw hn b0 d0 hr λH m2 h1 h2 h3 h4 h5 _ _=>hP H m2 h1 h2 h3 h4 h5
end
theorem ack{X:aK}{x0 x1:Φ}{m:M}{R:Bt->M->Nat->Prop}:dP TE (aL TE X) f222 [x0,x1] m R=ρ m x1 141 λa=>Lp (λa b c d=>un b λb f=>un f λf g=>un g λg _=>κ c .len [58] [x0] λh _=>η .lss 3 g h λh=>aR h (ζ 58 x0 g λh=>δ c 141 h λh=>ψ X 299 [x0,g] c λi j k=>(c.n<=k)/\(δ j 141 (υ m) λc=>ψ X 223 [h,i,c] j λc h i=>η .lss 3 c (χ 0) λj=>aR j (R [χ (-1)] h (ω d k i)) (η .eql 3 c (χ 0) λc=>aR c (η .add 3 g (χ 1) λc=>a [b,χ 0,c] h (ω d k i)) (η .add 3 g (χ 1) λc=>a [b,f,c] h (ω d k i))))) (R [f] c d)) [χ 0,χ 1,χ 0] a m.n:=by kernel_rfl
section
variable {X:aK} {m:M}
theorem yD{l:List Pl}{p:Pl}:∀(n i:Nat),i<=n->fW l p n<=fW l p i
 |0,i,h=>by grind
 |n+1,i,h=>by
  by_cases e:i=n+1;·grind
  ·have H:=yD (l:=l) (p:=p) n i (by omega);rw[fW];grind
theorem Ig{x:Int}(h:0<x):dp x 0=1:=by unfold dp;rw[im,Tf h]
theorem CT(hX:cd X){l:List Pl}{v:Φ}{p:Pl}(hl:Sl m l v)(hb:l.length<1000000)(e0:∀a∈l,a.sm 1000000)(hp:p.sm 1000000):C X (.func 222) [v,p.v] m m.n (YR (Di l p)) m:=by
 refine Cl.fl hX (Kg func222) ?_;rw[ack];dsimp only[δ,ζ,η,κ,ρ,υ,χ,ψ,ω];refine aw λm1 n0 H g0=>?_;have H:m1.get m.n=.cells p.c 141 none:=H;have i0:Ext m m1:=⟨by omega,g0⟩
 have a0:=hl.aE i0;have j0:ah TE m1 141 (Ga m.n 0)=some p.v:=by rw[ll,aQ H (by simp[Pl.c])];rfl
 unfold ptrTo;refine Lp.intro (γ:=Nat) (λi=>l.length-i) (λi vs mm lo=>∃w0,vs=[w0,YR (dp (fW l p i) 0),YR i]/\i<=l.length/\m1=mm/\m.n<=lo/\0<=fW l p i) 0 ⟨_,rfl,ZE _,rfl,Ox _,(show(0:Int)<=4611686018427387903 by decide)⟩ ?_;rintro i vs mm lo ⟨w0,rfl,hi,rfl,k0,m0⟩;rw[aB,aB,aB,a0.len cA,az,aM,ae,aj];refine an (λb0=>?_) (λo0=>?_)
 ·have b0:i<l.length:=by grind
  obtain⟨a,ha⟩:∃a,l[i]?=some a:=⟨_,Fx b0⟩
  obtain⟨b,d0⟩:∃b,l[(i+1)%l.length]?=some b:=⟨_,Fx (TH _ (by omega))⟩
  have⟨q,e1,e2⟩:=a0.dX (k:=.i64) ha;have p0:fW l p (i+1)=min (fW l p i) (df a b p):=by rw[fW,ha,d0]
  rw[e1,ae,e2,ae];refine aG (Gc hX a0 (by omega) b0 d0) ⟨Ox _,?_⟩;rw[j0,ae];refine aG (xW hX (e0 a (LZ ha)) (e0 b (LZ d0)) hp) ?_;rw[aM,ae,aj];refine an (λh1=>?_) (λh1=>?_)
  ·have h1:df a b p<0:=by grind
   have h2:=yD (l:=l) (p:=p) l.length (i+1) (by omega);have:Di l p= -1:=by unfold Di dp;rw[WD]
   rw[this];exact⟨rfl,by omega⟩
  have h1:¬df a b p<0:=by grind
  rw[aS,ae,aj];refine an (λh2=>?_) (λh2=>?_)
  ·have h2:df a b p=0:=by grind
   rw[aP,ae,wrap64];have:dp (fW l p (i+1)) 0=0:=by unfold dp;rw[im,im]
   exact⟨i+1,by omega,w0,by grind,by omega,rfl,by omega,by omega⟩
  have h2:¬df a b p=0:=by grind
  rw[aP,ae,wrap64];have:dp (fW l p (i+1)) 0=dp (fW l p i) 0:=by
   by_cases e:0<fW l p i;·rw[Ig e,Ig (by omega)]
   rw[show fW l p i=0 by omega,show fW l p (i+1)=0 by omega]
  exact⟨i+1,by omega,w0,by grind,by omega,rfl,by omega,by omega⟩
 have l0:i=l.length:=by
  have:¬(i:Int)< (l.length:Int):=by grind
  omega
 subst l0;exact⟨rfl,k0⟩
def iU(x y:Nat):List Pl:=((List.range x).flatMap λ(i:Nat)=>(List.range 41).map λ(j:Nat)=>(⟨(i:Int),(j:Int)⟩:Pl))++(List.range y).map λ(j:Nat)=>⟨(x:Int),(j:Int)⟩
theorem yL(x y:Nat):iU x (y+1)=iU x y++ [⟨(x:Int),(y:Int)⟩]:=by unfold iU;rw[Gm (n:=y),Cu,WO];rfl
theorem Ec(x:Nat):iU (x+1) 0=iU x 41:=by unfold iU;rw[Gm (n:=x),rJ];simp
theorem yM(x:Nat):∀y,(iU x y).length<=41*x+y:=by
 induction x with
 |zero=>intro y;unfold iU;simp
 |succ x H=>
  intro y;induction y with
  |zero=>rw[Ec];have:=H 41;omega
  |succ y a0=>rw[yL,NN];simp only[zG,GK];omega
def zm(a b:List Pl)(p:Pl):Bool:=decide (Di a p=0) && decide (Di b p=0)
def mA(a b:List Pl):List Pl:=(iU 41 0).filter (zm a b)
def Bu(a b:List Pl):Option (Pl×Pl):=if(mA a b).length < 2 then none else some (if a.any (λx=>decide (df ((mA a b).getD 0 ⟨0,0⟩) ((mA a b).getD ((mA a b).length-1) ⟨0,0⟩) x < 0))=true then((mA a b).getD ((mA a b).length-1) ⟨0,0⟩,(mA a b).getD 0 ⟨0,0⟩)else((mA a b).getD 0 ⟨0,0⟩,(mA a b).getD ((mA a b).length-1) ⟨0,0⟩))
def fQ(a b:List Pl):Option (Pl×Pl):=if(bI a && bI b && !fw a b)=true then Bu a b else none
theorem MZ{mm:M}{z:Nat}{o:Option (Pl×Pl)}{P:M->Nat->Φ->Prop}(g:mm.get z=.cells so 143 none)(hP:∀m',m'.n=mm.n->P m' z (.agg (iz o).toArray)):
  aO (aD TE mm 143 (Ga z 0) (.agg (iz o).toArray)) λm' b=>ai (ah TE m' 143 (Ga z 0)) λv=>P m' b v:=by
 refine aC oZ g (by rw[aT];exact fB _) (by rw[aT];exact fB _) (by rw[aT];exact ub _) λm' a0 H b0=>?_;rw[aT]at H;rw[show ah TE m' 143 (Ga z 0)=some (.agg (iz o).toArray) by rw[mW,aQ (n:=4) H (by simp only[JU];rw[fB];decide)];simp only[JU,QA];rw[QM (by rw[fB];exact Ox _)];rfl,ae];grind
theorem aej(hX:cd X){a b:List Pl}{va vb:Φ}(ha:Sl m a va)(hb:Sl m b vb)(la:a.length<1000000)(lb:b.length<1000000):
  C X (.func 175) [va,vb] m m.n (.tuple #[.agg (iz (fQ a b)).toArray,.bool (fQ a b).isSome]) m:=by
 refine Cl.flat (hX.no _ rfl) (Kg func175) rfl (by cases fQ a b <;>rfl) ?_;rw[aal];dsimp only[δ,ζ,η,θ,ι,κ,ν,ο,ς,υ,χ,ψ,Γ,ω];refine aw λm1 L1 g1 h1=>?_;have g0:m1.get m.n=.cells so 143 none:=g1;have r0:Ext m m1:=⟨by omega,h1⟩
 have I0:=ha.aE r0;have J0:=hb.aE r0;unfold ptrTo;refine aZ (λvs m' lo=>vs=[.bool (!(bI a && bI b && !fw a b))]/\m1=m'/\m.n<=lo) (λR hR=>?_) ?_
 ·refine aG (mN hX I0 (by omega)) ?_;rw[bk,ae,aj];refine an (λc=>hR _ _ _ ⟨?_,rfl,by omega⟩) (λc=>?_);·rw[Jd]at c;rw[c];rfl
  rw[Q0]at c;refine aG (mN hX J0 (by omega)) ?_;rw[bk,ae,aj];refine an (λd=>hR _ _ _ ⟨?_,rfl,by omega⟩) (λd=>?_);·rw[Jd]at d;rw[c,d];rfl
  rw[Q0]at d;refine aG (vA hX I0 J0 la lb) ?_;exact hR _ _ _ ⟨by simp_all,rfl,by omega⟩
 rintro _ _ lo ⟨rfl,rfl,K0⟩;rw[aB,aj];have d0:∀{H:M} {lo:Nat},H.get m.n=.cells so 143 none->m.n<=lo->fQ a b=none->ai (aJ TE 143 []) λE0=>aO (aD TE H 143 (Ga m.n 0) E0) λm20 F0=>ai (ah TE m20 143 (Ga m.n 0)) λv22=>bh [v22,Zf]=.tuple #[.agg (iz (fQ a b)).toArray,.bool (fQ a b).isSome]/\m.n<=min lo F0:=by intro H lo g hl e;rw[show aJ TE 143 []=some (.agg (iz none).toArray)from pP,ae];refine MZ g λm' j1=>⟨by rw[e];rfl,by omega⟩
 have e0:∀{H:M} {lo:Nat} {p q:Pl},H.get m.n=.cells so 143 none->m.n<=lo->fQ a b=some (p,q)->ai (aJ TE 143 [(0,p.v),(1,q.v)]) λE0=>aO (aD TE H 143 (Ga m.n 0) E0) λm20 F0=>ai (ah TE m20 143 (Ga m.n 0)) λv22=>bh [v22,Ku]=.tuple #[.agg (iz (fQ a b)).toArray,.bool (fQ a b).isSome]/\m.n<=min lo F0:=by intro H lo p q g hl e;rw[show aJ TE 143 [(0,p.v),(1,q.v)]=some (.agg (iz (some (p,q))).toArray)from lL,ae];refine MZ g λm' j1=>⟨by rw[e];rfl,by omega⟩
 refine an (λc=>?_) (λc=>?_);·rw[Jd]at c;exact d0 g0 K0 (by unfold fQ;rw[QL (by grind)])
 rw[Q0]at c;have L0:fQ a b=Bu a b:=by unfold fQ;rw[Tf c]
 rw[JJ,JJ]at c;have sa:=jl c.1.1;have sb:=jl c.1.2;refine Lp.intro (γ:=Nat) (λx=>41-x) (λx vs H lo=>∃r,vs=[r,YR x]/\x<=41/\Ext m1 H/\m.n<=lo/\Ow m1.n H ((iU x 0).filter (zm a b)) r) 0 ⟨_,rfl,by omega,.refl,K0,Ow.nil⟩ ?_;rintro x vs H N1 ⟨r,rfl,hx,b0,v0,ho⟩;rw[aB,aB,cz,ae,aj];refine an (λn0=>?_) (λk1=>?_)
 ·have n0:(x:Int)<=40:=NT n0;refine Lp.intro (γ:=Nat) (λy=>41-y) (λy vs H lo=>∃r,vs=[r,YR y]/\y<=41/\Ext m1 H/\m.n<=lo/\Ow m1.n H ((iU x y).filter (zm a b)) r) 0 ⟨_,rfl,by omega,b0,v0,ho⟩ ?_;rintro y vs H fO ⟨r,rfl,hy,b0,N0,ho⟩;have nm:=b0.n;rw[aB,aB,cz,ae,aj];refine an (λO0=>?_) (λO1=>?_)
  ·have O0:(y:Int)<=40:=NT O0;obtain⟨p,hp⟩:∃p:Pl,p=⟨(x:Int),(y:Int)⟩:=⟨_,rfl⟩
   have s0:p.sm 1000000:=by rw[hp];refine⟨?_,?_,?_,?_⟩ <;>(simp only[];omega)
   rw[show aJ TE 141 [(0,YR x),(1,YR y)]=some p.v by rw[mB rfl rfl,hp];rfl,ae];refine aw λP1 y1 P0 z1=>?_;refine aC dd P0 rfl rfl rfl λG0 A1 j0 B1=>?_;have j0:G0.get H.n=.cells p.c 141 none:=j0;have m0:Ext H G0:=⟨by omega,by grind⟩
   have b1:=r0.trans (b0.trans m0);have y0:=ho.aE m0;refine aZ (λvs m' lo=>vs=[.bool (zm a b p)]/\G0=m'/\m.n<=lo) (λR hR=>?_) ?_
   ·rw[bT j0,ae];refine aG (CT hX (ha.aE b1) la sa s0) ?_;rw[aS,ae,aj];refine an (λd=>?_) (λd=>?_);·rw[bT j0,ae];refine aG (CT hX (hb.aE b1) lb sb s0) ?_;rw[aS,ae];exact hR _ _ _ ⟨by unfold zm;rw[d,ZD],rfl,by omega⟩
    exact hR _ _ _ ⟨by unfold zm;rw[d,zJ],rfl,by omega⟩
   rintro _ _ o1 ⟨rfl,rfl,z0⟩;have T1:=yM x y;have C1:=Ei (zm a b) (iU x y);rw[aB,aj];refine an (λd=>?_) (λd=>?_);·rw[bT j0,ae];refine fq (x:=p) uZ rfl y0 (by omega) (by omega) FC (λ_=>rfl) λr' b2 w2 n2 k2 c2 l2=>?_;rw[aP,ae,wrap64];refine⟨y+1,by omega,r',rfl,by omega,⟨by omega,λc hc=>by rw[k2 c hc,m0.get c (by omega),b0.get c hc]⟩,by omega,?_⟩;rw[yL,WN,<-hp,Lm,Tf d];exact w2
   rw[aP,ae,wrap64];refine⟨y+1,by omega,r,rfl,by omega,b0.trans m0,z0,?_⟩;rw[yL,WN,<-hp,Lm,QL (by grind),Wm,Zu];exact y0
  have p1:y=41:=by
   grind
  subst p1;rw[aP,ae,wrap64];exact⟨x+1,by omega,r,rfl,by omega,b0,N0,by rw[Ec];exact ho⟩
 have r1:x=41:=by
  grind
 subst r1;have ho:Ow m1.n H (mA a b) r:=ho;have nm:=b0.n;have gz:=b0.cells g0;have d2:(mA a b).length<=1681:=YB (Ei _ _) (yM 41 0);rw[ho.sl.len cA,az,aM,ae,aj];refine an (λh2=>?_) (λh2=>?_)
 ·have h2:(mA a b).length<2:=by grind
  exact d0 gz v0 (by rw[L0];unfold Bu;rw[Tf h2])
 have h2:¬(mA a b).length<2:=by grind
 obtain⟨k,hk⟩:∃k,k=(mA a b).length-1:=⟨_,rfl⟩
 obtain⟨p,hp⟩:∃p,(mA a b)[0]?=some p:=⟨_,qp⟩
 obtain⟨q,hq⟩:∃q,(mA a b)[k]?=some q:=⟨_,qp⟩
 have A0:∀z∈mA a b,z.sm 1000000:=by
  intro z hz;have hz:=(RL.1 hz).1;unfold iU at hz;simp only[OH,KB,LY,Bv]at hz;rcases hz with⟨i,hi,j,hj,rfl⟩|⟨j,hj,_⟩;·refine⟨?_,?_,?_,?_⟩ <;>(simp only[];omega)
  omega
 have s0:=A0 p (LZ hp);have u1:=A0 q (LZ hq);have v1:(mA a b).getD 0 ⟨0,0⟩=p:=by grind
 have w1:(mA a b).getD k ⟨0,0⟩=q:=by grind
 have B0:fQ a b=some (if a.any (λx=>decide (df p q x<0))=true then(q,p)else(p,q)):=by rw[L0];unfold Bu;rw[QL h2,<-hk,v1,w1]
 have⟨a0,i0,l0⟩:=ho.sl.dX (k:=.i64) hp;have i0:ak TE 58 r (YR 0)=some a0:=i0;rw[i0,ae,l0,ae];refine aw λe2 D1 c1 E1=>?_;refine aC dd c1 rfl rfl rfl λu0 F1 o0 G1=>?_;have o0:u0.get H.n=.cells p.c 141 none:=o0;have p0:Ext H u0:=⟨by omega,by grind⟩
 have C0:=ho.aE p0;have⟨a1,i1,l1⟩:=C0.sl.dX (k:=.i64) hq;rw[C0.sl.len cA,az,dt,ae,wrap64,show((mA a b).length:Int)-1=(k:Int) by omega,i1,ae,l1,ae];refine aw λg2 H1 d1 I1=>?_;refine aC dd d1 rfl rfl rfl λH0 J1 k0 K1=>?_;have k0:H0.get u0.n=.cells q.c 141 none:=k0;have q0:Ext u0 H0:=⟨by omega,by grind⟩
 have gp:=q0.cells o0;have gz:=q0.cells (p0.cells gz);have D0:=ha.aE (r0.trans ((b0.trans p0).trans q0));refine Lp.intro (γ:=Nat) (λi=>a.length-i) (λi vs H lo=>∃z,vs=[z,YR i]/\i<=a.length/\H0=H/\m.n<=lo/\∀j w,j<i->a[j]?=some w->¬df p q w<0) 0 ⟨_,rfl,ZE _,rfl,by omega,λj w hj=>by omega⟩ ?_;rintro i vs _ o1 ⟨z,rfl,hi,rfl,z0,e1⟩;rw[aB,aB,D0.len cA,az,aM,ae,aj];refine an (λn0=>?_) (λk1=>?_)
 ·have n0:i<a.length:=by grind
  obtain⟨w,hw⟩:∃w,a[i]?=some w:=⟨_,Fx n0⟩
  have⟨a2,i2,l2⟩:=D0.dX (k:=.i64) hw;rw[bT gp,ae,bT k0,ae,i2,ae,l2,ae];refine aG (xW hX s0 u1 (sa w (LZ hw))) ?_;rw[aM,ae,aj];refine an (λd=>?_) (λd=>?_);·rw[bT k0,ae,bT gp,ae];refine e0 gz (by omega) ?_;rw[B0,Tf (JL.2 ⟨w,LZ hw,d⟩)]
  rw[aP,ae,wrap64];refine⟨i+1,by omega,z,rfl,by omega,rfl,by omega,λj y hj hy=>?_⟩;by_cases e:j=i;·subst e;rw[hw]at hy;cases hy;exact Ja d
  exact e1 j y (by omega) hy
 have j2:i=a.length:=by
  grind
 rw[bT gp,ae,bT k0,ae];refine e0 gz (by omega) ?_;rw[B0,QL];intro e;have⟨w,hw,hd⟩:=JL.1 e;have⟨j,hj⟩:=ZZ hw;exact e1 j w (by grind) hj (NT hd)
def eh(u v:Un):Option Ct:=if jX u v then(fQ u.shape v.shape).map λs=>⟨u.id,v.id,s.1,s.2,max u.back v.back,min u.front v.front⟩else none
theorem qb(hX:cd X){a b:Un}{va vb:Φ}(ha:Sl m a.shape va)(hb:Sl m b.shape vb)(la:a.shape.length<1000000)(lb:b.shape.length<1000000):
  C X (.func 130) [a.v va,b.v vb] m m.n (.tuple #[.agg (CN (eh a b)).toArray,.bool (eh a b).isSome]) m:=by
 refine Cl.flat (hX.no _ rfl) (Kg func130) rfl (by cases eh a b <;>rfl) ?_;rw[aaI];dsimp only[δ,ε,θ,ι,κ,ξ,ο,ρ,ς,υ,χ,ψ,Δ,ω];refine aw λm1 s0 l0 u0=>?_;refine aw λm2 v0 m0 y0=>?_;refine aw λm3 z0 n0 A0=>?_;simp only[aT]at l0 m0;have g0:Ext m m3:=⟨by omega,by grind⟩
 have g1:m3.get m.n=.cells (a.c va) 60 none:=by grind
 have g2:m3.get m1.n=.cells (b.c vb) 60 none:=by grind
 have g3:m3.get m2.n=.cells Ct.zc 145 none:=n0;obtain⟨a0, -, -,a3,a4,a5⟩:=kz g1;obtain⟨b0, -, -,b3,b4,b5⟩:=kz g2;have i0:=ha.aE g0;have j0:=hb.aE g0;unfold ptrTo;rw[bU g1,ae,bU g2,ae];refine aG (vz (m:=m3) hX i0 j0 (by omega) (by omega)) ?_;rw[bk,ae,aj];refine an (λh=>?_) (λh=>?_)
 ·have h:jX a b=false:=by grind
  have e:eh a b=none:=by unfold eh;rw[QL (by grind)]
  rw[kO,ae];refine my g3 rfl λm' hn=>?_;rw[e];exact⟨rfl,by omega⟩
 have h:jX a b:=by grind
 have e:eh a b=(fQ a.shape b.shape).map λs=>⟨a.id,b.id,s.1,s.2,max a.back b.back,min a.front b.front⟩:=by unfold eh;rw[Tf h]
 rw[bD,ae,a3,ae,bD,ae,b3,ae];refine aG (aej hX i0 j0 la lb) ?_;rw[aH,aH];simp only[zi,F9,ae];refine aw λB0 o0 k0 p0=>?_;refine aC oZ k0 (by rw[aT];exact fB _) (by rw[aT];exact fB _) (by rw[aT];exact ub _) λH q0 e0 r0=>?_;rw[aT]at e0;have e0:H.get m3.n=.cells (iz (fQ a.shape b.shape)) 143 none:=e0;have C0:∀c,c<m3.n->H.get c=m3.get c:=by grind
 have r3:H.get m2.n=.cells Ct.zc 145 none:=by grind
 rw[bk,ae,aj];cases hs:fQ a.shape b.shape with
 |none=>show gH true _ _;rw[bH,kO,ae];refine my r3 rfl λm' hn=>?_;rw[e,hs];exact⟨rfl,by omega⟩
 |some s=>
  show gH false _ _;rw[aN];have r1:H.get m.n=.cells (a.c va) 60 none:=by grind
  have r2:H.get m1.n=.cells (b.c vb) 60 none:=by grind
  rw[hs]at e0;obtain⟨c0, -, -, -,c4,c5⟩:=kz r1;obtain⟨d0, -, -, -,d4,d5⟩:=kz r2;simp only[bz,cK,cJ,ae];rw[c0,ae,d0,ae];rw[show ah TE H 143 (Ga m3.n 0)=some (.agg (jo s.1 s.2).toArray) by rw[mW,aQ e0 (by rw[fB];exact Ox _)];rfl,ae,c4,ae,d4,ae];rw[show av TE H .max [3,3] [YR a.back,YR b.back]=some (YR (max a.back b.back),H)from qi,az,c5,ae,d5,ae];rw[show av TE H .min [3,3] [YR a.front,YR b.front]=some (YR (min a.front b.front),H)from kf,az,tD,ae];refine my r3 rfl λm' hn=>?_;rw[e,hs];refine⟨?_,by omega⟩;first|rfl|trivial
def nE(l:List Pl):List Pl:=l.filter λp=>decide (p.y=0)
def eI(u:Un):Option Ct:=if jD u then(if(nE u.shape).length=2 then some (if((nE u.shape).getD 1 ⟨0,0⟩).x < ((nE u.shape).getD 0 ⟨0,0⟩).x then⟨u.id, -1,(nE u.shape).getD 1 ⟨0,0⟩,(nE u.shape).getD 0 ⟨0,0⟩,u.back,u.front⟩else⟨u.id, -1,(nE u.shape).getD 0 ⟨0,0⟩,(nE u.shape).getD 1 ⟨0,0⟩,u.back,u.front⟩)else none)else none
theorem adG(hX:cd X){a:Un}{va:Φ}(ha:Sl m a.shape va)(la:a.shape.length<1000000):
  C X (.func 129) [a.v va] m m.n (.tuple #[.agg (CN (eI a)).toArray,.bool (eI a).isSome]) m:=by
 refine Cl.flat (hX.no _ rfl) (Kg func129) rfl (by cases eI a <;>rfl) ?_;rw[aaJ];dsimp only[δ,ε,ζ,η,θ,ι,κ,ν,ο,ρ,ς,υ,χ,ψ,Γ,ω];refine aw λm1 o1 G0 r1=>?_;refine aw λm2 u1 H0 v1=>?_;simp only[aT]at G0;have I0:Ext m m2:=⟨by omega,by grind⟩
 have g1:m2.get m.n=.cells (a.c va) 60 none:=by grind
 have g2:m2.get m1.n=.cells Ct.zc 145 none:=H0;have v0:=ha.aE I0;unfold ptrTo;simp only[bz,bD,cK,cJ,ae];rw[bU g1,ae];refine aG (iP hX v0 (by omega)) ?_;rw[bk,ae,aj];refine an (λh=>?_) (λh=>?_)
 ·have h:jD a=false:=by grind
  have e:eI a=none:=by unfold eI;rw[QL (by grind)]
  rw[kO,ae];refine my g2 rfl λm' hn=>?_;rw[e];exact⟨rfl,by omega⟩
 have h:jD a:=by grind
 refine Lp.intro (γ:=Nat) (λi=>a.shape.length-i) (λi vs mm lo=>∃r,vs=[r,YR i]/\i<=a.shape.length/\Ext m2 mm/\m.n<=lo/\Ow m2.n mm (nE (a.shape.take i)) r) 0 ⟨_,rfl,ZE _,.refl,by omega,Ow.nil⟩ ?_;rintro i vs mm lo ⟨r,rfl,hi,H,J0,ho⟩;have nm:=H.n;obtain⟨c0, -, -,c3,c4,c5⟩:=kz (H.cells g1);have q0:=v0.aE H;rw[aB,aB,c3,ae,q0.len cA,az,aM,ae,aj];refine an (λy0=>?_) (λK0=>?_)
 ·have y0:i<a.shape.length:=by grind
  obtain⟨p,hp⟩:∃p,a.shape[i]?=some p:=⟨_,Fx y0⟩
  have⟨b0,o0,bc,g0,cs,e0,r0,j0,_,s0⟩:=q0.fa cA (k:=.i64) hp;have j0:cs=p.c:=j0;subst j0;have⟨a0,i0,l0⟩:=q0.dX (k:=.i64) hp;obtain rfl:a0=Ga b0 o0:=Option.some.inj (i0.symm.trans e0);have z0:a.shape.take (i+1)=a.shape.take i++ [p]:=by rw[Q1,hp];rfl
  have w1:(nE (a.shape.take i)).length<=i:=by have:=Ei (λp:Pl=>decide (p.y=0)) (a.shape.take i);rw[Gy]at this;unfold nE;omega
  rw[ae,e0,ae,cN,ae,show ah TE mm 3 (Ga b0 (o0+1))=some (YR p.y) by rw[bF,aI r0,s0 1 (by decide)];rfl,ae,aS,ae,aj];refine an (λd=>?_) (λd=>?_);·rw[ae,e0,ae,l0,ae];refine fq (x:=p) uZ rfl ho nm (by omega) FC (λ_=>rfl) λr' y1 w2 n2 k2 z1 l2=>?_;rw[aP,ae,wrap64];refine⟨i+1,by omega,r',rfl,by omega,⟨by omega,λc hc=>by rw[k2 c hc,H.get c hc]⟩,by omega,?_⟩;rw[z0];unfold nE at w2⊢;rw[WN,Lm,Tf d];exact w2
  rw[aP,ae,wrap64];refine⟨i+1,by omega,r,rfl,by omega,H,J0,?_⟩;rw[z0];unfold nE at ho⊢;rw[WN,Lm,QL (by grind),Wm,Zu];exact ho
 have L0:i=a.shape.length:=by have:¬(i:Int)< (a.shape.length:Int):=Ja K0;omega
 subst L0;rw[QM (Ox _)]at ho;have A0:=H.cells g2;rw[ho.sl.len cA,az,bL,ae,aj];refine an (λd=>?_) (λd=>?_)
 ·have d:(nE a.shape).length≠2:=by intro e;rw[e]at d;simp at d
  have e:eI a=none:=by unfold eI;rw[Tf h,QL d]
  rw[kO,ae];refine my A0 rfl λm' hn=>?_;rw[e];exact⟨rfl,by omega⟩
 have d:(nE a.shape).length=2:=by simp at d;omega
 obtain⟨p,hp⟩:∃p,(nE a.shape)[0]?=some p:=⟨_,qp⟩
 obtain⟨q,hq⟩:∃q,(nE a.shape)[1]?=some q:=⟨_,qp⟩
 have N0:(nE a.shape).getD 0 ⟨0,0⟩=p:=by grind
 have O0:(nE a.shape).getD 1 ⟨0,0⟩=q:=by grind
 have p0:eI a=some (if q.x<p.x then⟨a.id, -1,q,p,a.back,a.front⟩else⟨a.id, -1,p,q,a.back,a.front⟩):=by unfold eI;rw[Tf h,Tf d,N0,O0]
 have n0:∀{m':M} {k:Nat} {z:Pl},Ext mm m'->(nE a.shape)[k]?=some z->∃ad,ak TE 58 r (YR k)=some ad/\ah TE m' 141 ad=some z.v/\∃B0,af TE 141 ad 0=some B0/\ah TE m' 3 B0=some (YR z.x):=by intro m' k z hx hz;have hs:=ho.sl.aE hx;have⟨b0,o0,bc,g0,cs,e0,r0,j0,_,s0⟩:=hs.fa cA (k:=.i64) hz;have j0:cs=z.c:=j0;subst j0;have⟨a0,i0,l0⟩:=hs.dX (k:=.i64) hz;obtain rfl:a0=Ga b0 o0:=Option.some.inj (i0.symm.trans e0);exact⟨_,i0,l0,_,bY,by rw[bF,aI r0,s0 0 (by decide)];rfl⟩
 obtain⟨pa,p1,p2, -, -, -⟩:=n0 .refl hp;obtain⟨qa,q1,q2, -, -, -⟩:=n0 .refl hq;have p1:ak TE 58 r (YR 0)=some pa:=p1;have q1:ak TE 58 r (YR 1)=some qa:=q1;rw[p1,ae,p2,ae,q1,ae,q2,ae,lL,ae];refine aw λA1 h1 C0 i1=>?_;refine aC oZ C0 rfl rfl rfl λD0 j1 k0 k1=>?_;have k0:D0.get mm.n=.cells (jo p q) 143 none:=k0;have d0:Ext mm D0:=⟨by omega,by grind⟩
 have⟨P0,a1,b1,px,p3,p4⟩:=n0 d0 hp;have⟨c1,d1,e1,qx,q3,q4⟩:=n0 d0 hq;obtain rfl:pa=P0:=Option.some.inj (p1.symm.trans a1);obtain rfl:qa=c1:=Option.some.inj (q1.symm.trans d1);have E0:∀{m':M} {x y:Pl},m'.get mm.n=.cells (jo x y) 143 none->ah TE m' 143 (Ga mm.n 0)=some (.agg (jo x y).toArray):=λh=>by rw[mW,aQ (n:=4) h (by show 0+4<=4;decide)];rfl
 rw[ae,p3,ae,p4,ae,ae,q3,ae,q4,ae,bP,ae,aj];obtain⟨f0, -, -, -,f4,f5⟩:=kz (d0.cells (H.cells g1));refine an (λc=>?_) (λc=>?_);·have c:q.x<p.x:=NT c;rw[ae,e1,ae,ae,b1,ae,lL,ae];refine aC oZ k0 rfl rfl rfl λu0 l1 m0 F0=>?_;have m0:u0.get mm.n=.cells (jo q p) 143 none:=m0;obtain⟨f0, -, -, -,f4,f5⟩:=kz (show u0.get m.n=.cells (a.c va) 60 none by rw[F0 _ (by omega)];exact d0.cells (H.cells g1));rw[f0,ae,E0 m0,ae,f4,ae,f5,ae,tD,ae];refine my (show u0.get m1.n=.cells Ct.zc 145 none by grind) rfl λm' hn=>?_;rw[p0,Tf c];exact⟨rfl,by omega⟩
 have c:¬q.x<p.x:=Ja c;rw[f0,ae,E0 k0,ae,f4,ae,f5,ae,tD,ae];refine my (d0.cells A0) rfl λm' hn=>?_;rw[p0,QL c];exact⟨rfl,by omega⟩
def ug(us:List Un)(i:Nat):List Ct:=match us[i]? with
 |some u=>(eI u).toList++(us.drop (i+1)).filterMap (eh u)
 |none=> []
def ke(us:List Un)(i:Nat):List Ct:=(List.range i).flatMap (ug us)
def uf(us:List Un):List Ct:=if fL us=true then ke us us.length else []
theorem nA(us:List Un)(i:Nat):ke us (i+1)=ke us i++ug us i:=by unfold ke;rw[Gm,rJ];simp
theorem Fq(us:List Un)(i:Nat):(ug us i).length<=us.length+1:=by
 unfold ug;grind
theorem pk(us:List Un):∀i,(ke us i).length<=i*(us.length+1)
 |0=>by simp[ke]
 |i+1=>by
  rw[nA,NN,Nat.succ_mul];have:=pk us i;have:=Fq us i;omega
theorem Nk{α:Type}[aW α]{l:List α}{r:Φ}{m':M}{lo:Nat}{Q:Prop}(hQ:Q)(h:Ow m.n m' l r)(H:m.n<=lo)(hx:Ext m m'):
  (bA (bh [r])/\m.n<=lo/\(Q/\Ext m m/\Ow m.n m l r))\/((bA (bh [r])=false\/lo<m.n)/\(min m.n lo=m.n/\Ext m m'/\Ow m.n m' l r)):=by
 by_cases hl:l=[]
 ·subst hl;rcases h with⟨rfl,_⟩|⟨b,cs,h1,h⟩;·exact .inl ⟨rfl,H,hQ,.refl,Ow.nil⟩
  ·grind
 obtain⟨b,rfl,_⟩:=mS h hl;exact .inr ⟨.inl rfl,by omega,hx,h⟩
theorem adx(hX:cd X){l:List UW}{v:Φ}(h:cP m l v)(hlen:l.length<1000000):
  ∃r m',C X (.func 69) [.agg #[v]] m m.n r m'/\Ext m m'/\Ow m.n m' (uf (bM l)) r:=by
 refine Cl.kI hX (Kg func69) ?_;rw[F69];dsimp only[δ,ε,ζ,η,ι,κ,ν,ξ,ο,ρ,ς,υ,χ,ψ,Γ,ω];refine aw λm1 y1 k0 L0=>?_;have k0:m1.get m.n=.cells [v] 30 none:=k0;have z0:Ext m m1:=⟨by omega,L0⟩
 have v0:=h.aE z0;unfold ptrTo;simp only[bJ,ae];rw[show ah TE m1 30 (Ga m.n 0)=some (.agg #[v]) by rw[eo,aQ k0 (by simp)];rfl,ae];refine aG (kU hX v0 hlen) ?_;rw[bk,ae,aj];refine an (λc=>?_) (λc=>?_);·rw[Jd]at c;refine Nk (m':=m1) (by grind) ?_ (by omega) z0;unfold uf;rw[QL (by grind)];exact Ow.nil
 rw[Q0]at c;have hP:=nd.1 c;have l1:l.length<=12:=by have:=hP.len;rwa[cx]at this
 have N0:(bM l).length=l.length:=cx;have A0:∀{m':M},m'.get m.n=.cells [v] 30 none->ah TE m' 28 (Ga m.n (0+0))=some v:=λh=>by rw[dT,aI h];rfl
 refine Lp.intro (γ:=Nat) (λi=>l.length-i) (λi vs mm lo=>∃r,vs=[r,YR i]/\i<=l.length/\Ext m1 mm/\m.n<=lo/\Ow m1.n mm (ke (bM l) i) r) 0 ⟨_,rfl,ZE _,.refl,by omega,Ow.nil⟩ ?_;rintro i vs mm lo ⟨r,rfl,hi,l0,A1,ho⟩;have nm:=l0.n;have hF:=v0.aE l0;rw[aB,aB,A0 (l0.cells k0),ae,hF.sl.len dc,az,aM,ae,aj];refine an (λB0=>?_) (λO0=>?_)
 ·have B0:i<l.length:=by grind
  obtain⟨x,hx⟩:∃x,l[i]?=some x:=⟨_,Fx B0⟩
  have e0:=LZ hx;have P0:=fP hx;have B1:=pk (bM l) i;have yJ:i*((bM l).length+1)<=12*13:=JV (by omega) (by omega);have⟨q,q1,q2,ow⟩:=hF.sl.eY (k:=.i64) hx;rw[ae,q1,ae,q2,ae];refine aG (adG hX (hF.sh x e0) (hF.ln x e0)) ?_;rw[aH,aH];simp only[zi,F9,ae];refine aw λC1 o1 C0 u1=>?_;refine aC oY C0 (by rw[aT];exact eQ _) (by rw[aT];exact eQ _) (by rw[aT];exact nP _) λD0 v1 i0 w1=>?_;rw[aT]at i0;have i0:D0.get mm.n=.cells (CN (eI x.u)) 145 none:=i0;have y0:Ext mm D0:=⟨by omega,by grind⟩
  have E0:=ho.aE y0;have m0:=l0.trans y0;have c1:ug (bM l) i=(eI x.u).toList++((bM l).drop (i+1)).filterMap (eh x.u):=by unfold ug;rw[P0]
  rw[aj];cases hs:eI x.u with
  |some t=>
   show gH true _ _;rw[hs]at i0;rw[bH,BR i0,ae];refine fq (x:=t) GJ rfl E0 (by omega) (by omega) FE (λ_=>rfl) λr1 a1 w2 n2 k2 F0 l2=>?_;rw[aP,ae,wrap64];have G0:Ext m1 a1:=⟨by omega,λc hc=>by rw[k2 c hc,m0.get c hc]⟩
   refine Lp.intro (γ:=Nat) (λd=>l.length-d) (λd vs mm lo=>∃r,vs=[r,YR ((i+1+d:Nat):Int)]/\i+1+d<=l.length/\Ext m1 mm/\m.n<=lo/\Ow m1.n mm (ke (bM l) i++((eI x.u).toList++(((bM l).drop (i+1)).take d).filterMap (eh x.u))) r) 0 ⟨r1,rfl,by omega,G0,by omega,by grind⟩ ?_;rintro d vs n0 fO ⟨r,rfl,hd,H,o0,g0⟩;have b1:=H.n;have b0:=v0.aE H;rw[aB,aB,A0 (H.cells k0),ae,b0.sl.len dc,az,aM,ae,aj];refine an (λj0=>?_) (λp0=>?_)
   ·have j0:i+1+d<l.length:=by grind
    obtain⟨y,hy⟩:∃y,l[i+1+d]?=some y:=⟨_,Fx j0⟩
    have q0:=LZ hy;have⟨p,p1,p2,pw⟩:=b0.sl.eY (k:=.i64) hx;have⟨z,z1,z2,zw⟩:=b0.sl.eY (k:=.i64) hy;have r0:((bM l).drop (i+1)).take (d+1)=((bM l).drop (i+1)).take d++ [y.u]:=by rw[Q1,Kb,fP hy];rfl
    have d1:=WR (eh x.u) (((bM l).drop (i+1)).take d);have e1:(((bM l).drop (i+1)).take d).length<=d:=by grind
    have g1:(eI x.u).toList.length<=1:=by grind
    rw[ae,p1,ae,p2,ae,ae,z1,ae,z2,ae];refine aG (qb hX (b0.sh x e0) (b0.sh y q0) (b0.ln x e0) (b0.ln y q0)) ⟨Ox _,?_⟩;rw[aH,aH];simp only[zi,F9,ae];refine aw λh1 H0 s0 I0=>?_;refine aC oY s0 (by rw[aT];exact eQ _) (by rw[aT];exact eQ _) (by rw[aT];exact nP _) λu0 J0 a0 K0=>?_;rw[aT]at a0;have a0:u0.get n0.n=.cells (CN (eh x.u y.u)) 145 none:=a0;have d0:Ext n0 u0:=⟨by omega,by grind⟩
    rw[aj];cases ht:eh x.u y.u with
    |none=>show gH false _ _;rw[aN,aP,ae,wrap64];refine⟨d+1,by omega,r,rfl,by omega,H.trans d0,by omega,?_⟩;rw[r0,Z1,ZQ,ht,Z7,Zu];exact g0.aE d0
    |some t=>show gH true _ _;rw[ht]at a0;rw[bH,BR a0,ae];refine fq (x:=t) GJ rfl (g0.aE d0) (by omega) (by grind) FE (λ_=>rfl) λr' i1 w2 n2 k2 F0 l2=>?_;rw[aP,ae,wrap64];refine⟨d+1,by omega,r',rfl,by omega,⟨by omega,λc hc=>by rw[k2 c hc,d0.get c (by omega),H.get c hc]⟩,by omega,?_⟩;rw[r0,Z1,ZQ,ht,Z7];rw[<-WO,<-WO];rw[<-WO]at w2;exact w2
   have j1:i+1+d=l.length:=by have:¬((i+1+d:Nat):Int)< (l.length:Int):=Ja p0;omega
   rw[ae];refine⟨i+1,by omega,r,rfl,by omega,H,o0,?_⟩;rw[nA,c1];rw[QM (by grind)]at g0;exact g0
  |none=>
   show gH false _ _;rw[aN,aP,ae,wrap64];refine Lp.intro (γ:=Nat) (λd=>l.length-d) (λd vs mm lo=>∃r,vs=[r,YR ((i+1+d:Nat):Int)]/\i+1+d<=l.length/\Ext m1 mm/\m.n<=lo/\Ow m1.n mm (ke (bM l) i++((eI x.u).toList++(((bM l).drop (i+1)).take d).filterMap (eh x.u))) r) 0 ⟨r,rfl,by omega,m0,by omega,by grind⟩ ?_;rintro d vs n0 fO ⟨r,rfl,hd,H,o0,g0⟩;have b1:=H.n;have b0:=v0.aE H;rw[aB,aB,A0 (H.cells k0),ae,b0.sl.len dc,az,aM,ae,aj];refine an (λj0=>?_) (λp0=>?_)
   ·have j0:i+1+d<l.length:=by grind
    obtain⟨y,hy⟩:∃y,l[i+1+d]?=some y:=⟨_,Fx j0⟩
    have q0:=LZ hy;have⟨p,p1,p2,pw⟩:=b0.sl.eY (k:=.i64) hx;have⟨z,z1,z2,zw⟩:=b0.sl.eY (k:=.i64) hy;have r0:((bM l).drop (i+1)).take (d+1)=((bM l).drop (i+1)).take d++ [y.u]:=by rw[Q1,Kb,fP hy];rfl
    have d1:=WR (eh x.u) (((bM l).drop (i+1)).take d);have e1:(((bM l).drop (i+1)).take d).length<=d:=by grind
    have g1:(eI x.u).toList.length<=1:=by grind
    rw[ae,p1,ae,p2,ae,ae,z1,ae,z2,ae];refine aG (qb hX (b0.sh x e0) (b0.sh y q0) (b0.ln x e0) (b0.ln y q0)) ⟨Ox _,?_⟩;rw[aH,aH];simp only[zi,F9,ae];refine aw λh1 H0 s0 I0=>?_;refine aC oY s0 (by rw[aT];exact eQ _) (by rw[aT];exact eQ _) (by rw[aT];exact nP _) λu0 J0 a0 K0=>?_;rw[aT]at a0;have a0:u0.get n0.n=.cells (CN (eh x.u y.u)) 145 none:=a0;have d0:Ext n0 u0:=⟨by omega,by grind⟩
    rw[aj];cases ht:eh x.u y.u with
    |none=>show gH false _ _;rw[aN,aP,ae,wrap64];refine⟨d+1,by omega,r,rfl,by omega,H.trans d0,by omega,?_⟩;rw[r0,Z1,ZQ,ht,Z7,Zu];exact g0.aE d0
    |some t=>show gH true _ _;rw[ht]at a0;rw[bH,BR a0,ae];refine fq (x:=t) GJ rfl (g0.aE d0) (by omega) (by grind) FE (λ_=>rfl) λr' i1 w2 n2 k2 F0 l2=>?_;rw[aP,ae,wrap64];refine⟨d+1,by omega,r',rfl,by omega,⟨by omega,λc hc=>by rw[k2 c hc,d0.get c (by omega),H.get c hc]⟩,by omega,?_⟩;rw[r0,Z1,ZQ,ht,Z7];rw[<-WO,<-WO];rw[<-WO]at w2;exact w2
   have j1:i+1+d=l.length:=by have:¬((i+1+d:Nat):Int)< (l.length:Int):=Ja p0;omega
   rw[ae];refine⟨i+1,by omega,r,rfl,by omega,H,o0,?_⟩;rw[nA,c1];rw[QM (by grind)]at g0;exact g0
 have k1:i=l.length:=by have:¬(i:Int)< (l.length:Int):=Ja O0;omega
 subst k1;refine Nk (m':=mm) (by grind) ?_ (by omega) (z0.trans l0);unfold uf;rw[Tf c,N0];exact ho.mono (by omega)
end
def Cb{α:Type}(f:α->Int)(l:List α)(x:α):List α:=(l.filter λy=>decide (f y < f x))++x::(l.filter λy=>decide (f x < f y))
theorem uK{α:Type}(f:α->Int)(x:α):∀{l:List α},(∀y∈l,f y≠f x)->(Cb f l x).Perm (x::l)
 |[],_=>List.Perm.refl _
 |a::r,h=>by
  have h0:=h a zN;have H:=uK f x (l:=r) λy hy=>h y (W6 _ hy);unfold Cb at H⊢;rw[Lm,Lm];by_cases e:f a<f x
  ·rw[Tf (by grind),QL (by grind),Jv];exact(H.cons a).trans (List.Perm.swap x a r)
  ·rw[QL (by grind),Tf (by grind)];have:=(List.perm_middle (a:=a) (l₁:=(r.filter λy=>decide (f y<f x))++ [x]) (l₂:=r.filter λy=>decide (f x<f y)))
   simp only[WO,Jv,Zi]at this;exact this.trans ((H.cons a).trans (List.Perm.swap x a r))
theorem Of{α:Type}{f:α->Int}{x:α}{l:List α}(h:l.Pairwise λa b=>f a<f b):(Cb f l x).Pairwise λa b=>f a<f b:=by
 unfold Cb;rw[Y7,Zv];refine⟨h.filter _,⟨by grind,h.filter _⟩,λa H b hb=>?_⟩;grind
structure Tk where
 kind:Int
 un:Un
 id:Int
 other:Int
 side:Int
 du:Int
structure Kp where
 un:Un
 ms:List Mk
structure Mo where
 a:Int
 b:Int
 du:Int
structure Yd where
 us:List Un
 ms:List Mk
 st:List Kp
 rc:List Fc
 mo:List Mo
def dB(t:Tk):Bool:=
 if t.kind=1 then jD t.un && cR t.un.kind 6 8 && decide (t.id=0) && decide (t.other=0) && decide (t.side=0) && decide (t.du=0)
 else if t.kind=2\/t.kind=3\/t.kind=6\/t.kind=7 then eN t.un && decide (t.un.id=0) && cR t.id 0 99 && decide (t.other=0) && decide (t.side=0) && decide (t.du=0)
 else if t.kind=4 then eN t.un && decide (t.un.id=0) && cR t.id 0 99 && decide (t.other=0) && decide (t.side=0) && cR t.du 0 7
 else if t.kind=5\/t.kind=8 then eN t.un && decide (t.un.id=0) && cR t.id 0 99 && decide (t.other=0) && cR t.side (-2) 7 && decide (t.du=0)
 else if t.kind=9 then eN t.un && decide (t.un.id=0) && cR t.id 0 99 && cR t.other 0 99 && decide (t.side=0) && cR t.du 0 7 && decide (t.id < t.other)
 else false
def gZ(a b:Fc):Prop:=a.un < b.un\/a.un=b.un/\a.side < b.side
def lP(a b:Mo):Prop:=a.a < b.a\/a.a=b.a/\a.b < b.b
instance (a b:Fc):Decidable (gZ a b):=by unfold gZ;infer_instance
instance (a b:Mo):Decidable (lP a b):=by unfold lP;infer_instance
def allM(ms:List Mk)(st:List Kp):List Mk:=ms++st.flatMap Kp.ms
structure qG(y:Yd):Prop where
 qE:cq y.us
 BN:il y.us y.ms
 Qq:y.st.length<=12
 Ss:y.rc.length<=60
 SF:y.mo.length<=20
 tP:y.st.Pairwise λa b=>a.un.id < b.un.id
 off:∀k∈y.st,∀u∈y.us,u.id≠k.un.id
 NY:∀k∈y.st,cq [k.un]
 FO:∀k∈y.st,il [k.un] k.ms
 Y8:((allM y.ms y.st).map Mk.id).Nodup
 Jf:(allM y.ms y.st).length<=20
 M5:∀f∈y.rc,(0<=f.un/\f.un<=99)/\ -2<=f.side/\f.side<=7
 Dq:y.rc.Pairwise gZ
 NH:∀x∈y.mo,0<=x.a/\x.a < x.b/\x.b<=99/\0<=x.du/\x.du<=7
 DJ:y.mo.Pairwise lP
def Ac.bare(k:Int):Ac:=⟨k,⟨0,0,0,[],0,0⟩,0,0,0,⟨0,0,0,0,false⟩⟩
def fI(u:Un):Ac:={Ac.bare 1 with un:=u}
def lQ(k id:Int):Ac:={Ac.bare k with id:=id}
def jY(x:Mk):Ac:={Ac.bare 5 with zB:=x}
def yT(us:List Un)(id side:Int):Bool:=match ck us id with
 |some u=>decide (side= -1) ||decide (side= -2) ||decide (0<=side) && decide (side < (u.shape.length:Int))
 |none=>false
def rN(t:Tk)(x:Mk):Bool:=decide (x.un=t.id) && decide (x.side=t.side) && x.Hq && (decide (x.kind=1) ||decide (x.kind=4) ||decide (x.kind=5))
def jA(iI:Un->Un->Bool)(suits softer:Int->Int->Bool)(y:Yd)(t:Tk):Option (List Ac):=
 if t.kind=1 then(if(y.st.any λk=>decide (k.un.id=t.un.id))=true then none else some [fI t.un])
 else if t.kind=2 then(if((ck y.us t.id).isSome && decide (y.st.length < 12))=true then some [lQ 2 t.id]else none)
 else if t.kind=3 then(y.st.find? λk=>decide (k.un.id=t.id)).map λk=>fI k.un::k.ms.map jY
 else if t.kind=4 then(ck y.us t.id).bind λu=>if(y.us.all λv=> !iI u v ||suits t.du v.du)=true then some [lQ 2 t.id,fI {u with du:=t.du}]else none
 else if t.kind=5 then(if yT y.us t.id t.side=true then some ((y.ms.filter (rN t)).map λx=>lQ 6 x.id)else none)
 else if t.kind=6 then some [lQ 7 t.id]
 else if t.kind=7 then some [lQ 6 t.id]
 else if t.kind=8 then(if(yT y.us t.id t.side && (decide (y.rc.length < 60) ||decide ((⟨t.id,t.side⟩:Fc)∈y.rc)))=true then some []else none)
 else(ck y.us t.id).bind λu=>(ck y.us t.other).bind λv=>if(iI u v && softer t.du u.du && softer t.du v.du && (decide (y.mo.length < 20) ||y.mo.any λx=>decide (x.a=t.id) && decide (x.b=t.other)))=true then some []else none
def gA:List Un->List Mk->List Ac->Option (List Un×List Mk)
 |us,ms,[]=>some (us,ms)
 |us,ms,a::r=>match sg us ms a with
  |some (H,ns)=>gA H ns r
  |none=>none
def Fe(y:Yd)(t:Tk):List Kp:=
 if t.kind=2 then(match ck y.us t.id with |some u=>Cb (λk:Kp=>k.un.id) y.st ⟨u,y.ms.filter λx=>decide (x.un=t.id)⟩ |none=>y.st)
 else if t.kind=3 then y.st.filter λk=> !decide (k.un.id=t.id)else y.st
def Fs(y:Yd)(t:Tk):List Fc:=if t.kind=8/\(⟨t.id,t.side⟩:Fc)∉y.rc then(y.rc.filter λf=>decide (gZ f ⟨t.id,t.side⟩))++⟨t.id,t.side⟩::(y.rc.filter λf=>decide (gZ ⟨t.id,t.side⟩ f))else y.rc
def QV(y:Yd)(t:Tk):List Mo:=if t.kind=9 then(y.mo.filter λx=>decide (lP x ⟨t.id,t.other,t.du⟩))++⟨t.id,t.other,t.du⟩::(y.mo.filter λx=>decide (lP ⟨t.id,t.other,t.du⟩ x))else y.mo
def Hc(iI:Un->Un->Bool)(suits softer:Int->Int->Bool)(y:Yd)(t:Tk):Option Yd:=
 match jA iI suits softer y t with
 |none=>none
 |some l=>(gA y.us y.ms l).map λp=>⟨p.1,p.2,Fe y t,Fs y t,QV y t⟩
theorem kA{us vs:List Un}{ms ns:List Mk}{a:Ac}(h:sg us ms a=some (vs,ns)):cq us/\il us ms/\ez a/\oT us ms a=some (vs,ns)/\cq vs/\il vs ns:=by
 unfold sg Hd at h;split at h
 ·rename_i H;rw[JJ]at H;split at h
  ·rename_i hf;split at h
   ·rename_i a0 b0 hd;split at h;·rename_i hm;cases h;exact⟨nd.1 H.1,fV.1 H.2,hf,hd,Ic (nd.1 H.1) hd,fV.1 hm⟩
    cases h
   cases h
  cases h
 cases h
theorem Hj{us vs:List Un}{ms H:List Mk}{l:List Ac}(hf:cq us)(hm:il us ms)(h:gA us ms l=some (vs,H)):cq vs/\il vs H:=by
 induction l generalizing us ms with
 |nil=>cases h;exact⟨hf,hm⟩
 |cons a r ih=>
  rw[gA]at h;split at h
  ·rename_i a0 b0 hs;obtain⟨-, -, -, -,h1,h2⟩:=kA hs;grind
  cases h
theorem zb{us vs:List Un}{ms H:List Mk}{u:Un}(h:oT us ms (fI u)=some (vs,H)):GM us u/\vs=uh us u/\H=ms:=by
 unfold oT at h;have hk:(fI u).kind=1:=rfl;rw[Tf hk]at h;have h:(qF us u).map (·,ms)=some (vs,H):=h
 unfold qF at h;grind
theorem AR{us vs:List Un}{ms H:List Mk}{id:Int}(h:oT us ms (lQ 2 id)=some (vs,H)):(ck us id).isSome/\vs=uV us id/\H=gh ms id:=by
 unfold oT at h;have hk:(lQ 2 id).kind=2:=rfl;rw[QL (by rw[hk];decide),Tf hk]at h;split at h;·rename_i ha;cases h;exact⟨ha,rfl,rfl⟩
 cases h
theorem RP{us vs:List Un}{ms H:List Mk}{x:Mk}(h:oT us ms (jY x)=some (vs,H)):(ms.any λy=>decide (y.id=x.id))=false/\vs=us/\H=mY ms x:=by
 unfold oT at h;have hk:(jY x).kind=5:=rfl;rw[QL (by rw[hk];decide),QL (by rw[hk];decide),QL (by rw[hk];decide),QL (by rw[hk];decide),Tf hk]at h;split at h;·cases h
 ·rename_i ha;cases h;exact⟨Bool.eq_false_iff.2 ha,rfl,rfl⟩
theorem acr{ms H:List Mk}{id:Int}{o:Bool}(h:mH ms id o=some H):H.map Mk.id=ms.map Mk.id:=by
 unfold mH at h;split at h
 ·rename_i k hk;split at h
  ·rename_i y hy;split at h;·cases h
   ·cases h;rw[List.map_set];apply OG;grind
  cases h
 cases h
theorem Cn{us vs:List Un}{ms ns:List Mk}{k id:Int}(hk:k=6\/k=7)(h:oT us ms (lQ k id)=some (vs,ns)):vs=us/\ns.map Mk.id=ms.map Mk.id:=by
 unfold oT at h;have H:(lQ k id).kind=k:=rfl;rw[H,im,im,im,im,im]at h;cases ht:mH ms (lQ k id).id (decide (k=7))with
 |none=>rw[ht]at h;cases h
 |some l=>rw[ht]at h;cases h;exact⟨rfl,acr ht⟩
theorem Ai{us:List Un}:∀{l:List Mk} {ms H:List Mk} {vs:List Un},gA us ms (l.map λx=>lQ 6 x.id)=some (vs,H)->vs=us/\H.map Mk.id=ms.map Mk.id
 |[],ms,H,vs,h=>by cases h;exact⟨rfl,rfl⟩
 |x::r,ms,H,vs,h=>by
  rw[Kt,gA]at h;split at h
  ·rename_i a0 b0 hs;obtain⟨-, -, -,hd, -, -⟩:=kA hs;obtain⟨rfl,e⟩:=Cn (.inl rfl) hd;have⟨e1,e2⟩:=Ai h;grind
  ·cases h
theorem JR{ms:List Mk}{x:Mk}(h:(ms.any λy=>decide (y.id=x.id))=false):(mY ms x).Perm (x::ms):=by
 refine uK Mk.id x λy H e=>?_;grind
theorem Aj{us:List Un}:∀{l:List Mk} {ms H:List Mk} {vs:List Un},gA us ms (l.map jY)=some (vs,H)->vs=us/\H.Perm (l++ms)
 |[],ms,H,vs,h=>by cases h;exact⟨rfl,List.Perm.refl _⟩
 |x::r,ms,H,vs,h=>by
  rw[Kt,gA]at h;split at h
  ·rename_i a0 b0 hs;obtain⟨-, -, -,hd, -, -⟩:=kA hs;obtain⟨e0,rfl,rfl⟩:=RP hd;have⟨e1,e2⟩:=Aj h;refine⟨e1,e2.trans (((JR e0).append_left r).trans ?_)⟩;grind
  ·cases h
theorem qG.next{y:Yd}(h:qG y){vs:List Un}{H:List Mk}{st:List Kp}{rc:List Fc}{mo:List Mo}(hf:cq vs)(hm:il vs H)(s1:st.length<=12)(s2:st.Pairwise λa b=>a.un.id<b.un.id)(s3:∀k∈st,∀u∈vs,u.id≠k.un.id)
  (s4:∀k∈st,cq [k.un]/\il [k.un] k.ms) (s5:∃w:List Int,w.Sublist ((allM y.ms y.st).map Mk.id)/\((allM H st).map Mk.id).Perm w)
  (r1:rc.length<=60) (r2:∀f∈rc,(0<=f.un/\f.un<=99)/\ -2<=f.side/\f.side<=7) (r3:rc.Pairwise gZ) (q1:mo.length<=20) (q2:∀x∈mo,0<=x.a/\x.a<x.b/\x.b<=99/\0<=x.du/\x.du<=7) (q3:mo.Pairwise lP):qG ⟨vs,H,st,rc,mo⟩:=by
 have⟨w,h1,h2⟩:=s5;refine⟨hf,hm,s1,r1,q1,s2,s3,λk hk=>(s4 k hk).1,λk hk=>(s4 k hk).2,?_,?_,r2,r3,q2,q3⟩;·exact h2.nodup_iff.2 (h1.nodup h.Y8)
 ·have e1:=h2.length_eq;have e2:=h1.length_le;have e3:=h.Jf;grind
theorem aeK(ms:List Mk)(id:Int):(gh ms id++ms.filter λx=>decide (x.un=id)).Perm ms:=by unfold gh;exact List.perm_append_comm.trans (List.filter_append_perm (λx:Mk=>decide (x.un=id)) ms)
theorem FR{l:List Fc}{x:Fc}(h:l.Pairwise gZ):((l.filter λf=>decide (gZ f x))++x::(l.filter λf=>decide (gZ x f))).Pairwise gZ:=by
 rw[Y7,Zv];refine⟨h.filter _,⟨λz hz=>by simpa using(RL.1 hz).2,h.filter _⟩,λa ha b H=>?_⟩;have ha:gZ a x:=by simpa using(RL.1 ha).2
 rcases RN.1 H with rfl|H;·exact ha
 have H:gZ x b:=by simpa using(RL.1 H).2
 unfold gZ at ha H⊢;omega
theorem FQ{l:List Mo}{x:Mo}(h:l.Pairwise lP):((l.filter λf=>decide (lP f x))++x::(l.filter λf=>decide (lP x f))).Pairwise lP:=by
 rw[Y7,Zv];refine⟨h.filter _,⟨λz hz=>by simpa using(RL.1 hz).2,h.filter _⟩,λa ha b H=>?_⟩;have ha:lP a x:=by simpa using(RL.1 ha).2
 rcases RN.1 H with rfl|H;·exact ha
 have H:lP x b:=by simpa using(RL.1 H).2
 unfold lP at ha H⊢;omega
theorem rW{α:Type}{p q:α->Bool}(h:∀x,p x->q x->False):∀l:List α,(l.filter p).length+(l.filter q).length<=l.length
 |[]=>by simp
 |a::r=>by
  have H:=rW h r;grind
theorem xH{α:Type}{p q:α->Bool}(h:∀x,p x->q x->False){a:α}:∀{l:List α},a∈l->p a=false->q a=false->(l.filter p).length+(l.filter q).length+1<=l.length
 |[],hm,_,_=>by cases hm
 |b::r,hm,H,hq=>by
  rw[Lm,Lm];rcases RN.1 hm with rfl|hm
  ·have:=rW h r;grind
  ·have ih:=xH h hm H hq;grind
section
variable {iI:Un->Un->Bool} {suits softer:Int->Int->Bool} {y:Yd} {t:Tk}
theorem wX{n lo hi:Int}:cR n lo hi↔lo<=n/\n<=hi:=by unfold cR;simp
theorem rG(h:dB t):1<=t.kind/\t.kind<=9:=by
 unfold dB at h;grind
theorem Rx(h:dB t)(hk:t.kind=8):(0<=t.id/\t.id<=99)/\ -2<=t.side/\t.side<=7:=by
 unfold dB at h;rw[im,im,im,WD]at h;simp only[JJ,wX]at h;grind
theorem Rw(h:dB t)(hk:t.kind=9):0<=t.id/\t.id<t.other/\t.other<=99/\0<=t.du/\t.du<=7:=by
 unfold dB at h;rw[im,im,im,im,Tf hk]at h;simp only[JJ,wX,EU]at h;grind
theorem ab7(H:qG y)(hf:dB t){l:List Ac}(ha:jA iI suits softer y t=some l):(Fs y t).length<=60/\(∀f∈Fs y t,(0<=f.un/\f.un<=99)/\ -2<=f.side/\f.side<=7)/\(Fs y t).Pairwise gZ:=by
 unfold Fs;by_cases e:t.kind=8/\(⟨t.id,t.side⟩:Fc)∉y.rc
 ·rw[Tf e];have hlen:y.rc.length<60:=by
   unfold jA at ha;grind
  have h2:=rW (p:=λf:Fc=>decide (gZ f ⟨t.id,t.side⟩)) (q:=λf:Fc=>decide (gZ ⟨t.id,t.side⟩ f)) (λx h1 h2=>by
   unfold gZ at h1 h2;grind) y.rc
  refine⟨by grind,λf hm=>?_,FR H.Dq⟩;rw[OH,RN,RL,RL]at hm;rcases hm with hm|rfl|hm;·exact H.M5 f hm.1
  ·exact Rx hf e.1
  exact H.M5 f hm.1
 rw[QL e];exact⟨H.Ss,H.M5,H.Dq⟩
theorem adQ(hy:qG y)(hf:dB t){l:List Ac}(H:jA iI suits softer y t=some l):(QV y t).length<=20/\(∀x∈QV y t,0<=x.a/\x.a<x.b/\x.b<=99/\0<=x.du/\x.du<=7)/\(QV y t).Pairwise lP:=by
 unfold QV;by_cases e:t.kind=9
 ·rw[Tf e];have hex:∀x:Mo,decide (lP x ⟨t.id,t.other,t.du⟩)->decide (lP ⟨t.id,t.other,t.du⟩ x)->False:=λx h1 h2=>by
   unfold lP at h1 h2;grind
  have hlen:(y.mo.filter λx=>decide (lP x ⟨t.id,t.other,t.du⟩)).length+(y.mo.filter λx=>decide (lP ⟨t.id,t.other,t.du⟩ x)).length+1<=20:=by
   unfold jA at H;rw[im,im,im,im,im,im,im,im]at H;have⟨u,hu,H⟩:=Me.1 H;have⟨v,hv,H⟩:=Me.1 H;split at H
   ·rename_i hc;simp only[JJ,Qf,EU]at hc;rcases hc.2 with h|h;·have:=rW hex y.mo;omega
    have⟨x,hx,a0⟩:=JL.1 h;rw[JJ,EU,EU]at a0;have:=xH hex hx (by rw[Nd];unfold lP;simp only[];omega) (by rw[Nd];unfold lP;simp only[];omega);have:=hy.SF;omega
   cases H
  refine⟨by grind,λf hm=>?_,FQ hy.DJ⟩;rw[OH,RN,RL,RL]at hm;rcases hm with hm|rfl|hm;·exact hy.NH f hm.1
  ·exact Rw hf e
  exact hy.NH f hm.1
 rw[QL e];exact⟨hy.SF,hy.NH,hy.DJ⟩
theorem sx{us vs:List Un}{ms H:List Mk}{a:Ac}(h:gA us ms [a]=some (vs,H)):oT us ms a=some (vs,H):=by
 rw[gA]at h;split at h;·rename_i hs;cases h;exact(kA hs).2.2.2.1
 cases h
theorem adO{u:Un}(h:jD u):cq [u]:=Cj (by simp) (by grind) (by simp) (by simp)
structure Wv(y:Yd)(vs:List Un)(ns:List Mk)(st:List Kp):Prop where
 s1:st.length<=12
 s2:st.Pairwise λa b=>a.un.id < b.un.id
 s3:∀k∈st,∀u∈vs,u.id≠k.un.id
 s4:∀k∈st,cq [k.un]/\il [k.un] k.ms
 s5:∃w:List Int,w.Sublist ((allM y.ms y.st).map Mk.id)/\((allM ns st).map Mk.id).Perm w
theorem Wv.same(H:qG y){vs:List Un}{ns:List Mk}(h3:∀k∈y.st,∀u∈vs,u.id≠k.un.id)(h5:(ns.map Mk.id).Sublist (y.ms.map Mk.id)):Wv y vs ns y.st:=by
 refine⟨H.Qq,H.tP,h3,λk hk=>⟨H.NY k hk,H.FO k hk⟩,_,?_,List.Perm.refl _⟩;unfold allM;grind
theorem MA(hy:qG y)(hf:dB t){l:List Ac}(H:jA iI suits softer y t=some l){vs:List Un}{ns:List Mk}(hr:gA y.us y.ms l=some (vs,ns)):Wv y vs ns (Fe y t):=by
 unfold jA at H;unfold Fe;by_cases k1:t.kind=1
 ·rw[Tf k1]at H;rw[im,im];split at H;·cases H
  rename_i hn;cases H;obtain⟨e1,rfl,rfl⟩:=zb (sx hr);refine .same hy (λk hk u hu=>?_) (List.Sublist.refl _);rcases sC hu with rfl|hu;·grind
  exact hy.off k hk u hu
 rw[QL k1]at H;by_cases k2:t.kind=2
 ·rw[Tf k2]at H⊢;split at H
  ·rename_i hc;cases H;rw[JJ,EU]at hc;obtain⟨-,rfl,rfl⟩:=AR (sx hr);have⟨u,hu⟩:=RZ.1 hc.1;have⟨b0,i0⟩:=fX hu;rw[hu];have j0:∀k∈y.st,k.un.id≠(⟨u,y.ms.filter λx=>decide (x.un=t.id)⟩:Kp).un.id:=λk hk=>λe=>hy.off k hk u b0 e.symm;have hp:=uK (λk:Kp=>k.un.id) ⟨u,y.ms.filter λx=>decide (x.un=t.id)⟩ j0;refine⟨?_,Of hy.tP,λk hk v hv=>?_,λk hk=>?_,_,List.Sublist.refl _,?_⟩
   ·have:=hp.length_eq;grind
   ·have hv:=RL.1 hv;rcases RN.1 (hp.mem_iff.1 hk)with rfl|hk;·grind
    exact hy.off k hk v hv.1
   ·rcases RN.1 (hp.mem_iff.1 hk)with rfl|hk
    ·refine⟨adO (hy.qE.val u b0),?_⟩;have a0:(y.ms.filter λx=>decide (x.un=t.id)).Sublist y.ms:=Z6;refine⟨YB a0.length_le hy.BN.len,hy.BN.tP.filter _,λx hx=>hy.BN.ok x (a0.mem hx),λx hx=>?_⟩;have⟨v,hv,h1,h2⟩:=hy.BN.un x (a0.mem hx);have⟨i,hi⟩:=ZZ hv;have o0:=pE hy.qE hi;grind
    exact⟨hy.NY k hk,hy.FO k hk⟩
   refine List.Perm.map _ ?_;unfold allM;have h1:((Cb (λk:Kp=>k.un.id) y.st ⟨u,y.ms.filter λx=>decide (x.un=t.id)⟩).flatMap Kp.ms).Perm ((y.ms.filter λx=>decide (x.un=t.id))++y.st.flatMap Kp.ms):=by
    grind
   refine(h1.append_left _).trans ?_;rw[<-WO];exact(aeK y.ms t.id).append_right _
  cases H
 rw[QL k2]at H⊢;by_cases k3:t.kind=3
 ·rw[Tf k3]at H⊢;obtain⟨k,k0,rfl⟩:=Tq.1 H;have l0:=ZT k0;rw[gA]at hr;split at hr
  ·rename_i m0 n0 hs;obtain⟨e1,rfl,rfl⟩:=zb (kA hs).2.2.2.1;obtain⟨rfl,hp⟩:=Aj hr;obtain⟨p,q,e0⟩:=List.append_of_mem l0;have d0:=hy.tP;rw[e0]at d0;rw[Y7,Zv]at d0;have g0:(y.st.filter λk=> !decide (k.un.id=t.id))=p++q:=by
    rw[e0,WN,Lm,QL (by grind)];rw[QJ.2 λz hz=>?_,QJ.2 λz hz=>?_];·grind
    ·grind
   rw[g0];have a0:(p++q).Sublist y.st:=by grind
   refine⟨YB a0.length_le hy.Qq,hy.tP.sublist a0,λj hj v hv=>?_,λj hj=>⟨hy.NY j (a0.mem hj),hy.FO j (a0.mem hj)⟩,_,List.Sublist.refl _,?_⟩
   ·rcases sC hv with rfl|hv;·grind
    exact hy.off j (a0.mem hj) v hv
   ·refine List.Perm.map _ ?_;unfold allM;grind
  cases hr
 rw[QL k3]at H⊢;by_cases k4:t.kind=4
 ·rw[Tf k4]at H;have⟨u,hu,H⟩:=Me.1 H;have⟨b0,i0⟩:=fX hu;split at H
  ·cases H;rw[gA]at hr;split at hr
   ·rename_i m0 n0 hs;obtain⟨-,rfl,rfl⟩:=AR (kA hs).2.2.2.1;obtain⟨-,rfl,rfl⟩:=zb (sx hr);refine .same hy (λk hk v hv=>?_) (List.Sublist.map _ (by unfold gh;exact Z6));rcases sC hv with rfl|hv;·exact hy.off k hk u b0
    exact hy.off k hk v (RL.1 hv).1
   cases hr
  cases H
 rw[QL k4]at H;by_cases k5:t.kind=5
 ·rw[Tf k5]at H;split at H;·cases H;obtain⟨rfl,e⟩:=Ai hr;exact .same hy hy.off (by grind)
  cases H
 rw[QL k5]at H;by_cases k6:t.kind=6;·rw[Tf k6]at H;cases H;obtain⟨rfl,e⟩:=Cn (.inr rfl) (sx hr);exact .same hy hy.off (by grind)
 rw[QL k6]at H;by_cases k7:t.kind=7;·rw[Tf k7]at H;cases H;obtain⟨rfl,e⟩:=Cn (.inl rfl) (sx hr);exact .same hy hy.off (by grind)
 rw[QL k7]at H;have hl:l=[]:=by
  by_cases k8:t.kind=8;·grind
  ·rw[QL k8]at H;have⟨u,hu,H⟩:=Me.1 H;have⟨v,hv,H⟩:=Me.1 H;grind
 subst hl;cases hr;exact .same hy hy.off (List.Sublist.refl _)
theorem Dc(H:qG y)(hf:dB t){y':Yd}(h:Hc iI suits softer y t=some y'):qG y':=by
 unfold Hc at h;split at h;·cases h
 rename_i l ha;obtain⟨⟨vs,ns⟩,hr,rfl⟩:=Tq.1 h;have⟨f,g⟩:=Hj H.qE H.BN hr;have s:=MA H hf ha hr;have r:=ab7 H hf ha;have q:=adQ H hf ha;exact H.next f g s.s1 s.s2 s.s3 s.s4 s.s5 r.1 r.2.1 r.2.2 q.1 q.2.1 q.2.2
end
section
variable {X:aK} {m:M}
abbrev Tk.c(t:Tk)(w:Φ):Bt:=[.int .i64 t.kind,.int .i64 t.un.id,.int .i64 t.un.kind,.int .i64 t.un.du,w,.int .i64 t.un.back,.int .i64 t.un.front,.int .i64 t.id,.int .i64 t.other,.int .i64 t.side,.int .i64 t.du]
abbrev Tk.v(t:Tk)(w:Φ):Φ:=.agg (t.c w).toArray
theorem Tk.cH{t:Tk}{w:Φ}(h:one w):(t.c w).all one:=by show(true && (true && (true && (true && (one w && true)))))=true;rw[h];rfl
structure TW where
 t:Tk
 w:Φ
abbrev TW.c(x:TW):Bt:=x.t.c x.w
abbrev TW.v(x:TW):Φ:=x.t.v x.w
instance:aW TW where
 ty:=62
 sz:=11
 agg:=true
 cT:=[]
 rep _ x cs:=cs=x.c/\one x.w=true
 pos:=by decide
 one:=by grind
 len:=by simp_all
 dS:=by rintro _ x _ ⟨rfl,h⟩;exact Tk.cH h
 aV:=by grind
theorem cV:oU TE 39 62 TW:=⟨ag.t39,ag.t62,by kernel_rfl,⟨_,rfl⟩,rfl,by kernel_rfl,rfl,rfl⟩
theorem zr:qH TE 39 TW:=⟨ag.t39,ag.t62,by kernel_rfl,rfl,rfl,by kernel_rfl,by decide,rfl⟩
structure KW where
 u:Un
 w:Φ
 ms:List Mk
 mv:Φ
abbrev KW.c(x:KW):Bt:=[.int .i64 x.u.id,.int .i64 x.u.kind,.int .i64 x.u.du,x.w,.int .i64 x.u.back,.int .i64 x.u.front,x.mv]
abbrev KW.v(x:KW):Φ:=.agg (x.c).toArray
abbrev KW.k(x:KW):Kp:=⟨x.u,x.ms⟩
theorem KW.cH{x:KW}(h1:one x.w)(H:one x.mv):(x.c).all one:=by show(true && (true && (true && (one x.w && (true && (true && (one x.mv && true)))))))=true;rw[h1,H];rfl
instance:aW KW where
 ty:=113
 sz:=7
 agg:=true
 cT:=[]
 rep _ x cs:=cs=x.c/\one x.w=true/\one x.mv=true
 pos:=by decide
 one:=by grind
 len:=by simp_all
 dS:=by rintro _ x _ ⟨rfl,h1,h2⟩;exact KW.cH h1 h2
 aV:=by grind
theorem eM:oU TE 34 113 KW:=⟨ag.t34,ag.t113,by kernel_rfl,⟨_,rfl⟩,rfl,by kernel_rfl,rfl,rfl⟩
theorem CE:qH TE 34 KW:=⟨ag.t34,ag.t113,by kernel_rfl,rfl,rfl,by kernel_rfl,by decide,rfl⟩
abbrev Mo.c(x:Mo):Bt:=[.int .i64 x.a,.int .i64 x.b,.int .i64 x.du]
abbrev Mo.v(x:Mo):Φ:=.agg (x.c).toArray
instance:aW Mo where
 ty:=109
 sz:=3
 agg:=true
 cT:=[]
 rep _ x cs:=cs=x.c
 pos:=by decide
 one:=by grind
 len:=by grind
 dS:=by rintro _ _ _ rfl;rfl
 aV:=by grind
theorem jH:oU TE 36 109 Mo:=⟨ag.t36,ag.t109,by kernel_rfl,⟨_,rfl⟩,rfl,by kernel_rfl,rfl,rfl⟩
theorem PL:qH TE 36 Mo:=⟨ag.t36,ag.t109,by kernel_rfl,rfl,rfl,by kernel_rfl,by decide,rfl⟩
def tJ{α:Type}[aW α](m:M)(l:List α)(v:Φ):Prop:=(l=[]/\v=.slice none 0 0)\/SlC m l v
theorem tJ.aV{α:Type}[aW α]{l:List α}{v:Φ}{m':M}(h:tJ m l v)(hk:∀b c t g,m.get b=.cells c t g->t∈aW.ty α::aW.cT α->m'.get b=.cells c t g):tJ m' l v:=by
 rcases h with h|⟨h1,b,o,c,H,g,h2,h3,h4,h5⟩;·exact .inl h
 exact .inr ⟨h1.aV hk,b,o,c,H,g,h2,h3,hk _ _ _ _ h4 zN,h5⟩
theorem tJ.sl{α:Type}[aW α]{l:List α}{v:Φ}(h:tJ m l v):Sl m l v:=by
 rcases h with h|h;·exact .inl ⟨h.2,h.1⟩
 exact h.1
theorem _root_.Go.D.Ow.YU{α:Type}[aW α]{n1:Nat}{l:List α}{v:Φ}(h:Ow n1 m l v):tJ m l v:=by
 by_cases H:l=[]
 ·subst H;rcases h with⟨rfl,_⟩|⟨b,cs,_,h,_⟩;·exact .inl ⟨rfl,rfl⟩
  ·grind
 exact .inr (h.slc H)
theorem tJ.to{α:Type}[aW α]{T t:TypeId}(H:oU TE T t α){l:List α}{v:Φ}(h:tJ m l v)(h0:slice? TE m T YM none (some (YR (0:Nat))) none=some YM){i:Nat}(hi:i<=l.length):
  ∃v',slice? TE m T v none (some (YR i)) none=some v'/\Sl m (l.take i) v':=by
 rcases h with⟨rfl,rfl⟩|⟨h1,b,o,c,bc,g,rfl,h3,h4,h5⟩
 ·obtain rfl:i=0:=by grind
  exact⟨_,h0,.nil⟩
 have⟨ti,te,t1,⟨e,t2⟩,t3,_⟩:=H;refine⟨_,zZ t1 t2 (by rw[t3];exact aW.pos) h4 (by grind) h3 (by omega),?_⟩;have:=h1.part (i:=0) (k:=i) (c':=c) (by omega);rwa[QA,JE,PD]at this
theorem tJ.from{α:Type}[aW α]{T t:TypeId}(hT:oU TE T t α){l:List α}{v:Φ}(h:tJ m l v)(h0:slice? TE m T YM (some (YR (0:Nat))) none none=some YM){i:Nat}(hi:i<=l.length):
  ∃v',slice? TE m T v (some (YR i)) none none=some v'/\(Sl m (l.drop i) v'\/(l.drop i=[]/\∃H c',v'=.slice (some H) 0 c')):=by
 rcases h with⟨rfl,rfl⟩|⟨h1,b,o,c,bc,g,rfl,h3,h4,h5⟩
 ·obtain rfl:i=0:=by grind
  exact⟨_,h0,.inl .nil⟩
 have⟨ti,te,t1,⟨e,t2⟩,t3,_⟩:=hT;obtain⟨H,e1,e2⟩:=ph (E:=TE) (T:=T) t1 t2 (by rw[t3];exact aW.pos) h4 (by grind) h3 hi (o:=o);refine⟨_,e1,?_⟩;by_cases a0:i<l.length
 ·rw[e2 (by omega),t3];have:=h1.part (i:=i) (k:=l.length-i) (c':=c-i) (by omega);rw[QM (by grind)]at this;grind
 ·grind
theorem _root_.Go.D.Ow.vT{α:Type}[aW α]{T:TypeId}(hT:qH TE T α)(a0:aW.cT α=[]){n1:Nat}{l ys:List α}{v y:Φ}(h:Ow n1 m l v)(H:l≠ [])(hy:Sl m ys y\/(ys=[]/\∃a' c',y=.slice (some a') 0 c'))(hn:n1<=m.n)(hs:l.length+ys.length<=1000000):
  ∃v' m1,av TE (m.wl m.n) .append [T,T] [v,y]=some (v',m1)/\Ow n1 m1 (l++ys) v'/\m.n<=m1.n/\n1<=m1.low/\(∀c,c<n1->m1.get c=m.get c)/\((∃a n k,v=.slice (some a) n k/\∀c,c<m.n->c≠a.block->m1.get c=m.get c)):=by
 obtain⟨b,rfl,_⟩:=mS h H;rcases hy with hy|⟨rfl,a',c',rfl⟩;·obtain⟨v',m1,e1,ho,hf,hl,_⟩:=h.append hT (by grind) hy hn (by omega);obtain⟨ya,yc,rfl⟩:=hy.form;exact⟨v',m1,e1,ho,hf.n,hl,λc hc=>hf.get c hc,_,_,_,rfl,λc hc H=>fg e1 hc λad n k e=>by grind⟩
 refine⟨_,m.wl m.n,append_nil hT (Ox _) (by grind) (.inl ⟨_,_,rfl⟩),?_,Ox _,hn,λ_ _=>rfl,_,_,_,rfl,λ_ _ _=>rfl⟩;rw[Zu];exact h.aE Ext.refl.wl
structure EG(m:M)(l:List KW)(v:Φ):Prop where
 sl:Sl m l v
 cap:tJ m l v
 sh:∀x∈l,Sl m x.u.shape x.w
 mv:∀x∈l,Sl m x.ms x.mv
 ln:∀x∈l,x.u.shape.length < 1000000
 lm:∀x∈l,x.ms.length < 1000000
theorem EG.aV{l:List KW}{v:Φ}{m':M}(h:EG m l v)(hk:∀c cs t g,m.get c=.cells cs t g->(t=113\/t=141\/t=137)->m'.get c=.cells cs t g):EG m' l v:=
 ⟨h.sl.aV λc cs t g H ht=>hk c cs t g H (.inl (by simpa[aW.ty,aW.cT]using ht)),h.cap.aV λc cs t g H ht=>hk c cs t g H (.inl (by simpa[aW.ty,aW.cT]using ht)),λx hx=>(h.sh x hx).aV λc cs t g H ht=>hk c cs t g H (.inr (.inl (by simpa[aW.ty,aW.cT]using ht))),λx hx=>(h.mv x hx).aV λc cs t g H ht=>hk c cs t g H (.inr (.inr (by simpa[aW.ty,aW.cT]using ht))),h.ln,h.lm⟩
theorem EG.aE{l:List KW}{v:Φ}{m':M}(h:EG m l v)(H:Ext m m'):EG m' l v:=h.aV λ_ _ _ _ hc _=>H.cells hc
theorem EG.nil:EG m [] YM:=⟨.nil,.inl ⟨rfl,rfl⟩,λx H=>(by cases H),λx H=>(by cases H),λx H=>(by cases H),λx H=>(by cases H)⟩
abbrev EK(l:List KW):List Kp:=l.map KW.k
theorem qn{l:List KW}:(EK l).length=l.length:=Gv _
structure lR(m:M)(y:Yd)(r r2 st rc mo:Φ):Prop where
 qE:∃l,bM l=y.us/\cP m l r
 ms:Sl m y.ms r2
 st:∃k,EK k=y.st/\EG m k st
 rc:Sl m y.rc rc
 mo:Sl m y.mo mo
abbrev yc(r r2 st rc mo:Φ):Bt:=[r,r2,st,rc,mo]
abbrev yv(r r2 st rc mo:Φ):Φ:=.agg (yc r r2 st rc mo).toArray
theorem lR.aV{y:Yd}{r r2 st rc mo:Φ}{m':M}(h:lR m y r r2 st rc mo)(hk:∀c cs t g,m.get c=.cells cs t g->(t=60\/t=141\/t=137\/t=113\/t=53\/t=109)->m'.get c=.cells cs t g):lR m' y r r2 st rc mo:=by
 have⟨⟨l,h1,h2⟩,h3,⟨k,h4,h5⟩,h6,h7⟩:=h
 refine⟨⟨l,h1,h2.aV λc cs t g H ht=>hk c cs t g H (by grind)⟩,h3.aV λc cs t g H ht=>hk c cs t g H ?_,⟨k,h4,h5.aV λc cs t g H ht=>hk c cs t g H (by grind)⟩,h6.aV λc cs t g H ht=>hk c cs t g H ?_,h7.aV λc cs t g H ht=>hk c cs t g H ?_⟩ <;>
  (simp only[aW.ty,aW.cT,RN,ZX,or_false]at ht;subst ht;simp)
theorem lR.aE{y:Yd}{r r2 st rc mo:Φ}{m':M}(h:lR m y r r2 st rc mo)(H:Ext m m'):lR m' y r r2 st rc mo:=h.aV λ_ _ _ _ hc _=>H.cells hc
theorem lR.dS{y:Yd}{r r2 st rc mo:Φ}(h:lR m y r r2 st rc mo):(yc r r2 st rc mo).all one:=by have⟨⟨l,_,H⟩,h3,⟨k,_,h5⟩,h6,h7⟩:=h;show(one r && (one r2 && (one st && (one rc && (one mo && true)))))=true;rw[H.sl.one,h3.one,h5.sl.one,h6.one,h7.one];rfl
section
variable {b:Nat} {t:Tk} {w:Φ} {g:Option Nat}
theorem rh(h:m.get b=.cells (t.c w) 62 g):ah TE m 60 (Ga b (0+1))=some (t.un.v w):=by rw[nF,aQ (n:=6) h (by simp_all)];rfl
theorem gI(h:m.get b=.cells (t.c w) 62 g):ah TE m 62 (Ga b 0)=some (t.v w):=by rw[Q6,aQ (n:=11) h (by simp_all)];rfl
theorem nq(h:m.get b=.cells (t.c w) 62 g):
  ah TE m 3 (Ga b (0+0))=some (YR t.kind)/\ah TE m 3 (Ga b (0+7))=some (YR t.id)/\ah TE m 3 (Ga b (0+8))=some (YR t.other)/\
  ah TE m 3 (Ga b (0+9))=some (YR t.side)/\ah TE m 3 (Ga b (0+10))=some (YR t.du):=by refine⟨?_,?_,?_,?_,?_⟩ <;>(rw[bF,aI h];rfl)
theorem rX(h:m.get b=.cells (t.c w) 62 g):
  ah TE m 3 (Ga b (0+1+0))=some (YR t.un.id)/\ah TE m 3 (Ga b (0+1+1))=some (YR t.un.kind)/\ah TE m 3 (Ga b (0+1+2))=some (YR t.un.du)/\
  ah TE m 58 (Ga b (0+1+3))=some w/\ah TE m 3 (Ga b (0+1+4))=some (YR t.un.back)/\ah TE m 3 (Ga b (0+1+5))=some (YR t.un.front):=by
 refine⟨?_,?_,?_,?_,?_,?_⟩;·rw[bF,aI h];rfl
 ·rw[bF,aI h];rfl
 ·rw[bF,aI h];rfl
 ·rw[qj,aI h];rfl
 ·rw[bF,aI h];rfl
 rw[bF,aI h];rfl
end
section
variable {b:Nat} {r r2 st rc mo:Φ} {g:Option Nat}
theorem dW(h:m.get b=.cells (yc r r2 st rc mo) 38 g):
  ah TE m 33 (Ga b (0+0))=some (.agg #[r,r2])/\ah TE m 34 (Ga b (0+2))=some st/\ah TE m 35 (Ga b (0+3))=some rc/\
  ah TE m 36 (Ga b (0+4))=some mo/\ah TE m 38 (Ga b 0)=some (yv r r2 st rc mo):=by
 refine⟨?_,?_,?_,?_,?_⟩;·rw[lV,aQ (n:=2) h (by grind)];rfl
 ·rw[Re,aI h];rfl
 ·rw[nG,aI h];rfl
 ·rw[Rc,aI h];rfl
 rw[HI,aQ (n:=5) h (by grind)];rfl
theorem xB(h:m.get b=.cells (yc r r2 st rc mo) 38 g):
  ah TE m 30 (Ga b (0+0+0))=some (.agg #[r])/\ah TE m 28 (Ga b (0+0+0+0))=some r/\ah TE m 31 (Ga b (0+0+1))=some r2:=by
 refine⟨?_,?_,?_⟩;·rw[eo,aQ (n:=1) h (by grind)];rfl
 ·rw[dT,aI h];rfl
 rw[ki,aI h];rfl
end
deriving instance DecidableEq for Un
theorem uc(hX:cd X){a b:Un}{va vb:Φ}(ha:Sl m a.shape va)(hb:Sl m b.shape vb)(la:a.shape.length<4611686018427387904):
  C X (.func 89) [a.v va,b.v vb] m m.n (.bool (decide (a=b))) m:=by
 refine Cl.fl hX (Kg func89) ?_;rw[F89];dsimp only[δ,ε,ζ,η,κ,ρ,υ,χ];refine aw λm1 r0 o0 s0=>?_;refine aw λm2 u0 k0 v0=>?_;simp only[aT]at o0 k0;have l0:Ext m m2:=⟨by omega,by grind⟩
 have g1:m2.get m.n=.cells (a.c va) 60 none:=by grind
 have g2:m2.get m1.n=.cells (b.c vb) 60 none:=k0;have⟨a0,a1,a2,a3,a4,a5⟩:=kz g1;have⟨b0,b1,b2,b3,b4,b5⟩:=kz g2;have g0:=ha.aE l0;have m0:=hb.aE l0;unfold ptrTo;simp only[bz,cM,cL,bD,cK,cJ,ae];have fin:∀{lo:Nat} {c:Bool},m.n<=lo->(c↔a=b)->bh [Value.bool c]=Value.bool (decide (a=b))/\m.n<=lo:=λ{lo c} d0 e=>⟨by
  have:c=decide (a=b):=by grind
  rw[this];rfl,d0⟩
 refine aZ (λvs mm lo=>m2=mm/\m.n<=lo/\∃bad:Bool,vs=[.bool bad]/\(bad->a≠b)/\(bad=false->a.id=b.id/\a.kind=b.kind/\a.du=b.du/\a.back=b.back/\a.front=b.front/\a.shape.length=b.shape.length)) (λR hR=>?_) ?_
 ·have bad:∀(h:a≠b),∃bad:Bool,[Value.bool true]=[.bool bad]/\(bad->a≠b)/\(bad=false->a.id=b.id/\a.kind=b.kind/\a.du=b.du/\a.back=b.back/\a.front=b.front/\a.shape.length=b.shape.length):=λh=>⟨true,rfl,λ_=>h,λe=>by cases e⟩
  rw[a0,ae,b0,ae,bL,ae,aj];refine an (λc=>hR _ _ _ ⟨rfl,Ox _,bad λe=>?_⟩) (λc0=>?_);·rw[e]at c;simp at c
  rw[a1,ae,b1,ae,bL,ae,aj];refine an (λc=>hR _ _ _ ⟨rfl,Ox _,bad λe=>?_⟩) (λc1=>?_);·rw[e]at c;simp at c
  rw[a2,ae,b2,ae,bL,ae,aj];refine an (λc=>hR _ _ _ ⟨rfl,Ox _,bad λe=>?_⟩) (λc2=>?_);·rw[e]at c;simp at c
  rw[a4,ae,b4,ae,bL,ae,aj];refine an (λc=>hR _ _ _ ⟨rfl,Ox _,bad λe=>?_⟩) (λc4=>?_);·rw[e]at c;simp at c
  rw[a5,ae,b5,ae,bL,ae,aj];refine an (λc=>hR _ _ _ ⟨rfl,Ox _,bad λe=>?_⟩) (λc5=>?_);·rw[e]at c;simp at c
  rw[a3,ae,g0.len cA,az,b3,ae,m0.len cA,az,bL,ae];refine hR _ _ _ ⟨rfl,Ox _,_,rfl,λc e=>?_,λc=>⟨by grind,by grind,by grind,by grind,by grind,?_⟩⟩;·rw[e]at c;simp at c
  have:(a.shape.length:Int)=(b.shape.length:Int):=by grind
  omega
 rintro _ _ lo ⟨rfl,d0,bad,rfl,h1,h2⟩;rw[aB,aj];refine an (λc=>fin d0 ⟨λe=>(by cases e),λe=>absurd e (h1 c)⟩) (λc=>?_);have⟨f0,f1,f2,f4,f5,hlen⟩:=h2 c;refine Lp.intro (γ:=Nat) (λi=>a.shape.length-i) (λi vs mm lo=>vs=[Zf,YR i]/\i<=a.shape.length/\m2=mm/\m.n<=lo/\∀j x y,j<i->a.shape[j]?=some x->b.shape[j]?=some y->x=y) 0 ⟨rfl,ZE _,rfl,d0,λj x y hj=>by omega⟩ ?_;rintro i vs _ y0 ⟨rfl,hi,rfl,H,e0⟩;rw[aB,aB,a3,ae,g0.len cA,az,aM,ae,aj];refine an (λn0=>?_) (λz0=>?_)
 ·have n0:i<a.shape.length:=by grind
  obtain⟨x,hx⟩:∃x,a.shape[i]?=some x:=⟨_,Fx n0⟩
  obtain⟨y,hy⟩:∃y,b.shape[i]?=some y:=⟨_,qp⟩
  have⟨p,e1,e2⟩:=g0.dX (k:=.i64) hx;have⟨q,e3,e4⟩:=m0.dX (k:=.i64) hy;rw[ae,e1,ae,e2,ae,b3,ae,e3,ae,e4,ae,NF,ae,aj];refine an (λp0=>fin H ⟨λe=>(by cases e),λe=>?_⟩) (λhe=>?_);·rw[e,hy]at hx;cases hx;simp at p0
  rw[aP,ae,wrap64];refine⟨i+1,by omega,rfl,by omega,rfl,H,λj x' y' hj i0 j0=>?_⟩;by_cases q0:j<i;·exact e0 j x' y' q0 i0 j0
  have:j=i:=by omega
  subst this;rw[hx]at i0;rw[hy]at j0;cases i0;cases j0;simpa using he
 have A0:i=a.shape.length:=by
  grind
 have hs:a.shape=b.shape:=rC hlen λj x y hj=>e0 j x y (by omega);refine fin H ⟨λ_=>?_,λ_=>rfl⟩;rcases a with⟨_,_,_,_,_,_⟩;rcases b with⟨_,_,_,_,_,_⟩;simp only[Un.mk.injEq];exact⟨f0,f1,f2,hs,f4,f5⟩
theorem Js(hX:cd X){l H:List UW}{v v':Φ}(h:cP m l v)(h':cP m H v')(hlen:l.length<1000000):
  C X (.func 151) [.agg #[v],.agg #[v']] m m.n (.bool (decide (bM l=bM H))) m:=by
 refine Cl.fl hX (Kg func151) ?_;rw[aay];dsimp only[δ,ε,ζ,η,κ,ο,ρ,υ,χ,ψ];refine aw λm1 u0 m0 v0=>?_;refine aw λm2 y0 n0 o0=>?_;have g0:Ext m m2:=⟨by omega,by grind⟩
 have g1:m2.get m.n=.cells [v] 30 none:=by rw[o0 _ (by omega)];exact m0
 have g2:m2.get m1.n=.cells [v'] 30 none:=n0;have hF:=h.aE g0;have b0:=h'.aE g0;have ld:∀{b:Nat} {w:Φ},m2.get b=.cells [w] 30 none->ah TE m2 28 (Ga b (0+0))=some w:=λh=>by rw[dT,aI h];rfl
 unfold ptrTo;simp only[bJ,ae];have fin:∀{lo:Nat} {c:Bool},m.n<=lo->(c↔bM l=bM H)->bh [Value.bool c]=Value.bool (decide (bM l=bM H))/\m.n<=lo:=λ{lo c} p0 e=>⟨by
  have:c=decide (bM l=bM H):=by grind
  rw[this];rfl,p0⟩
 rw[ld g1,ae,hF.sl.len dc,az,ld g2,ae,b0.sl.len dc,az,bL,ae,aj];refine an (λc=>fin (Ox _) ⟨λe=>(by cases e),λe=>?_⟩) (λc=>?_);·have:=congrArg List.length e;rw[cx,cx]at this;rw[this]at c;simp at c
 have q0:l.length=H.length:=by
  grind
 refine Lp.intro (γ:=Nat) (λi=>l.length-i) (λi vs mm lo=>vs=[Zf,YR i]/\i<=l.length/\m2=mm/\m.n<=lo/\∀j x y,j<i->(bM l)[j]?=some x->(bM H)[j]?=some y->x=y) 0 ⟨rfl,ZE _,rfl,Ox _,λj x y hj=>by omega⟩ ?_;rintro i vs _ z0 ⟨rfl,hi,rfl,i0,a0⟩;rw[aB,aB,ld g1,ae,hF.sl.len dc,az,aM,ae,aj];refine an (λj0=>?_) (λA0=>?_)
 ·have j0:i<l.length:=by grind
  obtain⟨x,hx⟩:∃x,l[i]?=some x:=⟨_,Fx j0⟩
  obtain⟨y,hy⟩:∃y,H[i]?=some y:=⟨_,qp⟩
  have k0:=LZ hx;have r0:=LZ hy;have⟨p,p1,p2,_⟩:=hF.sl.eY (k:=.i64) hx;have⟨q,q1,q2,_⟩:=b0.sl.eY (k:=.i64) hy;rw[ae,p1,ae,p2,ae,ld g2,ae,q1,ae,q2,ae];refine aG (uc hX (hF.sh x k0) (b0.sh y r0) (by have:=hF.ln x k0;omega)) ?_;rw[bk,ae,aj];refine an (λl0=>fin (by omega) ⟨λe=>(by cases e),λe=>?_⟩) (λhe=>?_);·have e1:=fP hx;rw[e,fP hy]at e1;rw[Option.some.inj e1]at l0;simp at l0
  rw[aP,ae,wrap64];refine⟨i+1,by omega,rfl,by omega,rfl,by omega,λj x' y' hj d0 e0=>?_⟩;by_cases s0:j<i;·exact a0 j x' y' s0 d0 e0
  have:j=i:=by omega
  subst this;rw[fP hx]at d0;rw[fP hy]at e0;cases d0;cases e0;simpa using he
 have B0:i=l.length:=by
  grind
 have hs:bM l=bM H:=rC (by rw[cx,cx,q0]) λj x y hj=>a0 j x y (by rw[cx]at hj;omega);exact fin i0 ⟨λ_=>hs,λ_=>rfl⟩
theorem eq_mk{x y:Mk}:eq? TE 137 x.v y.v=some (decide (x=y)):=by
 have e:eq? TE 137 x.v y.v=some ((x.id==y.id) && ((x.un==y.un) && ((x.side==y.side) && ((x.kind==y.kind) && ((x.Hq==y.Hq) && true))))):=by kernel_rfl
 rw[e];congr 1;rw[OT,decide_eq_true_iff];rcases x with⟨_,_,_,_,_⟩;rcases y with⟨_,_,_,_,_⟩;grind
theorem TO{x y:Mk}:aA TE .neq 137 x.v y.v=some (.bool (!(decide (x=y)))):=by
 have e:aA TE .neq 137 x.v y.v=(eq? TE 137 x.v y.v).map (λb=> .bool (!b)):=by kernel_rfl
 rw[e,eq_mk];rfl
theorem Ag(hX:cd X){l H:List Mk}{v v':Φ}(hl:Sl m l v)(g0:Sl m H v')(hb:l.length<4611686018427387904):C X (.func 90) [v,v'] m m.n (.bool (decide (l=H))) m:=by
 refine Cl.fl hX (Kg func90) ?_;rw[F90];dsimp only[δ,ζ,η,κ,χ];rw[hl.len dv,az,g0.len dv,az];simp only[bL,ae,aj];refine an (λh=>⟨?_,Ox _⟩) (λh=>?_)
 ·have:l≠H:=by grind
  simp[bh,this]
 have hlen:l.length=H.length:=by
  grind
 refine Lp.intro (γ:=Nat) (λi=>l.length-i) (λi vs m1 lo=>vs=[Zf,YR i]/\i<=l.length/\m=m1/\m.n<=lo/\∀j x y,j<i->l[j]?=some x->H[j]?=some y->x=y) 0 ⟨rfl,ZE _,rfl,Ox _,λj x y hj=>by omega⟩ ?_;rintro i vs m1 lo ⟨rfl,hi,rfl,b0,a0⟩;simp only[aB];rw[hl.len dv,az];simp only[aM,ae,aj];refine an (λi0=>?_) (λk0=>?_)
 ·have i0:i<l.length:=by grind
  obtain⟨x,hx⟩:∃x,l[i]?=some x:=⟨_,Fx i0⟩
  obtain⟨y,hy⟩:∃y,H[i]?=some y:=⟨_,qp⟩
  have⟨a,e1,e2⟩:=hl.qZ (k:=.i64) hx;have⟨b,e3,e4⟩:=g0.qZ (k:=.i64) hy;rw[e1,ae,e2,ae,e3,ae,e4,ae,TO,ae,aj];refine an (λl0=>⟨?_,b0⟩) (λhe=>?_)
  ·have:l≠H:=by grind
   simp[bh,this]
  simp only[aP,ae];rw[wrap64];refine⟨i+1,by omega,by simp,by omega,by grind,b0,λj x' y' hj d0 e0=>?_⟩;by_cases j0:j<i;·exact a0 j x' y' j0 d0 e0
  have:j=i:=by omega
  subst this;rw[hx]at d0;rw[hy]at e0;cases d0;cases e0;simpa using he
 have m0:i=l.length:=by
  grind
 have:l=H:=rC hlen λj x y hj=>a0 j x y (by omega);exact⟨by simp[bh,this],b0⟩
theorem Jr(hX:cd X){l l':List UW}{ms a0:List Mk}{v v' w w':Φ}(h:cP m l v)(h':cP m l' v')(hlen:l.length<1000000)(hm:Sl m ms w)(b0:Sl m a0 w')(hb:ms.length<4611686018427387904):
  C X (.func 88) [.agg #[v,w],.agg #[v',w']] m m.n (.bool (decide (bM l=bM l') && decide (ms=a0))) m:=by
 refine Cl.fl hX (Kg func88) ?_;rw[F88];dsimp only[δ,ε,ρ,υ,ψ,ω];refine aw λm1 j0 d0 k0=>?_;refine aw λm2 l0 e0 g0=>?_;have H:Ext m m2:=⟨by omega,by grind⟩
 have g1:m2.get m.n=.cells [v,w] 33 none:=by rw[g0 _ (by omega)];exact d0
 have g2:m2.get m1.n=.cells [v',w'] 33 none:=e0;unfold ptrTo;simp only[bV,cB,ae];refine aZ (λvs mm lo=>vs=[.bool (decide (bM l=bM l') && decide (ms=a0))]/\m.n<=lo) (λR hR=>?_) ?_;·rw[(jC g1).1,ae,(jC g2).1,ae];refine aG (Js hX (h.aE H) (h'.aE H) hlen) ?_;rw[aj];refine an (λc=>?_) (λc=>hR _ _ _ ⟨by grind,by omega⟩);rw[(jC g1).2.2.1,ae,(jC g2).2.2.1,ae];refine aG (Ag hX (hm.aE H) (b0.aE H) hb) ?_;exact hR _ _ _ ⟨by grind,by omega⟩
 rintro _ _ lo ⟨rfl,i0⟩;rw[aB];exact⟨rfl,i0⟩
end
deriving instance DecidableEq for Tk
abbrev Un.z:Un:=⟨0,0,0,[],0,0⟩
def fS(t:Tk):List Int:=
 if t.kind=1 then [t.un.id,t.un.kind,t.un.du,t.un.back,t.un.front]++t.un.shape.flatMap λp=> [p.x,p.y]
 else if t.kind=2\/t.kind=3\/t.kind=6\/t.kind=7 then [t.id]
 else if t.kind=4 then [t.id,t.du]
 else if t.kind=5\/t.kind=8 then [t.id,t.side]
 else if t.kind=9 then [t.id,t.other,t.du]
 else []
def gV:List Int->List Pl
 |x::y::r=>⟨x,y⟩::gV r
 |_=> []
theorem vD:∀l:List Pl,gV (l.flatMap λp=> [p.x,p.y])=l
 |[]=>rfl
 |p::r=>by
  show(⟨p.x,p.y⟩:Pl)::gV (r.flatMap λp=> [p.x,p.y])=p::r;rw[vD r]
theorem td:∀l:List Pl,(l.flatMap λp=> [p.x,p.y]).length=2*l.length
 |[]=>rfl
 |p::r=>by
  show(r.flatMap λp=> [p.x,p.y]).length+1+1=2*(r.length+1);rw[td r];omega
def yu(k:Int)(l:List Int):Option Tk:=
 if k=1 then(if 11<=l.length/\l.length<=21/\l.length%2=1 then some ⟨1,⟨l.getD 0 0,l.getD 1 0,l.getD 2 0,gV (l.drop 5),l.getD 3 0,l.getD 4 0⟩,0,0,0,0⟩else none)
 else if k=4 then(if l.length=2 then some ⟨k,.z,l.getD 0 0,0,0,l.getD 1 0⟩else none)
 else if k=5\/k=8 then(if l.length=2 then some ⟨k,.z,l.getD 0 0,0,l.getD 1 0,0⟩else none)
 else if k=9 then(if l.length=3 then some ⟨k,.z,l.getD 0 0,l.getD 1 0,0,l.getD 2 0⟩else none)
 else(if l.length=1 then some ⟨k,.z,l.getD 0 0,0,0,0⟩else none)
def sY(t:Tk):Bool:=cR t.kind 1 9 && decide (t.un.shape.length<=8) && decide (yu t.kind (fS t)=some t) &&
 (if t.kind=1 then jD t.un && cR t.un.kind 6 8 else cR t.id 0 99 && cR t.other 0 99 && cR t.side (-2) 7 && cR t.du 0 7 && (!decide (t.kind=9) ||decide (t.id < t.other)))
theorem wY{u:Un}:(eN u && decide (u.id=0))=decide (u=.z):=by
 have⟨a,b,c,s,d,e⟩:=u;unfold eN;grind
theorem Om(t:Tk):sY t=dB t:=by
 have⟨k,u,id,a0,side,du⟩:=t;by_cases k1:k=1
 ·subst k1;unfold sY dB fS yu;simp only[RK,Jv,Zi,List.getD_cons_zero,List.getD_cons_succ,Qc,QA,vD,zG,td];have⟨a,b,c,s,d,e⟩:=u;rw[OT];by_cases H:jD ⟨a,b,c,s,d,e⟩=true;·have h8:=jc H;have b0:3<=s.length/\s.length<=8:=eC (GY H);have h8:s.length<=8:=h8;have hs:(⟨a,b,c,s,d,e⟩:Un).shape.length=s.length:=rfl;rw[Tf ⟨by omega,by omega,by omega⟩];simp only[JJ,EU,No,Tk.mk.injEq,H,true_and,and_true,cR];omega
  ·grind
 all_goals
  by_cases k2:k=2\/k=3\/k=6\/k=7
  ·rcases k2 with rfl|rfl|rfl|rfl <;>
   ·unfold sY dB fS yu;simp only[wY];simp[cR];grind
  by_cases k4:k=4
  ·subst k4;unfold sY dB fS yu;simp only[wY];simp[cR];grind
  by_cases k5:k=5\/k=8
  ·rcases k5 with rfl|rfl <;>
   ·unfold sY dB fS yu;simp only[wY];simp[cR];grind
  by_cases k9:k=9
  ·subst k9;unfold sY dB fS yu;simp only[wY];simp[cR];grind
  unfold sY dB;have:cR k 1 9=false:=by
   unfold cR;grind
  grind
end Go.Proofs.YtigpcbodmjjaiaaGreatDoor
