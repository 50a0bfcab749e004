/- slices.Clone over any elements; .. -/
import Derived.Test.YtigpcbodmjjaiaaGreatDoorG6J
import Derived.Deep.WholeRow
import Derived.Lib.AppendZerosOnto
import Derived.Shelf.Spec.SlicesInsert
set_option maxRecDepth 100000
noncomputable section
open Go Go.D Go.Proofs.Tryz
namespace Go.Proofs.YtigpcbodmjjaiaaGreatDoor
section
variable {X:aM} {m:M}
def wB{α:Type}[aZ α](n1:Nat)(m:M)(l:List α)(v:aes):Prop:=
 Ow n1 m l v\/(l=[]/\∃b,v=.slice (some ⟨b,0,none⟩) 0 0/\n1<=b/\m.get b=.cells [] (aZ.ty α) none)
section
variable {α:Type} [aZ α]
theorem wB.sl{n1:Nat}{l:List α}{v:aes}(h:wB n1 m l v):Sl m l v:=by
 rcases h with h |⟨rfl,b,rfl,h1,H⟩;·exact h.sl
 exact .inr ⟨b,0,0,[],none,rfl,H,by simp,by grind⟩
theorem wB.aG{n1:Nat}{m':M}{l:List α}{v:aes}(h:wB n1 m l v)(H:Ext m m'):wB n1 m' l v:=
 h.imp (λh=>h.aG H) λ⟨h1,b,h2,h3,h4⟩=>⟨h1,b,h2,h3,H.cells h4⟩
theorem wB.mono{n1 n2:Nat}{l:List α}{v:aes}(h:wB n1 m l v)(H:n2<=n1):wB n2 m l v:=
 h.imp (λh=>h.mono H) λ⟨h1,b,h2,h3,h4⟩=>⟨h1,b,h2,by omega,h4⟩
theorem wB.pk{n1:Nat}{m':M}{l:List α}{v:aes}(ht:aZ.dd α=[])(h:wB n1 m l v)(hk:∀c,n1<=c->c < m.n->m'.get c=m.get c):wB n1 m' l v:=
 h.imp (λh=>h.pk ht hk) λ⟨h1,b,h2,H,h4⟩=>⟨h1,b,h2,H,by rw[hk b H (M.bk h4),h4]⟩
theorem Es{T:TypeId}(hT:rH TE T α){a0 a:Addr}{c:Nat}:az TE (m.wl m.n) .append [T,T] [.slice (some a0) 0 0,.slice (some a) 0 c]=some (.slice (some a0) 0 0,m.wl m.n):=by
 have⟨ti,H,t1,t2,t3,t4,t5,t6⟩:=hT;have b0:=aZ.pos (α:=α)
 have c1:Nat.beq ti.es 0=false:=by
  cases hb:Nat.beq ti.es 0 with
  |false=>rfl
  |true=>have:=aba hb;omega
 have c2:Nat.blt 65536 H.bytes=false:=by
  cases hb:Nat.blt 65536 H.bytes with
  |false=>rfl
  |true=>rw[acV]at hb;omega
 have hf:first? (m.wl m.n) ti.es 0 (.slice (some a) 0 c)=some []:=rfl
 have hc:(Nat.beq ti.es 0 ||Nat.blt 65536 H.bytes || !([]:aet).all D.one ||Nat.blt 268435456 (0+0) || !Nat.beq ([]:aet).length (0*ti.es) || !gj H.zero ti.es)=false:=by
  have c4:Nat.beq ([]:aet).length (0*ti.es):=by simp_all
  rw[c1,c2,c4,t3,t6];rfl
 simp only[az,dR,t1,t2,t4,lW,hf];rw[hc];rfl
abbrev Wm(T:TypeId)(W:Words)(x0:aes)(m:M)(R:aet->M->Nat->Prop):Prop:=
(W.aj (aC TE .eql T x0 (.slice none 0 0)) λv1=>(aU v1
(R [.slice none 0 0] m (M.n m))
(W.aR (aI TE m T 0 []) λv2 m3=>(W.aR (az TE (M.wl m3 (M.n m3)) .append [T,T] [v2,x0]) λv4 m5=>(R [v4] m5 (min (M.n m) (M.low m5)))))))
theorem tj{T:TypeId}(hT:rH TE T α){f:Nat}{fn:Func}(hX:Pr X f)(hf:TE.fn.get f=some fn)(hn:Nat.ble 1 fn.ntmps)
  (hF:∀{W:Words} {x0:aes} {m:M} {R:aet->M->Nat->Prop},dU TE W fn [x0] m R=Wm T W x0 m R)
  (h1:aC TE .eql T aew aew=some aex) (h2:∀a n c,aC TE .eql T (.slice (some a) n c) aew=some aey)
  (h3:∀m:M,aI TE m T 0 []=some (aer m.n 0 0 0,m.push (.cells [] (aZ.ty α) none)))
  {l:List α} {v:aes} (hl:Sl m l v) (hs:l.length<=1000000):∃v' m',C X (.func f) [v] m m.n v' m'/\Ext m m'/\wB m.n m' l v':=by
 have key:∃v' m' b,C X (.func f) [v] m b v' m'/\b=m.n/\Ext m m'/\wB m.n m' l v':=by
  refine Cl.gen (R:=λv' m' b=>b=m.n/\Ext m m'/\wB m.n m' l v') hX hf hn ?_;rw[hF];dsimp only[Wm,aO];rcases hl with⟨rfl,rfl⟩ |⟨b,o,c,bc,g,rfl,hb,hlen,e0⟩
  ·rw[h1,ae,ak,bH];exact .inl ⟨rfl,aaV _,rfl,.refl,.inl Ow.nil⟩
  have hl:Sl m l (aer b o l.length c):=.inr ⟨b,o,c,bc,g,rfl,hb,hlen,e0⟩;rw[h2,ae,ak,aT,h3,aA];have H:Ext m (m.push (.cells [] (aZ.ty α) none)):=Ext.refl.push;by_cases a0:l=[]
  ·subst a0;rw[abu,Es hT,aA];exact .inr ⟨.inl rfl,by show min m.n _=m.n;simp[M.xE,M.iQ],H.wl,.inr ⟨rfl,m.n,rfl,aaV _,M.aY⟩⟩
  have⟨v',m1,e1,b0,he,d0⟩:=il (m:=m.push (.cells [] (aZ.ty α) none)) hT (b:=m.n) M.aY (hl.aG H) a0 hs;rw[e1,aA];have g0:=b0.flat a0;rw[M.iQ]at d0;exact .inr ⟨.inl g0,by omega,H.trans he,.inl (b0.mono (by rw[M.iQ];omega))⟩
 obtain⟨v',m',b,hc,rfl,h⟩:=key;exact⟨v',m',hc,h⟩
end
theorem VM{W:Words}{x0:aes}{m:M}{R:aet->M->Nat->Prop}:dU TE W f106 [x0] m R=Wm 31 W x0 m R:=by kernel_rfl
theorem VK{W:Words}{x0:aes}{m:M}{R:aet->M->Nat->Prop}:dU TE W f82 [x0] m R=Wm 58 W x0 m R:=by kernel_rfl
theorem zg(H:cy X){l:List Mk}{v:aes}(hl:Sl m l v)(hs:l.length<=1000000):∃v' m',C X (.func 106) [v] m m.n v' m'/\Ext m m'/\wB m.n m' l v':=
 tj uU (H.no _ rfl) (aaU func106) rfl VM (by kernel_rfl) (λ_ _ _=>by kernel_rfl) (λ_=>by kernel_rfl) hl hs
structure RP(S n1:Nat)(mm:M)(acc:List UW)(ms:List Mk)(r vm:aes):Prop where
 cell:mm.get S=.cells [r,vm] 33 none
 ow:Ow (S+1) mm acc r
 sh:∀x∈acc,Sl mm x.u.shape x.w
 ln:∀x∈acc,x.u.shape.length < 1000000
 Av:wB n1 mm ms vm
theorem RP.qk{S n1:Nat}{mm:M}{acc:List UW}{ms:List Mk}{r vm:aes}(h:RP S n1 mm acc ms r vm):cY mm acc r:=
 ⟨h.ow.sl,h.sh,h.ln,by
  rcases h.ow with⟨_,h⟩ |⟨b,cs,h1,h2,h3,H,h5,h6⟩
  ·grind
  ·exact .inr ⟨b,0,_,cs,_,h1,aaV _,H,.inr rfl⟩⟩
theorem Gz(hX:cy X){l:List UW}{ms:List Mk}{r vm:aes}(hF:cY m l r)(i1:∀x∈l,x.u.shape≠ [])(E1:l.length<=1000)(hm:Sl m ms vm)(j1:ms.length<=1000000):
  ∃r' H m' l',C X (.func 104) [.agg #[r,vm]] m m.n (.agg #[r',H]) m'/\Ext m m'/\bR l'=bR l/\cY m' l' r'/\wB m.n m' ms H:=by
 refine Cl.ky hX (aaU func104) (R:=λv' m'=>∃r' H l',v'=.agg #[r',H]/\Ext m m'/\bR l'=bR l/\cY m' l' r'/\wB m.n m' ms H) ?_ λv' m' hc ⟨r',H,l',e,h1,h2,h3,h4⟩=>⟨r',H,m',l',e ▸ hc,h1,h2,h3,h4⟩
 rw[aay];dsimp only[δ,ε,ζ,η,θ,ι,κ,ν,ρ,ς,υ,χ,ψ,Θ,ω];refine aw λm1 b2 k1 c2=>?_;refine aw λm2 d2 l1 o1=>?_;have y0:Ext m m2:=⟨by omega,by grind⟩
 have g1:m2.get m.n=.cells [r,vm] 33 none:=by rw[o1 _ (by omega)];exact k1
 have g2:m2.get m1.n=.cells [aew,aew] 33 none:=l1;unfold ptrTo;rw[cL,ae,lU,aL g1];simp only[abA,aaY,aaX,ae];have⟨H,m6,p1,p0,q0⟩:=zg (m:=m2) hX (hm.aG y0) j1;refine aH p1 ?_;have F1:=p0.n;have k0:one H:=q0.sl.one;have⟨am,cm,r1⟩:=q0.sl.form;have G0:aK TE 33 [(1,H)]=some (.agg #[aew,H]):=by rw[r1];exact zl rfl
 rw[G0,ae];refine aw λm9 i2 u1 j2=>?_;refine aD dV u1 rfl rfl (by show(true && (one H && true))=true;rw[k0];rfl) λm10 H1 H0 I1=>?_;have g10:m10.get m6.n=.cells [aew,H] 33 none:=H0;have g0:Ext m6 m10:=⟨by omega,by grind⟩
 have I0:=(y0.trans p0).trans g0;have J1:=y0.n;have G1:=g0.cells (p0.cells g1);rw[cd,ae,bN,ae,ez,aL G1];simp only[abA,aaY,ae];rw[(hF.sl.aG I0).len dt,aA];refine Lp.Tx (γ:=Nat) (λi=>l.length-i) (λi vs mm lo=>∃acc r',vs=[aev i]/\i<=l.length/\bR acc=(bR l).take i/\RP m6.n m2.n mm acc ms r' H/\(∀c,c < m6.n->mm.get c=m10.get c)/\m10.n<=mm.n/\m.n<=lo) 0 ⟨[],_,rfl,aa6 _,rfl,⟨g10,Ow.nil,λx hx=>(by cases hx),λx hx=>(by cases hx),q0.aG g0⟩,λ_ _=>rfl,aaV _,by omega⟩ ?_;rintro i vs mm lo ⟨acc,r',rfl,hi,l0,hS,hk,k2,l2⟩ P hP;have z0:Ext m mm:=⟨by omega,λc hc=>by rw[hk c (by omega),I0.get c hc]⟩
 have K1:acc.length=i:=by have:=congrArg List.length l0;rw[cI,abP,cI]at this;omega
 rw[aE,aQ,ae,ak];refine av (λA0=>?_) (λo2=>?_)
 ·have A0:i < l.length:=by grind
  obtain⟨x,hx⟩:∃x,l[i]?=some x:=⟨_,aaW A0⟩
  have e0:=aa2 hx;have⟨a,e1,e2,k0⟩:=(hF.sl.aG z0).fx (k:=.i64) hx;rw[e1,ae,e2,ae];refine aw λu2 L1 J0 N1=>?_;refine aD df J0 rfl rfl (Un.cM k0) λB0 O1 K0 P1=>?_;have u0:Ext mm B0:=⟨by omega,by grind⟩
  have gu:B0.get mm.n=.cells x.c 60 none:=K0;obtain⟨-, -, -,l3, -, -⟩:=kb gu;rw[bL,ae,l3,ae];obtain⟨w',v2,L0,d0,m0⟩:=zf (m:=B0) hX ((hF.sh x e0).aG (z0.trans u0)) (i1 x e0) (by have:=hF.ln x e0;omega);refine aH L0 ?_;have n31:=m0.n;have o7:one w':=d0.sl.one;have N0:=m0.cells gu;rw[ae];refine bY xI N0 (by rw[d0.sl.cells];rfl) (by rw[d0.sl.cells];show 3+1<=6;omega) (by rw[d0.sl.cells];simp[o7]) λa0 T1 O0 v0=>?_;have v1:a0.get mm.n=.cells (x.u.c w') 60 none:=by rw[O0,d0.sl.cells];rfl
  have n0:∀c,c < mm.n->a0.get c=mm.get c:=λc hc=>by rw[v0 c (by omega),m0.get c (by omega),u0.get c hc]
  have h0:Ext mm a0:=⟨by omega,n0⟩
  have b0:RP m6.n m2.n a0 acc ms r' H:=⟨h0.cells hS.cell,hS.ow.aG h0,λy hy=>(hS.sh y hy).aG h0,hS.ln,hS.Av.aG h0⟩
  have P0:Sl a0 x.u.shape w':=d0.sl.bs λb c t g hb ht=>by
   have h1:b≠mm.n:=λe=>by subst e;rw[N0]at hb;cases hb;simp[aZ.ty,aZ.dd]at ht
   rw[v0 b h1,hb]
  rw[cd,ae,bN,ae,ez,aL b0.cell];simp only[abA,aaY,ae];rw[bV v1,ae];have w1:aI TE a0 28 1 [(0,x.u.v w')]=some (aer a0.n 0 1 1,a0.push (.cells (UW.c ⟨x.u,w'⟩) 60 none)):=BD (x:=⟨x.u,w'⟩);rw[w1,aA];have S0:Ext a0 (a0.push (.cells (UW.c ⟨x.u,w'⟩) 60 none)):=Ext.refl.push;obtain⟨r2,w2,j0,e3,e4,h5,h6,h7,h8,h9,y1⟩:=MO (α:=UW) (o:=0) (x:=⟨x.u,w'⟩) Pe rfl Md rfl b0.cell rfl (ad1 _) (by grind) b0.ow S0 (Ad (M.aY) o7) (by omega);rw[e3,aA,bN,ae];simp only[abA]at e4⊢;rw[e4,aA,aS,ae,wrap64];have h8:a0.n+1<=j0.n:=h8;have a1:∀c,c < a0.n->(a0.push (.cells (UW.c ⟨x.u,w'⟩) 60 none)).get c=a0.get c:=λc hc=>M.cB hc
  have C0:∀c,c < a0.n->c≠m6.n->(∀cs g,a0.get c≠.cells cs 60 g)->j0.get c=a0.get c:=λc hc h1 h2=>by rw[y1 c (by show c < a0.n+1;omega) h1 (λcs g=>by rw[a1 c hc];exact h2 cs g),a1 c hc]
  have b1:∀{sh:List Pl} {w:aes},Sl a0 sh w->Sl j0 sh w:=λhs=>hs.bs λb c t g hb ht=>by
   have ht:t=141:=by simpa[aZ.ty,aZ.dd]using ht
   subst ht;rw[C0 b (M.bk hb) (λe=>by subst e;rw[b0.cell]at hb;cases hb) (by grind),hb]
  have r0:wB m2.n j0 ms H:=by
   rcases b0.Av with(⟨h1,h2⟩ |⟨b,cs,h1,h2,h3,h4,D0,E0⟩) |⟨h1,b,h2,h3,h4⟩;·exact .inl (.inl ⟨h1,h2⟩)
   ·have z1:j0.get b=a0.get b:=C0 b (M.bk h4) (λe=>by subst e;rw[b0.cell]at h4;cases h4) (λA1 g' e=>by rw[e]at h4;cases h4);exact .inl (.inr ⟨b,cs,h1,h2,h3,by grind,D0,λi y hy=>E0 i y hy⟩)
   have z1:j0.get b=a0.get b:=C0 b (M.bk h4) (λe=>by subst e;rw[b0.cell]at h4;cases h4) (λA1 g' e=>by rw[e]at h4;cases h4);exact .inr ⟨h1,b,h2,h3,by grind⟩
  refine hP (i+1) _ _ _ (by omega) ⟨acc++ [⟨x.u,w'⟩],r2,by push_cast;rfl,A0,?_,⟨h6,h7,λy hy=>?_,λy hy=>?_,r0⟩,λc hc=>?_,by omega,by omega⟩
  ·rw[abg,iw hx,<-l0];unfold bR;rw[abE];rfl
  ·rcases abp.1 hy with hy |hy;·exact b1 (b0.sh y hy)
   rw[abr]at hy;subst hy;exact b1 P0
  ·rcases abp.1 hy with hy |hy;·exact hS.ln y hy
   rw[abr]at hy;subst hy;exact hF.ln x e0
  rw[h9 c (by omega) (by omega),n0 c (by omega),hk c hc]
 have B1:i=l.length:=by
  grind
 have er:one r':=hS.ow.sl.one;rw[jj,aP (n:=2) hS.cell (by grind),aa8,ae];have C1:mm.get m1.n=.cells [aew,aew] 33 none:=by rw[hk _ (by omega),g0.get _ (by omega),p0.get _ (by omega),g2]
 refine aD dV C1 rfl rfl (by show(one r' && (one H && true))=true;rw[er,q0.sl.one];rfl) λs0 a2 c1 d1=>?_;have D1:s0.get m1.n=.cells [r',H] 33 none:=c1;rw[jj,aP (n:=2) D1 (by grind),aa8,ae];have F0:Ext m s0:=⟨by omega,λc hc=>by rw[d1 c (by omega),z0.get c hc]⟩
 have r0:wB m.n s0 ms H:=by
  rcases hS.Av with(⟨h1,h2⟩ |⟨b,cs,h1,h2,h3,h4,D0,E0⟩) |⟨h1,b,h2,h3,h4⟩;·exact .inl (.inl ⟨h1,h2⟩)
  ·exact .inl (.inr ⟨b,cs,h1,h2,by omega,by grind,D0,λi y hy=>E0 i y hy⟩)
  exact .inr ⟨h1,b,h2,by omega,by grind⟩
 have o0:cY s0 acc r':=hS.qk.bs λc cs t g hc ht=>by
  grind
 have i0:bR acc=bR l:=by rw[l0,B1,<-cI,abD]
 rcases hS.ow with⟨h1,h2⟩ |⟨b,cs,h1, -⟩
 ·rcases r0 with(⟨h3,h4⟩ |⟨b,cs,h3,hh⟩) |⟨h3,b,h4,hh⟩
  ·subst h1 h3;subst h2 h4;exact .inl ⟨by first |rfl |trivial,by omega,by grind,_,_,[],rfl,.refl,i0,HH m,.inl Ow.nil⟩
  ·exact .inr ⟨.inl (by rw[h1,h3];first |rfl |trivial),by omega,r',H,acc,rfl,F0,i0,o0,.inl (.inr ⟨b,cs,h3,hh⟩)⟩
  exact .inr ⟨.inl (by rw[h1,h4];first |rfl |trivial),by omega,r',H,acc,rfl,F0,i0,o0,.inr ⟨h3,b,h4,hh⟩⟩
 exact .inr ⟨.inl (by rw[h1];rfl),by omega,r',H,acc,rfl,F0,i0,o0,r0⟩
end
section
variable {m:M}
section
variable {α:Type} [aZ α]
theorem Kq{cs:aet}{k i j p:Nat}{c:aes}(H:j < k):chunk (cs.set (i*k+j) c) k p=if p=i then(chunk cs k p).set j c else chunk cs k p:=by
 unfold chunk;by_cases e:p=i
 ·subst e;rw[aa5 rfl,aeb,jz,show p*k+j-p*k=j by omega,List.take_set]
 rw[aa4 e];by_cases h:p < i
 ·have:(p+1)*k<=i*k:=abC _ h;rw[abx,aco]at this;rw[aeb,jz,List.take_set,List.set_eq_of_length_le (by grind)]
 have:(i+1)*k<=p*k:=abC _ (by omega);rw[abx,aco]at this;rw[aeb,YN]
theorem S8(h0:aZ.dd α=[]){n1:Nat}{l:List α}{v:aes}(h:Ow n1 m l v){i:Nat}{x:α}(hi:l[i]?=some x){T t0:TypeId}(hT:oO TE T t0 α):
  ∃b,(∀q,an TE T v (.int q i)=some (aeq b (0+i*aZ.sz α)))/\n1<=b/\(∃cs g,m.get b=.cells cs (aZ.ty α) g)/\b < m.n/\
   (∃cs,aZ.rep m x cs/\∀j,j < aZ.sz α->cellAt m ⟨b,0+i*aZ.sz α+j,none⟩=cs[j]?)/\
   ∀(k:Nat) (t:TypeId) (ti:TI) (y:α) (c:aes),TE.ty.get t=some ti->ti.size=1->cells c=[c]->one c->k < aZ.sz α->(∀cs,aZ.rep m x cs->∀m',aZ.rep m' y (cs.set k c))->
    ∀P:M->Nat->Prop,(∀m1,m1.n=m.n->Ow n1 m1 (l.set i y) v->(∀c,c≠b->m1.get c=m.get c)->P m1 b)->
    aR (aF TE m t (aeq b (0+i*aZ.sz α+k)) c) P:=by
 have b0:=(aa0.1 hi).1;rcases h with⟨_,rfl⟩ |⟨b,cs,rfl,h2,h3,h4,h5,h6⟩
 ·grind
 have⟨d0,te,t1,⟨e,t2⟩,t3,t4,t5,t6⟩:=hT;have g0:=aZ.pos (α:=α);have hmul:(i+1)*aZ.sz α<=l.length*aZ.sz α:=abC _ b0;rw[abx,aco]at hmul;refine⟨b,λq=>?_,h3,⟨cs,_,h4⟩,M.bk h4,⟨_,h6 i x hi,λj hj=>?_⟩,λk t ti y c ht i0 hc h1 hk hy P hP=>?_⟩
 ·have H:0<=(i:Int)/\(i:Int)< (l.length:Int)/\0 < d0.es:=⟨by omega,by omega,by omega⟩
  simp only[an,t1,t2];rw[aa5 H,bw rfl,t3];rfl
 ·rw[aL h4]
  unfold chunk
  grind
 refine bY ht h4 (by grind) (by grind) (by grind) λm1 hn hg e0=>?_;rw[hc]at hg
 have a0:cs.take (0+i*aZ.sz α+k)++([c]++cs.drop (0+i*aZ.sz α+k+ [c].length))=cs.set (i*aZ.sz α+k) c:=by rw[abA];exact kn (by omega)
 rw[a0]at hg;refine hP m1 hn (.inr ⟨b,_,by grind,by grind,h3,hg,by grind,λp z hz=>?_⟩) e0;rw[Kq hk];by_cases e:p=i
 ·grind
 rw[aa4 e];rw[List.getElem?_set_ne (Ne.symm e)]at hz;exact aZ.bs (h6 p z hz) λb c t g _ h=>by grind
end
end
end Go.Proofs.YtigpcbodmjjaiaaGreatDoor
namespace Go.D
open Go
section
section
variable {P:Program} {E:Env} {X:aM} {σ:Sg} {m m1:M} {w w':World} {f:Nat} {args:aet} {v:aes} {args':Array aes}
theorem Cl.calls(hE:E.OK P)(H:du P X)(hc:Cl E X (.func f) args m m.n v m1)(hs:fK P σ m w)(hl:bQ σ args args'.toList):
  CallsIn Fence.wide 0 P f args' w (gE P σ (m.wl m.n) w v (m1.wl m.n))/\(callFunc f args').run P w=.ok (.enter f args') w:=by have⟨hn,_,n0,h⟩:=hc;have h1:=h (n0+1) (by omega) m.n (aaV _);rw[adJ]at h1;exact rA hE H (mf hE H n0) h1 (hs.low m.n) hl
theorem gE.flat(hs:fK P σ m w)(hv:bI v){e:Ending}(h:gE P σ (m.wl m.n) w v (m1.wl m.n) e w'):gE P σ m w v m e w':=by obtain⟨v',σ',rfl,H,he⟩:=h;have:=H.bT hv;subst this;exact⟨_,σ,rfl,.flat _ hv,Ev.kept hs (λB hB=>he.heap B hB λb i hb _=>hs.rI b i hb) he.hle he.os he.tape he.output⟩
end
end
section
abbrev Yq:=Fn->aet->M->Option M
noncomputable section
variable (E:Env)
end
section
variable {E:Env} {P:Program} {call:aM} {pan:Yq} {nt:Nat} {σ σ':Sg} {m m':M} {w w':World} {a:Act} {iv:aes}
section
variable {ops:Array Oper} {p:Nat} {tr:Nat->Tr aes} {L:Nat->Prop} {ds:List Deferred}
end
end
end
section
section
variable {P:Program} {σ:Sg} {m m':M} {w w':World}
theorem jg(w:World)(dT sT ty elem:TypeId)(g o H b0:Nat)(a:Addr)(a0 d0:Nat)(cur:Array aes)(t:TypeId)(cs:aet){ei:TypeInfo}
  (hu:P.underlying dT=some (.slice elem)) (g0:P.info? elem=some ei)
  (hg:w.heap[g]?=some (.cells cur t (0,0))) (hn:cs.length=min a0 H*ei.size)
  (e0:∀j v,cs[j]?=some v->w.cell? (a.add j)=some v) (i0:o+cs.length<=cur.size) (h1:∀v∈cs,v.oneCell'):
  (Builtin.copy_ #[dT,sT] ty #[aer g o H b0,.slice (some a) a0 d0]).run P w=
   .ok (goInt (min a0 H:Nat)) (w.setRow g (cur.toList.take o++cs++cur.toList.drop (o+cs.length)).toArray):=by have hl:=run_loadCells_list (P:=P) w a cs e0;have h0:=run_storeCells_at P g o t cs 0 cur w hg (by grind) h1;have hm:Nat.min a0 H=min a0 H:=rfl;rw[hn]at hl;simp[Builtin.copy_,aa9 hu,Builtin.lenOf,Builtin.firstCells,sizeOf,typeInfo,g0,hm,hl,h0]
structure Ins where
 S:Nat
 k:Nat
 e:Nat
def vW(N:Ins):aM:=λfn args m=>
 match fn with
 |.func f=>
  bif Nat.beq f N.S then
   match args with
   |[.slice (some a) n c,.int .i64 i,.slice (some b) 1 1]=>
    match m.get a.block,m.get b.block with
    |.cells cs te (some k),.cells ds H none=>
     if(a.off=0/\a.spot=none/\b.off=0/\b.spot=none)/\(c=n/\cs.length=n*N.k/\ds.length=N.k/\k=N.k/\te=N.e/\H=N.e)/\(0<=i/\i < n/\n < 1000000/\a.block≠b.block)/\cs.all one=true/\ds.all one=true then
      some (.slice (some ⟨m.n,0,none⟩) (n+1) (n+1),(m.set a.block .dead).push (.cells (cs.take (i.toNat*N.k)++(ds++cs.drop (i.toNat*N.k))) N.e (some N.k)))
     else none
    |_,_=>none
   |_=>none
  else none
 |_=>none
structure SF(P:Program)(N:Ins):Prop where
 Wk:∀args w,(callFunc N.S args).run P w=.ok (.enter N.S args) w
 pos:0 < N.k
 go:∀(B V n i C:Nat) (row vrow:Array aes) (w:World),w.heap[B]?=some (.cells row N.e (0,0))->w.heap[V]?=some (.cells vrow N.e (0,0))->V≠B->i < n->n<=C->C*N.k<=row.size->vrow.size=N.k->n < 1000000->
  (∀u∈row.toList.take (n*N.k),u.oneCell'=true)->(∀u∈vrow.toList,u.oneCell'=true)->
  Calls P N.S #[.slice (some ⟨B,0,none⟩) n C,.int .i64 i,.slice (some ⟨V,0,none⟩) 1 1] w λe w'=>(w'.os=w.os/\w'.tape=w.tape/\w'.output=w.output)/\
   ((n+1<=C/\e=.returned (.slice (some ⟨B,0,none⟩) (n+1) C)/\w'.heap.size=w.heap.size/\(∀b,b≠B->w'.heap[b]?=w.heap[b]?)/\
     w'.heap[B]?=some (.cells (row.toList.take (i*N.k)++(vrow.toList++(row.toList.take (n*N.k)).drop (i*N.k))++row.toList.drop ((n+1)*N.k)).toArray N.e (0,0)))\/
    (∃(D:Nat) (rest:aet),n+1<=D/\rest.length=(D-(n+1))*N.k/\e=.returned (.slice (some ⟨w.heap.size,0,none⟩) (n+1) D)/\
     w'.heap=w.heap.push (.cells (row.toList.take (i*N.k)++(vrow.toList++(row.toList.take (n*N.k)).drop (i*N.k))++rest).toArray N.e (0,0))))
theorem Jy(N:Ins):mz (vW N):=λfn args m v m' h=>by
 unfold vW at h
 split at h
 ·rename_i f
  cases H:Nat.beq f N.S with
  |false=>rw[H]at h;cases h
  |true=>
   rw[H,cond_true]at h
   split at h
   ·split at h
    ·rename_i cs te k ds a0 hg hd
     split at h
     ·cases h
      exact(LK.Ag hg).trans LK.push
     ·cases h
    ·cases h
   ·cases h
 ·cases h
theorem QR{N:Ins}(h:SF P N):du P (vW N):=by
 refine⟨λf args m v m' hx σ w args' hs hl=>?_,λl args m v m' hx=>by simp[vW]at hx,Jy N⟩
 unfold vW at hx
 dsimp only at hx
 cases hf:Nat.beq f N.S with
 |false=>rw[hf]at hx;cases hx
 |true=>
  obtain rfl:=aba hf;rw[hf,cond_true]at hx;refine⟨?_,h.Wk args' w⟩;refine callsIn_wide.2 ?_;split at hx
  ·rename_i a n c i b;split at hx
   ·rename_i cs te k ds k1 hg hd;split at hx
    ·rename_i hc;obtain⟨⟨a0,a1,b0,b1⟩,⟨c1,c2,c3,rfl,rfl,rfl⟩,⟨i0,i1,i2,D0⟩,o1,o2⟩:=hc;have c1:=c1.symm;subst c1;cases hx;obtain⟨j,rfl⟩:∃j:Nat,i=j:=⟨i.toNat,by omega⟩
     have hj:j < n:=by omega
     have⟨x1,l1,n0,hv,E0⟩:=hl.cases;obtain⟨x2,l2,rfl,F0,G0⟩:=E0.cases;obtain⟨x3,l3,rfl,H0,I0⟩:=G0.cases;obtain rfl:=I0.nil_eq;have e2:=F0.bT rfl;subst e2;obtain⟨bi,a',c',k0,rfl,o0⟩:=hv.eG;obtain⟨bj,b',d',s0,rfl,l0⟩:=H0.eG;have⟨row,r1,r2,r3,r4⟩:=hs.cells k0 hg;have⟨H,s1,s2,s3,s4⟩:=hs.cells s0 hd;have⟨g1,g2,g3⟩:=r4;have⟨t1,t2⟩:=s4;have u0:=h.pos;have d0:m.get a.block≠.dead:=by rw[hg];simp
     have J0:bj.cX≠bi.cX:=λq=>D0 (hs.inj a.block b.block bi bj k0 s0 d0 (by rw[hd];simp) q.symm)
     have K0:a'=⟨bi.cX,0,none⟩/\n<=c'/\c'*N.k<=row.size/\(n+1<=c'->c'*N.k=row.size):=by
      rcases o0 with⟨L0,rfl,⟨v0,_⟩ |⟨k,sz,C,hk,hh⟩⟩ |⟨h0,_⟩;·rw[g1]at v0;cases v0
      ·rw[g1]at hk;obtain⟨rfl,rfl,rfl⟩:=hk;refine⟨by rw[a0],?_⟩;rcases hh with rfl |⟨q1,q2,q3⟩;·refine⟨aaV _,by omega,λq=>by omega⟩
       exact⟨q1,by omega,λ_=>by omega⟩
      omega
     obtain⟨rfl,N0,O0,P0⟩:=K0
     have y0:b'=⟨bj.cX,0,none⟩/\d'=1:=by
      rcases l0 with⟨L0,rfl,⟨_,rfl⟩ |⟨k,sz,C,hk,_⟩⟩ |⟨h0,_⟩;·exact⟨by rw[b0],rfl⟩
      ·rw[t1]at hk;cases hk
      omega
     obtain⟨rfl,rfl⟩:=y0;have p0:args'= #[aer bi.cX 0 n c',aev j,aer bj.cX 0 1 1]:=by apply ac7;rw[n0]
     subst p0;have S0:H.toList.take ds.length=H.toList:=abk (by simp;omega);rw[S0]at s3;rw[c2]at r3 r2 g1;have hmul:j*N.k<=n*N.k:=abC _ (by omega);have d1:(n+1)*N.k=n*N.k+N.k:=by rw[abx,aco]
     have g0:bQ σ (cs.take (j*N.k)++(ds++cs.drop (j*N.k))) (row.toList.take (j*N.k)++(H.toList++(row.toList.take (n*N.k)).drop (j*N.k))):=by have:=(r3.take (j*N.k)).append (s3.append (r3.drop (j*N.k)));rw[adz,ada hmul]at this;exact this
     have hlen:(cs.take (j*N.k)++(ds++cs.drop (j*N.k))).length=(n+1)*N.k:=by simp only[abq,abP,acq];omega
     refine(h.go bi.cX bj.cX n j c' row H w r1 s1 J0 hj N0 O0 (by omega) i2 (r3.ee o1) (s3.ee o2)).mono ?_;rintro en w2 ⟨⟨ho,ht,hu⟩,hh⟩;rcases hh with⟨j0,rfl,e1,z0,A0⟩ |⟨D,rest,hD,q0,rfl,r0⟩
     ·have B0:=P0 j0;have h1:(n+1)*N.k<=row.size:=by rw[<-B0];exact abC _ j0
      have e0:=g0.1;rw[hlen]at e0
      have m0:(row.toList.take (j*N.k)++(H.toList++(row.toList.take (n*N.k)).drop (j*N.k))++row.toList.drop ((n+1)*N.k)).toArray.size=row.size:=by rw[acF,abq,<-e0,acq,abI];omega
      have j1:=Ev.MJ (ob:=.cells (cs.take (j*N.k)++(ds++cs.drop (j*N.k))) N.e (some N.k)) (gr:=some (N.k,(n+1)*N.k,row.size)) (w':=w2) hs k0 d0
       ⟨_,A0,by rw[hlen,m0];exact h1,by rw[hlen,e0];simp only[adK];exact g0.mono (Sg.uA hs.kB),by rw[hlen,m0];exact⟨rfl,u0,by omega⟩⟩ z0 e1 ho ht hu
      refine⟨_,_,rfl,?_,j1⟩;exact .gX ⟨m.n,0,none⟩ ⟨bi.cX,some (N.k,(n+1)*N.k,row.size)⟩ _ _ _ N.k ((n+1)*N.k) row.size (Sg.add_same _ _) rfl rfl (.inr ⟨j0,by simp,by simp[B0]⟩)
     have hw:=Ev.write (w':=w) (ob:=.dead) hs k0 d0 trivial (λ_ _=>rfl) rfl rfl rfl rfl;obtain⟨g1,g2⟩:=AF (e:=N.e) (k:=N.k) (sl:=n+1) (n:=0) (N:=D) (rest:=rest) (news:=[]) (new':=[]) hw.tS g0 bQ.nil hlen (by simp) u0 (by omega) hD (by simpa using q0);simp only[abJ]at g1;have C0:=(hw.trans g1).trans (Ev.of_heap (w':=w2) g1.tS (by rw[r0];rfl) ho ht hu);exact⟨_,_,rfl,g2,C0⟩
    cases hx
   cases hx
  cases hx
end
end
end Go.D
namespace Go.Proofs
section
open Go.D Go.Shelf Go.RowKit Go.Lib
theorem pK{w:World}{B:Nat}{row:Array aes}{t:TypeId}(H:w.heap[B]?=some (.cells row t (0,0))){j:Nat}:w.cell? ⟨B,j,none⟩=row[j]?:=by simp[World.cell?,H]
theorem pW{w:World}{B:Nat}{row r:Array aes}{t:TypeId}(H:w.heap[B]?=some (.cells row t (0,0))):(w.setRow B r).heap[B]?=some (.cells r t (0,0)):=by simp[World.setRow,acY,H]
theorem pV{w:World}{B V:Nat}{r:Array aes}(h:V≠B):(w.setRow B r).heap[V]?=w.heap[V]?:=by
 simp only[World.setRow,acY]
 grind
theorem setRow_size{w:World}{B:Nat}{r:Array aes}:(w.setRow B r).heap.size=w.heap.size:=by simp_all
end
section
open Go.D Go.RowKit
end
end Go.Proofs
namespace Go.Proofs.YtigpcbodmjjaiaaGreatDoor
section
variable {X:aM} {m:M}
section
variable {α:Type} [aZ α]
theorem QQ(n0:aZ.dd α=[]){N:Ins}(hk:N.k=aZ.sz α)(he:N.e=aZ.ty α)(hX:∀args m,X (.func N.S) args m=vW N (.func N.S) args m){n1:Nat}{l:List α}{v:aes}(h:Ow n1 m l v){i bx:Nat}{x:α}{cs:aet}(hi:i < l.length)(hl:l.length < 1000000)
  (hx:m.get bx=.cells cs (aZ.ty α) none) (hr:aZ.rep m x cs) (i0:n1<=m.n):
  ∃rv m' b,C X (.func N.S) [v,aev i,aer bx 0 1 1] m b rv m'/\n1<=b/\Ow n1 m' (l.take i++x::l.drop i) rv/\m.n<=m'.n/\bF rv=false/\(∃k,rv=aer m.n 0 k k)/\(∀c,c < m.n->(∀a n k,v=.slice (some a) n k->c≠a.block)->m'.get c=m.get c):=by
 rcases h with⟨_,rfl⟩ |⟨b,row,rfl,h2,h3,h4,h5,h6⟩
 ·grind
 have o0:=M.bk h4;have j0:cs.length=aZ.sz α:=aZ.len hr;have k0:b≠bx:=by grind
 have d0:row.all one:=rG l.length row h5 λj H=>aZ.ee (h6 j _ (aaW H));have hmul:(i+1)*aZ.sz α<=l.length*aZ.sz α:=abC _ hi;rw[abx,aco]at hmul
 have e0:∀lw,X (.func N.S) [aer b 0 l.length l.length,aev i,aer bx 0 1 1] (m.wl lw)=
   some (aer m.n 0 (l.length+1) (l.length+1),(((m.wl m.n).set b .dead).push (.cells (row.take (i*aZ.sz α)++(cs++row.drop (i*aZ.sz α))) (aZ.ty α) (some (aZ.sz α)))).wl (min lw b)):=λlw=>by
  rw[hX]
  unfold vW
  dsimp only
  rw[ack,cond_true]
  show(match(m.wl lw).get b,(m.wl lw).get bx with |.cells cs te (some k),.cells ds p0 none=>_ |_,_=>none)=_
  rw[M.dY,M.dY,h4,hx]
  dsimp only
  rw[aa5 (by refine⟨⟨rfl,rfl,rfl,rfl⟩,⟨rfl,by grind,by grind,hk.symm,he.symm,he.symm⟩,⟨by omega,by omega,hl,k0⟩,d0,aZ.ee hr⟩)]
  rw[Int.toNat_natCast,hk,he]
  rfl
 have g0:∀c,c < m.n->c≠b->(((m.wl m.n).set b .dead).push (.cells (row.take (i*aZ.sz α)++(cs++row.drop (i*aZ.sz α))) (aZ.ty α) (some (aZ.sz α)))).get c=m.get c:=λc hc a0=>by rw[M.cB (by show c < m.n;exact hc),M.dz a0];rfl
 refine⟨_,_,b,Cl.FB (λlw _=>e0 lw) (by show m.n<=m.n+1;omega) (by omega),h3,?_,by show m.n<=m.n+1;omega,rfl,⟨_,rfl⟩,λc hc a0=>g0 c hc (a0 _ _ _ rfl)⟩;have b0:(row.take (i*aZ.sz α)).length=i*aZ.sz α:=by grind
 refine .inr ⟨m.n,_,?_,by grind,i0,M.aY (m:=(m.wl m.n).set b .dead),?_,λj z H=>?_⟩
 ·grind
 ·simp only[abq,abe,abP,acq,j0,h5];rw[show min i l.length+(l.length-i+1)=l.length+1 by omega,abx,aco];omega
 have m0:∀z c,aZ.rep m z c->aZ.rep (α:=α) (((m.wl m.n).set b .dead).push (.cells (row.take (i*aZ.sz α)++(cs++row.drop (i*aZ.sz α))) (aZ.ty α) (some (aZ.sz α)))) z c:=λz c hz=>aZ.bs hz λb c t g _ h=>by grind
 have l0:(l.take i).length=i:=by grind
 by_cases h1:j < i
 ·rw[eO (n:=i) b0 h1]
  rw[acB (by omega),acb h1]at H
  have:chunk (row.take (i*aZ.sz α)) (aZ.sz α) j=chunk row (aZ.sz α) j:=by
   conv=>rhs;rw[<-abW (i*aZ.sz α) row]
   rw[eO (n:=i) b0 h1]
  grind
 rw[fg (n:=i) b0 (by omega)];rw[acj (by omega),l0]at H;by_cases h0:j=i
 ·subst h0
  rw[aeo]at H⊢
  cases H
  have:chunk (cs++row.drop (j*aZ.sz α)) (aZ.sz α) 0=cs:=by
   rw[eO (n:=1) (by omega) (by omega)]
   unfold chunk
   grind
  grind
 ·obtain⟨d,hd⟩:∃d,j-i=d+1:=⟨j-i-1,by omega⟩
  rw[hd]at H⊢
  rw[aaX,ab0]at H
  rw[fg (n:=1) (by omega) (by omega)]
  have:chunk (row.drop (i*aZ.sz α)) (aZ.sz α) (d+1-1)=chunk row (aZ.sz α) (i+d):=by unfold chunk;rw[acE,Nat.add_sub_cancel,abx]
  grind
end
section
variable {α:Type} [aZ α]
end
section
variable {α:Type} [aZ α]
end
section
variable {S:Nat} {r v:aes} {g:Option Nat}
end
theorem Qq{r:aes}(h:one r):(cells (.agg #[r])).all one:=by show(one r && true)=true;rw[h];rfl
abbrev Ac.c(a:Ac)(w:aes):aet:=[.int .i64 a.kind,.int .i64 a.un.id,.int .i64 a.un.kind,.int .i64 a.un.dA,w,.int .i64 a.un.back,.int .i64 a.un.front,.int .i64 a.id,.int .i64 a.i,.int .i64 a.k,.int .i64 a.zB.id,.int .i64 a.zB.un,.int .i64 a.zB.side,.int .i64 a.zB.kind,.bool a.zB.KG]
abbrev Ac.v(a:Ac)(w:aes):aes:=.agg (a.c w).toArray
section
variable {b:Nat} {a:Ac} {w:aes} {g:Option Nat}
theorem Pp(h:m.get b=.cells (a.c w) 184 g):ah TE m 60 (aeq b (0+1))=some (a.un.v w):=by rw[qg,aP (n:=6) h (by simp_all)];rfl
theorem Pq(h:m.get b=.cells (a.c w) 184 g):ah TE m 137 (aeq b (0+10))=some a.zB.v:=by rw[DG,aP (n:=5) h (by simp_all)];rfl
theorem Yi(h:m.get b=.cells (a.c w) 184 g):
  ah TE m 3 (aeq b (0+0))=some (aev a.kind)/\ah TE m 3 (aeq b (0+7))=some (aev a.id)/\ah TE m 3 (aeq b (0+8))=some (aev a.i)/\
  ah TE m 3 (aeq b (0+9))=some (aev a.k)/\ah TE m 3 (aeq b (0+10+0))=some (aev a.zB.id)/\ah TE m 3 (aeq b (0+1+0))=some (aev a.un.id):=by refine⟨?_,?_,?_,?_,?_,?_⟩ <;>(rw[bO,aL h];rfl)
end
section
variable {n1 S:Nat} {l:List UW} {ms:List Mk} {r v w:aes} {a:Ac}
end
section
variable {n1 S:Nat} {l:List UW} {ms:List Mk} {r v w:aes} {a:Ac}
end
section
variable {n1 S:Nat} {l:List UW} {ms:List Mk} {r v w:aes} {a:Ac}
end
theorem VD{x:Mk}:aC TE .eql 137 x.v (Mk.v ⟨0,0,0,0,false⟩)=some (.bool (vM x)):=by
 have e:aC TE .eql 137 x.v (Mk.v ⟨0,0,0,0,false⟩)=some (.bool ((x.id==0) && ((x.un==0) && ((x.side==0) && ((x.kind==0) && ((x.KG==false) && true)))))):=by kernel_rfl
 rw[e]
 unfold vM
 congr 2
 have⟨a,b,c,d,e⟩:=x
 grind
theorem eM(hX:cy X)(n lo hi:Int):C X (.func 301) [aev n,aev lo,aev hi] m m.n (.bool (cW n lo hi)) m:=by
 refine Cl.fl hX (aaU func301) ?_;rw[Y8];dsimp only[η];refine bA (λvs m2 H=>vs=[.bool (cW n lo hi)]/\m.n<=H) (λR hR=>?_) ?_
 ·simp only[cE,cO,ae,ak];refine av (λh=>hR _ _ _ ⟨by simp[cW,h],aaV _⟩) (λh=>hR _ _ _ ⟨by simp[cW,h],aaV _⟩)
 rintro _ m2 H ⟨rfl,hl⟩;rw[aE];exact⟨rfl,hl⟩
theorem Ax(hX:cy X)(x:Mk):C X (.func 224) [x.v] m m.n (.bool (Aw x)) m:=by
 refine Cl.fl hX (aaU func224) ?_;rw[Zq];dsimp only[δ,ε,ρ,υ,χ,ψ,Γ,Δ,ω];refine aw λm1 b0 H d0=>?_;have H:m1.get m.n=.cells x.c 137 none:=H;obtain⟨l0,l1,l2,l3, -⟩:=CE H;unfold ptrTo;refine bA (λvs m' lo=>vs=[.bool (Aw x)]/\m.n<=lo) (λR hR=>?_) ?_
 ·rw[cg,ae,l0,ae];refine aH (eM hX _ _ _) ?_;rw[ak];refine av (λc1=>?_) (λc1=>hR _ _ _ ⟨by unfold Aw;rw[c1];rfl,by omega⟩);rw[dq,ae,l1,ae];refine aH (eM hX _ _ _) ?_;rw[ak];refine av (λc2=>?_) (λc2=>hR _ _ _ ⟨by unfold Aw;rw[c1,c2];rfl,by omega⟩);rw[eH,ae,l2,ae];refine aH (eM hX _ _ _) ?_;rw[ak];refine av (λc3=>?_) (λc3=>hR _ _ _ ⟨by unfold Aw;rw[c1,c2,c3];rfl,by omega⟩);rw[jU,ae,l3,ae];refine aH (eM hX _ _ _) ?_;exact hR _ _ _ ⟨by unfold Aw;rw[c1,c2,c3];rfl,by omega⟩
 rintro _ m' lo ⟨rfl,a0⟩;rw[aE];exact⟨rfl,a0⟩
theorem zX(hX:cy X){u:Un}{w:aes}(hw:Sl m u.shape w):C X (.func 302) [u.v w] m m.n (.bool (eS u)) m:=by
 refine Cl.fl hX (aaU func302) ?_;rw[Y7];dsimp only[δ,ε,η,κ,ρ,υ,χ];refine aw λm1 g0 H a0=>?_;have H:m1.get m.n=.cells (u.c w) 60 none:=H;have b0:=hw.aG (m':=m1) ⟨by omega,a0⟩;obtain⟨-,l1,l2,l3,l4,l5⟩:=kb H;unfold ptrTo;refine bA (λvs m' lo=>vs=[.bool (eS u)]/\m.n<=lo) (λR hR=>?_) ?_
 ·simp only[cS,cR,bL,cQ,cP,ae,l1,l2,l3,l4,l5,b0.len cF,aA,aW,ak]
  have d0:decide ((u.shape.length:Int)=0)=decide (u.shape=[]):=by
   simp_all
  refine av (λc1=>?_) (λc1=>hR _ _ _ ⟨by unfold eS;rw[c1];rfl,by omega⟩);refine av (λc2=>?_) (λc2=>hR _ _ _ ⟨by unfold eS;rw[c1,c2];rfl,by omega⟩);rw[d0];refine av (λc3=>?_) (λc3=>hR _ _ _ ⟨by unfold eS;rw[c1,c2,c3];rfl,by omega⟩);refine av (λc4=>?_) (λc4=>hR _ _ _ ⟨by unfold eS;rw[c1,c2,c3,c4];rfl,by omega⟩);exact hR _ _ _ ⟨by unfold eS;rw[c1,c2,c3,c4];rfl,by omega⟩
 rintro _ m' lo ⟨rfl,e0⟩;rw[aE];exact⟨rfl,e0⟩
def pg(a:Ac):Bool:=eS a.un && decide (a.un.id=0)
def mH(a:Ac):Bool:=decide (a.i=0) && decide (a.k=0)
section
variable {a:Ac}
theorem Rg(hk:a.kind=1):eC a=(jF a.un && (decide (a.id=0) && (mH a && vM a.zB))):=by
 unfold eC nu mH
 grind
theorem Rf(hk:a.kind=2):eC a=(cW a.id 0 99 && (pg a && (mH a && vM a.zB))):=by
 unfold eC nu mH pg tZ
 grind
theorem Re(hk:a.kind=3):eC a=(cW a.id 0 99 && (eS a.un && (cW a.un.id 0 99 && (!decide (a.un.id=a.id) && (cW a.i 0 7 && (cW a.k 0 7 && (!decide (a.i=a.k) && vM a.zB))))))):=by
 unfold eC nu
 grind
theorem Rc(hk:a.kind=4):eC a=(cW a.id 0 99 && (pg a && (cW a.i (-40) 40 && (cW a.k (-40) 40 && (!mH a && vM a.zB))))):=by
 unfold eC nu mH pg
 grind
theorem Rb(hk:a.kind=5):eC a=(Aw a.zB && (decide (a.id=0) && (pg a && mH a))):=by
 unfold eC nu mH pg tZ
 grind
theorem HF(hk:a.kind=6\/a.kind=7):eC a=(cW a.id 0 99 && (pg a && (mH a && vM a.zB))):=by
 unfold eC nu mH pg tZ
 grind
theorem Rh(h:¬a.kind=1/\¬a.kind=2/\¬a.kind=3/\¬a.kind=4/\¬a.kind=5/\¬a.kind=6/\¬a.kind=7):eC a=false:=by
 unfold eC nu
 grind
end
theorem DY(hX:cy X){a:Ac}{w:aes}(hw:Sl m a.un.shape w)(hl:a.un.shape.length < 4611686018427387904):C X (.func 227) [a.v w] m m.n (.bool (eC a)) m:=by
 refine Cl.fl hX (aaU func227) ?_;rw[Zn];dsimp only[aO,aaF,aaG,aaI,aaJ,aaO,aaP,aaR,aaS,aaT,Γ,Δ,Θ,ω];refine aw λm1 k0 h0 i0=>?_;have g1:m1.get m.n=.cells (a.c w) 184 none:=h0;have g0:=hw.aG (m':=m1) ⟨by omega,i0⟩;obtain⟨fk,b0,fi,e0, -,d0⟩:=Yi g1;have fU:=Pp g1;have fM:=Pq g1;unfold ptrTo;refine bA (λvs mm lo=>vs=[.bool (pg a)]/\m1=mm/\lo=m.n) (λR H=>?_) ?_
 ·rw[jR,ae,fU,ae];refine aH (zX hX g0) ?_;rw[ak];refine av (λc=>?_) (λc=>H _ _ _ ⟨by unfold pg;rw[c];rfl,rfl,by omega⟩);rw[ae,bD,ae,d0,ae,aW,ae];exact H _ _ _ ⟨by unfold pg;rw[c];rfl,rfl,by omega⟩
 rintro _ _ _ ⟨rfl,rfl,rfl⟩;rw[aE];refine bA (λvs mm lo=>vs=[.bool (mH a)]/\m1=mm/\lo=m.n) (λR H=>?_) ?_
 ·rw[oA,ae,fi,ae,aW,ae,ak];refine av (λc=>?_) (λc=>H _ _ _ ⟨by unfold mH;rw[c];rfl,rfl,rfl⟩);rw[oz,ae,e0,ae,aW,ae];exact H _ _ _ ⟨by unfold mH;rw[c];rfl,rfl,rfl⟩
 rintro _ _ _ ⟨rfl,rfl,rfl⟩;have j0:aK TE 137 []=some (Mk.v ⟨0,0,0,0,false⟩):=Gj;rw[aE];simp only[jS,jR,jQ,oA,oz,oy,bD,ae];rw[fM,ae,j0,ae,VD,ae,fk,ae];have done:∀{lo:Nat} {b:Bool},m.n<=lo->b=eC a->bz [Value.bool b]=Value.bool (eC a)/\m.n<=lo:=λa0 e=>⟨by rw[e];rfl,a0⟩
 rw[aW,ae,ak];refine av (λk1=>?_) (λk1=>?_)
 ·have hf:=Rg (aa1 k1);refine bA (λvs mm lo=>vs=[.bool (eC a)]/\m.n<=lo) (λR H=>?_) (by rintro _ mm lo ⟨rfl,a0⟩;rw[aE];exact done a0 rfl);rw[hf]at H;rw[fU,ae];refine aH (iP hX g0 hl) ?_;rw[ak];refine av (λc1=>?_) (λc1=>H _ _ _ ⟨by grind,by omega⟩);rw[b0,ae,aW,ae,ak];refine av (λc2=>?_) (λc2=>H _ _ _ ⟨by grind,by omega⟩);rw[ak];refine av (λc3=>?_) (λc3=>H _ _ _ ⟨by grind,by omega⟩);exact H _ _ _ ⟨by grind,by omega⟩
 have k1:=aaZ k1;rw[aW,ae,ak];refine av (λk2=>?_) (λk2=>?_)
 ·have hf:=Rf (aa1 k2);refine bA (λvs mm lo=>vs=[.bool (eC a)]/\m.n<=lo) (λR H=>?_) (by rintro _ mm lo ⟨rfl,a0⟩;rw[aE];exact done a0 rfl);rw[hf]at H;rw[b0,ae];refine aH (eM hX _ _ _) ?_;rw[ak];refine av (λc1=>?_) (λc1=>H _ _ _ ⟨by grind,by omega⟩);rw[ak];refine av (λc2=>?_) (λc2=>H _ _ _ ⟨by grind,by omega⟩);rw[ak];refine av (λc3=>?_) (λc3=>H _ _ _ ⟨by grind,by omega⟩);exact H _ _ _ ⟨by grind,by omega⟩
 have k2:=aaZ k2;rw[aW,ae,ak];refine av (λk3=>?_) (λk3=>?_)
 ·have hf:=Re (aa1 k3);refine bA (λvs mm lo=>vs=[.bool (eC a)]/\m.n<=lo) (λR H=>?_) (by rintro _ mm lo ⟨rfl,a0⟩;rw[aE];exact done a0 rfl);rw[hf]at H;rw[b0,ae];refine aH (eM hX _ _ _) ?_;rw[ak];refine av (λc1=>?_) (λc1=>H _ _ _ ⟨by grind,by omega⟩);rw[fU,ae];refine aH (zX hX g0) ?_;rw[ak];refine av (λc2=>?_) (λc2=>H _ _ _ ⟨by grind,by omega⟩);rw[d0,ae];refine aH (eM hX _ _ _) ?_;rw[ak];refine av (λc3=>?_) (λc3=>H _ _ _ ⟨by grind,by omega⟩);rw[d0,ae,b0,ae,bZ,ae,ak];refine av (λc4=>?_) (λc4=>H _ _ _ ⟨by grind,by omega⟩);rw[fi,ae];refine aH (eM hX _ _ _) ?_;rw[ak];refine av (λc5=>?_) (λc5=>H _ _ _ ⟨by grind,by omega⟩);rw[e0,ae];refine aH (eM hX _ _ _) ?_;rw[ak];refine av (λc6=>?_) (λc6=>H _ _ _ ⟨by grind,by omega⟩)
  rw[fi,ae,e0,ae,bZ,ae,ak];refine av (λc7=>?_) (λc7=>H _ _ _ ⟨by grind,by omega⟩);exact H _ _ _ ⟨by grind,by omega⟩
 have k3:=aaZ k3;rw[aW,ae,ak];refine av (λk4=>?_) (λk4=>?_)
 ·have hf:=Rc (aa1 k4);refine bA (λvs mm lo=>vs=[.bool (eC a)]/\m.n<=lo) (λR H=>?_) (by rintro _ mm lo ⟨rfl,a0⟩;rw[aE];exact done a0 rfl);rw[hf]at H;rw[b0,ae];refine aH (eM hX _ _ _) ?_;rw[ak];refine av (λc1=>?_) (λc1=>H _ _ _ ⟨by grind,by omega⟩);rw[ak];refine av (λc2=>?_) (λc2=>H _ _ _ ⟨by grind,by omega⟩);rw[fi,ae];refine aH (eM hX _ _ _) ?_;rw[ak];refine av (λc3=>?_) (λc3=>H _ _ _ ⟨by grind,by omega⟩);rw[e0,ae];refine aH (eM hX _ _ _) ?_;rw[ak];refine av (λc4=>?_) (λc4=>H _ _ _ ⟨by grind,by omega⟩);rw[bE,ae,ak];refine av (λc5=>?_) (λc5=>H _ _ _ ⟨by grind,by omega⟩);exact H _ _ _ ⟨by grind,by omega⟩
 have k4:=aaZ k4;rw[aW,ae,ak];refine av (λk5=>?_) (λk5=>?_)
 ·have hf:=Rb (aa1 k5);refine bA (λvs mm lo=>vs=[.bool (eC a)]/\m.n<=lo) (λR H=>?_) (by rintro _ mm lo ⟨rfl,a0⟩;rw[aE];exact done a0 rfl);rw[hf]at H;rw[ae];refine aH (Ax hX _) ?_;rw[ak];refine av (λc1=>?_) (λc1=>H _ _ _ ⟨by grind,by omega⟩);rw[b0,ae,aW,ae,ak];refine av (λc2=>?_) (λc2=>H _ _ _ ⟨by grind,by omega⟩);rw[ak];refine av (λc3=>?_) (λc3=>H _ _ _ ⟨by grind,by omega⟩);exact H _ _ _ ⟨by grind,by omega⟩
 have k5:=aaZ k5;rw[aW,ae,ak];refine av (λk6=>?_) (λk6=>?_)
 ·have hf:=HF (.inl (aa1 k6));rw[ak,k6,bH];refine bA (λvs mm lo=>vs=[.bool (eC a)]/\m.n<=lo) (λR H=>?_) (by rintro _ mm lo ⟨rfl,a0⟩;rw[aE];exact done a0 rfl);rw[hf]at H;rw[b0,ae];refine aH (eM hX _ _ _) ?_;rw[ak];refine av (λc1=>?_) (λc1=>H _ _ _ ⟨by grind,by omega⟩);rw[ak];refine av (λc2=>?_) (λc2=>H _ _ _ ⟨by grind,by omega⟩);rw[ak];refine av (λc3=>?_) (λc3=>H _ _ _ ⟨by grind,by omega⟩);exact H _ _ _ ⟨by grind,by omega⟩
 have k6:=aaZ k6;rw[aW,ae,ak];refine av (λk7=>?_) (λk7=>?_)
 ·have hf:=HF (.inr (aa1 k7));refine bA (λvs mm lo=>vs=[.bool (eC a)]/\m.n<=lo) (λR H=>?_) (by rintro _ mm lo ⟨rfl,a0⟩;rw[aE];exact done a0 rfl);rw[hf]at H;rw[b0,ae];refine aH (eM hX _ _ _) ?_;rw[ak];refine av (λc1=>?_) (λc1=>H _ _ _ ⟨by grind,by omega⟩);rw[ak];refine av (λc2=>?_) (λc2=>H _ _ _ ⟨by grind,by omega⟩);rw[ak];refine av (λc3=>?_) (λc3=>H _ _ _ ⟨by grind,by omega⟩);exact H _ _ _ ⟨by grind,by omega⟩
 have k7:=aaZ k7;exact done (by omega) (Rh ⟨k1,k2,k3,k4,k5,k6,k7⟩).symm
theorem kj{mm:M}{b:Nat}{v vm:aes}{g:Option Nat}(h:mm.get b=.cells [v,vm] 33 g):
  ah TE mm 30 (aeq b (0+0))=some (.agg #[v])/\ah TE mm 28 (aeq b (0+0+0))=some v/\ah TE mm 31 (aeq b (0+1))=some vm/\ah TE mm 33 (aeq b 0)=some (.agg #[v,vm]):=by
 refine⟨?_,?_,?_,?_⟩;·rw[ew,aP (n:=1) h (by grind)];rfl
 ·rw[ez,aL h];rfl
 ·rw[lU,aL h];rfl
 rw[jj,aP (n:=2) h (by grind)];rfl
def Sh(x:Mk)(u:Un):Bool:=decide (u.id=x.un) && decide (x.side < (u.shape.length:Int))
theorem He{us:List Un}{x:Mk}:us.any (Sh x)↔∃u∈us,u.id=x.un/\x.side < u.shape.length:=by rw[ab8];constructor <;>rintro⟨u,hu,h⟩ <;>refine⟨u,hu,?_⟩ <;>simpa[Sh]using h
theorem V3{ms:List Mk}(h:∀j x y,ms[j]?=some x->ms[j+1]?=some y->x.id < y.id):ms.Pairwise λa b=>a.id < b.id:=by
 have key:∀d i x y,ms[i]?=some x->ms[i+d+1]?=some y->x.id < y.id:=by
  intro d
  induction d with
  |zero=>intro i x y H hy;exact h i x y H hy
  |succ d ih=>
   grind
 rw[abw]
 intro i j hi hj a0
 refine key (j-i-1) i _ _ (aaW hi) ?_
 grind
open Classical in
theorem ur{us:List Un}{ms:List Mk}(h:¬im us ms):iD us ms=false:=by unfold iD;exact abt h
open Classical in
theorem fT{us:List Un}{ms:List Mk}:iD us ms=true↔im us ms:=by unfold iD;exact decide_eq_true_iff
theorem kO(hX:cy X){l:List UW}{v vm:aes}{ms:List Mk}(h:cY m l v)(hlen:l.length < 1000)(hm:Sl m ms vm)(E1:ms.length < 4611686018427387904):
  C X (.func 176) [.agg #[v,vm]] m m.n (.bool (fJ (bR l) && iD (bR l) ms)) m:=by
 refine Cl.fl hX (aaU func176) ?_;rw[ZR];dsimp only[δ,ε,ζ,η,ι,κ,ο,ρ,ς,υ,χ,ψ,ω];refine aw λm1 F1 P0 S0=>?_;have g1:m1.get m.n=.cells [v,vm] 33 none:=P0;have k0:Ext m m1:=⟨by omega,S0⟩
 unfold ptrTo;simp only[cd,cL,bN,ae];obtain⟨s0,s1,s2, -⟩:=kj g1;have no:∀{lo:Nat} {b:Bool},m.n<=lo->b=(fJ (bR l) && iD (bR l) ms)->bz [Value.bool b]=Value.bool (fJ (bR l) && iD (bR l) ms)/\m.n<=lo:=λp0 e=>⟨by rw[e];rfl,p0⟩
 refine bA (λvs mm lo=>vs=[.bool (!(fJ (bR l) && decide (ms.length<=20)))]/\m1=mm/\lo=m.n) (λR hR=>?_) ?_
 ·rw[s0,ae];refine aH (kP hX (h.aG k0) (by omega)) ?_;rw[bE,ae,ak];refine av (λc=>hR _ _ _ ⟨?_,rfl,by omega⟩) (λc=>?_)
  ·rw[abo]at c;rw[c];rfl
  rw[abj]at c;rw[s2,ae,(hm.aG k0).len dQ,aA,bX,ae];refine hR _ _ _ ⟨?_,rfl,by omega⟩;rw[c,abG];by_cases e:ms.length<=20;·rw[abb e,tg];rfl
  rw[abt e,VF];rfl
 rintro _ _ _ ⟨rfl,rfl,rfl⟩;rw[aE,ak];refine av (λc=>no (aaV _) ?_) (λc=>?_)
 ·rw[abo,Bool.and_eq_false_iff]at c;rcases c with c |c;·rw[c];rfl
  have:¬ms.length<=20:=aaZ c;rw[ur λhM=>this hM.len,ady]
 rw[abj,aa3]at c;have C0:=c.1;have a1:ms.length<=20:=aa1 c.2;rw[C0,abG]at no⊢;refine Lp.intro (γ:=Nat) (λi=>ms.length-i) (λi vs mm lo=>vs=[aey,aev i]/\i<=ms.length/\Ext m1 mm/\m.n<=lo/\(∀j x,j < i->ms[j]?=some x->Aw x/\(bR l).any (Sh x))/\∀j x y,j+1 < i->ms[j]?=some x->ms[j+1]?=some y->x.id < y.id) 0 ⟨rfl,aa6 _,.refl,aaV _,λj x hj=>by omega,λj x y hj=>by omega⟩ ?_;rintro i vs mm lo ⟨rfl,hi,l0,p0,q0,m0⟩;have nm:=l0.n;obtain⟨G1,H1,b1, -⟩:=kj (l0.cells g1);have r0:=(hm.aG k0).aG l0;rw[aE,aE,b1,ae,r0.len dQ,aA,aQ,ae,ak];refine av (λv0=>?_) (λc1=>?_)
 ·have v0:i < ms.length:=by grind
  obtain⟨x,hx⟩:∃x,ms[i]?=some x:=⟨_,aaW v0⟩
  have⟨p,e1,e2⟩:=r0.vN (k:=.i64) hx;rw[ae,e1,ae,e2,ae];refine aw λI1 o1 D0 p1=>?_;refine aD tI D0 rfl rfl rfl λe0 r1 E0 u1=>?_;have F0:e0.get mm.n=.cells x.c 137 none:=E0;have g0:Ext mm e0:=⟨by omega,by grind⟩
  have n35:=g0.n;have⟨x0,x1,x2,x3,xv⟩:=CE F0;have a0:=l0.trans g0;simp only[cg,dq,eH,ae]
  have bad:∀{j:Nat} {y:Mk},i=j+1->ms[j]?=some y->x.id<=y.id->¬im (bR l) ms:=λy0 hy hle hM=>by subst y0;have:=abw.1 hM.uS _ _ (aa0.1 hy).1 v0 (by omega);rw[(aa0.1 hy).2,(aa0.1 hx).2]at this;omega
  refine bA (λvs m' z0=>(vs=[aex]/\¬im (bR l) ms\/vs=[aey]/\Aw x/\∀j y,i=j+1->ms[j]?=some y->y.id < x.id)/\e0=m'/\m.n<=z0) (λR hR=>?_) ?_
  ·rw[xv,ae];refine aH (Ax hX x) ?_;rw[bE,ae,ak];refine av (λc=>hR _ _ _ ⟨.inl ⟨rfl,λhM=>?_⟩,rfl,by omega⟩) (λc=>?_);·rw[hM.ok x (aa2 hx)]at c;cases c
   rw[abj]at c;rw[bX,ae,ak];refine av (λc0=>?_) (λc0=>hR _ _ _ ⟨.inr ⟨rfl,c,λj y y0=>?_⟩,rfl,by omega⟩)
   ·obtain⟨j,rfl⟩:∃j,i=j+1:=⟨i-1,by grind⟩
    obtain⟨y,hy⟩:∃y,ms[j]?=some y:=⟨_,qz⟩
    have⟨b0,o0,bc,gg,cs,q1,d1,A0,_,h1⟩:=(r0.aG g0).gM dQ (k:=.i64) hy;have A0:cs=y.c:=A0;subst A0;rw[x0,ae,(kj (a0.cells g1)).2.2.1,ae,dJ,ae,wrap64,show(((j+1:Nat):Int)-1)=(j:Int) by omega,q1,ae,cg,ae,show ah TE e0 3 (aeq b0 (o0+0))=some (aev y.id) by rw[bO,aL d1,h1 0 (by decide)];rfl,ae,cE,ae];by_cases hle:x.id<=y.id
    ·rw[abb hle];exact hR _ _ _ ⟨.inl ⟨rfl,bad rfl hy hle⟩,rfl,by omega⟩
    rw[abt hle];refine hR _ _ _ ⟨.inr ⟨rfl,c,λj' y' y0 G0=>?_⟩,rfl,by omega⟩;obtain rfl:j=j':=by omega
    rw[hy]at G0;cases G0;omega
   have:¬(0:Int)< (i:Int):=aaZ c0;omega
  rintro _ _ v1 ⟨h |⟨rfl,i1,B0⟩,rfl,h0⟩
  ·obtain⟨rfl,j1⟩:=h;rw[aE,ak,bH];exact no h0 (ur j1).symm
  rw[aE,ak,aT];have H0:=(h.aG k0).aG a0;refine Lp.intro (γ:=Nat) (λk=>l.length-k) (λk vs m' z0=>vs=[.bool (((bR l).take k).any (Sh x)),aev k]/\k<=l.length/\Ext e0 m'/\m.n<=z0) 0 ⟨rfl,aa6 _,.refl,h0⟩ ?_;rintro k vs I0 w1 ⟨rfl,hk,H,i0⟩;have n60:=H.n;have j0:=H0.aG H;rw[aE,aE,(kj (H.cells (a0.cells g1))).2.1,ae,j0.sl.len dt,aA,aQ,ae,ak];refine av (λz1=>?_) (λJ0=>?_)
  ·have K0:k < l.length:=by grind
   obtain⟨u,hu⟩:∃u,l[k]?=some u:=⟨_,aaW K0⟩
   have⟨q,q1,q2,ou⟩:=j0.sl.fx (k:=.i64) hu;have J1:(bR l).take (k+1)=(bR l).take k++ [u.u]:=by rw[abg,iw hu];rfl
   rw[ae,q1,ae,q2,ae];refine aw λK1 A1 L0 B1=>?_;refine aD df L0 rfl rfl (Un.cM ou) λN0 C1 O0 D1=>?_;have k1:N0.get I0.n=.cells (u.u.c u.w) 60 none:=O0;have d0:Ext I0 N0:=⟨by omega,by grind⟩
   obtain⟨u0, -, -,u3, -, -⟩:=kb k1;obtain⟨-,y1,y2, -, -⟩:=CE ((H.trans d0).cells F0);rw[ak];refine av (λht=>?_) (λht=>?_)
   ·rw[aS,ae,wrap64];exact⟨k+1,by omega,by grind,by omega,H.trans d0,by omega⟩
   have n0:((bR l).take (k+1)).any (Sh x)=Sh x u.u:=by grind
   rw[bD,ae,u0,ae,y1,ae,aW,ae,ak];refine av (λe=>?_) (λe=>?_)
   ·rw[y2,ae,bL,ae,u3,ae,((j0.sh u (aa2 hu)).aG d0).len cF,aA,aQ,ae,aS,ae,wrap64];exact⟨k+1,by omega,by rw[n0];unfold Sh;rw[e,abG];rfl,by omega,H.trans d0,by omega⟩
   rw[aS,ae,wrap64];exact⟨k+1,by omega,by rw[n0];unfold Sh;rw[e,acQ];rfl,by omega,H.trans d0,by omega⟩
  have K0:k=l.length:=by have:¬(k:Int)< (l.length:Int):=aaZ J0;omega
  rw[abk (by rw[cI];omega),bE,ae,ak];refine av (λc=>no i0 ?_) (λc=>?_)
  ·rw[abo]at c;refine(ur λhM=>?_).symm;rw[He.2 (hM.un x (aa2 hx))]at c;cases c
  rw[abj]at c;rw[aS,ae,wrap64];refine⟨i+1,by omega,rfl,by omega,a0.trans H,i0,λj y hj hy=>?_,λj y z hj hy hz=>?_⟩
  ·by_cases e:j=i
   ·subst e;rw[hx]at hy;cases hy;exact⟨i1,c⟩
   exact q0 j y (by omega) hy
  by_cases e:j+1=i
  ·subst e;rw[hx]at hz;cases hz;exact B0 j y rfl hy
  exact m0 j y z (by omega) hy hz
 have l1:i=ms.length:=by have:¬(i:Int)< (ms.length:Int):=aaZ c1;omega
 subst l1;refine no p0 (fT.2 ⟨a1,V3 λj x y hx hy=>m0 j x y (aa0.1 hy).1 hx hy,λx hx=>?_,λx hx=>?_⟩).symm
 ·have⟨j,hj⟩:=abi hx;exact(q0 j x (aa0.1 hj).1 hj).1
 have⟨j,hj⟩:=abi hx;exact He.1 (q0 j x (aa0.1 hj).1 hj).2
end
theorem Zo{X:aM}{x0:aes}{m:M}{R:aet->M->Nat->Prop}:dU TE (aO TE X) f226 [x0] m R=ρ m x0 30 λa=>ς a [aew] 30 λb=>ς b [aew] 30 λc=>Lp (λc d f g=>un d λd _=>ε 30 (υ m) 0 λh=>δ f 28 h λh=>κ f .len [28] [h] λh _=>η .lss 3 d h λh=>aU h (ε 30 (υ b) 0 λa=>δ f 28 a λa=>ε 30 (υ m) 0 λh=>δ f 28 h λh=>ζ 28 h d λh=>δ f 60 h λh=>ψ X 219 [h] f λh i j=>(f.n<=j)/\(ν i 28 1 [(0,h)] λf h=>κ (M.wl h h.n) .append [28,28] [a,f] λa f=>ε 30 (υ b) 0 λb=>ι f 28 b a λa b=>η .add 3 d (χ 1) λd=>c [d] a (Γ g j (M.low f) b))) (δ f 30 (υ b) λb=>ι f 30 (υ a) b λb c=>aj (ah TE b 30 (υ a)) λa=>R [a] b (min g c))) [χ 0] c m.n:=by kernel_rfl
end Go.Proofs.YtigpcbodmjjaiaaGreatDoor
namespace Go.D
open Go
section
def wA(m:M)(b k:Nat):Prop:=(∃cs H g,m.get b=.cells cs H g/\(g=none\/g=some k))\/∃cs,m.get b=.ro cs
theorem wA.lt{m:M}{b k:Nat}(h:wA m b k):b < m.n:=by
 rcases aen b m.n with hl |H;·exact hl
 rcases h with⟨cs,te,g,h,_⟩ |⟨cs,h⟩;·rw[M.iW H]at h;cases h
 rw[M.iW H]at h;cases h
theorem wA.of{m m1:M}{b k:Nat}(h:wA m b k)(e:m1.get b=m.get b):wA m1 b k:=by
 unfold wA at h⊢
 grind
theorem wA.aG{m m1:M}{b k:Nat}(h:wA m b k)(he:Ext m m1):wA m1 b k:=h.of (he.get b h.lt)
section
variable {E:Env} {m:M} {T:TypeId} {ti:TI} {e:TypeId} {b n:Nat}
theorem IV(t1:E.ty.get T=some ti)(t2:ti.d=.slice e)(hk:0 < ti.es)(h:wA m b ti.es){o c i:Nat}(H:n<=c)(hi:i<=c):
  slice? E m T (aer b o n c) none (some (aev i)) none=some (aer b o i c):=by
 rcases h with⟨cs,te,g,h,hg⟩ |⟨cs,h⟩;·exact Ab t1 t2 hk h hg H hi
 ·have b1:fH n c none (some (aev i)) none=some (0,i,c):=by unfold fH;simp only[pP hi]
  have e1:Nat.beq ti.es 0=false:=by
   cases hb:Nat.beq ti.es 0 with
   |false=>rfl
   |true=>have:=aba hb;omega
  have e2:Nat.ble n c:=abO H
  have e0:(⟨b,o,none⟩:Addr).add (0*ti.es)=⟨b,o,none⟩:=by rw[bw rfl,acW];rfl
  simp only[slice?,t1,t2,b1,h,e1,e2,aca,ac6,abf,adu,e0]
  grind
end
section
variable {α:Type} [aZ α] {m m':M} {l:List α} {v:aes}
def Yv(m:M)(l:List α)(v:aes):Prop:=oG m l v/\∃b o c,v=.slice (some ⟨b,o,none⟩) l.length c/\l.length<=c/\wA m b (aZ.sz α)
theorem Yv.aG(h:Yv m l v)(he:Ext m m'):Yv m' l v:=by have⟨h1,b,o,c,H,h3,h4⟩:=h;exact⟨h1.aG he,b,o,c,H,h3,h4.aG he⟩
theorem oG.WQ(h:oG m l v)(hk:∀b,b < m.n->(∀cs t g,m.get b=.cells cs t g->t∈aZ.ty α::aZ.dd α)->m'.get b=m.get b)(ht:aZ.dd α=[]):oG m' l v:=by
 rcases h with h |h
 ·refine .inl (h.bs λb c t g H a0=>?_);rw[hk b (M.bk H) λcs t' g' b0=>by grind,H]
 rcases h with h |⟨b,o,c,bc,h1,h2,h4⟩;·exact .inr (.inl h)
 have d0:b < m.n:=wA.lt (k:=0) (.inr ⟨_,h2⟩);refine .inr (.inr ⟨b,o,c,bc,h1,by grind,λi x hi=>⟨(h4 i x hi).1,aZ.bs (h4 i x hi).2 λb c t g _ h=>by grind⟩⟩)
theorem oG.part{b o c:Nat}(h:oG m l (aer b o l.length c)){i k:Nat}(H:i+k<=l.length){c':Nat}:oG m ((l.drop i).take k) (aer b (o+i*aZ.sz α) k c'):=by
 have hlen:((l.drop i).take k).length=k:=by grind
 rcases h with h |h;·exact .inl (h.part H)
 rcases h with⟨h,_⟩ |⟨b',o',c1,bc,he,hb,a0⟩;·cases h
 ·cases he
  refine .inr (.inr ⟨b,_,c',bc,by rw[hlen],hb,λj x hj=>?_⟩)
  grind
end
end
section
section
variable {E:Env} {m:M} {T:TypeId} {α:Type} [aZ α]
theorem IW{ti:TI}{e te:TypeId}{b n k:Nat}{cs:aet}(t1:E.ty.get T=some ti)(t2:ti.d=.slice e)(t3:ti.es=k)(hk:0 < k)(h:m.get b=.cells cs te (some k)){i:Nat}(hi:i<=n):
  slice? E m T (aer b 0 n n) none (some (aev i)) (some (aev i))=some (aer b 0 i i):=by
 have H:fH n n none (some (aev i)) (some (aev i))=some (0,i,i):=by unfold fH;simp only[pP hi,pP (aaV i)]
 have e1:Nat.beq ti.es 0=false:=by
  cases hb:Nat.beq ti.es 0 with
  |false=>rfl
  |true=>have:=aba hb;omega
 have e2:Nat.ble n n:=abO (aaV _)
 have e3:Nat.beq k ti.es:=by simp_all
 simp only[slice?,t1,t2,H,h,e1,e2,e3,aca,ac6,abf,cond_true,adR,acQ,acL,adS]
 simp only[acW,Addr.add,acZ,adu]
 grind
theorem vP(hT:rH E T α){l ys:List α}{y:aes}{b o c:Nat}{bc:aet}{te:TypeId}{g:Option Nat}(h:m.get b=.cells bc te g)(hg:g=none\/(g=some (aZ.sz α)/\o+c*aZ.sz α < bc.length))
  (hl:Sl m l (aer b o l.length c)) (hy:Sl m ys y) (hc:c < l.length+ys.length) (hs:l.length+ys.length<=268435456):
  ∃v' m1,az E (m.wl m.n) .append [T,T] [aer b o l.length c,y]=some (v',m1)/\Ow m.n m1 (l++ys) v'/\Ext m m1/\m1.low=m.n:=by
 have⟨ti,ei,t1,t2,t3,t4,t5,t6⟩:=hT;have⟨news,e1,e2,e3,e4,e5⟩:=hy.first;have⟨eZ,_,f2,f3,f4,f5⟩:=hl.first;have g0:=aZ.pos (α:=α)
 have d0:(Nat.beq ti.es 0 ||Nat.blt 65536 ei.bytes || !news.all D.one ||Nat.blt 268435456 (l.length+ys.length) || !Nat.beq news.length (ys.length*ti.es) || !gj ei.zero ti.es)=false:=by
  have c1:Nat.beq ti.es 0=false:=by
   cases hb:Nat.beq ti.es 0 with
   |false=>rfl
   |true=>have:=aba hb;omega
  have c2:Nat.blt 65536 ei.bytes=false:=by
   cases hb:Nat.blt 65536 ei.bytes with
   |false=>rfl
   |true=>rw[acV]at hb;omega
  have c3:Nat.blt 268435456 (l.length+ys.length)=false:=by
   cases hb:Nat.blt 268435456 (l.length+ys.length)with
   |false=>rfl
   |true=>rw[acV]at hb;omega
  simp_all
 have H:first? (m.wl m.n) ti.es ys.length y=some news:=by rw[cV,t3];exact e2
 have a0:Nat.ble (l.length+ys.length) c=false:=by
  cases hb:Nat.ble (l.length+ys.length) c with
  |false=>rfl
  |true=>have:=abz hb;omega
 have hold:(bif Nat.beq l.length 0 then some []else loadCells (m.wl m.n) ⟨b,o,none⟩ (l.length*aZ.sz α))=some eZ:=by rw[cq];exact f2
 have g1:(g.isNone ||(g==some (aZ.sz α) && Nat.blt (o+c*aZ.sz α) bc.length)):=by
  simp_all
 have e0:(m.wl m.n).get b=.cells bc te g:=h;have hx:Ext m ((m.wl m.n).push (.cells (eZ++news) (aZ.ty α) (some (aZ.sz α)))):=⟨acv _,λc hc=>by rw[M.cB (m:=m.wl m.n) hc];rfl⟩
 refine⟨aer m.n 0 (l.length+ys.length) (l.length+ys.length),(m.wl m.n).push (.cells (eZ++news) (aZ.ty α) (some (aZ.sz α))),?_,?_,hx,rfl⟩
 ·simp only[az,dR,t1,e1,t2,t4,H];rw[d0,a0];simp only[abf,lX,t3];simp only[e0,hold,g1,cond_true];rfl
 refine .inr ⟨m.n,eZ++news,by grind,by grind,aaV _,M.aY (m:=m.wl m.n),by grind,λi x hi=>?_⟩;by_cases b0:i < l.length
 ·rw[acB b0]at hi;rw[eO f3 b0];exact aZ.aG (f5 i x hi) hx
 rw[acj (by omega)]at hi;rw[fg f3 (by omega)];exact aZ.aG (e5 _ x hi) hx
end
end
theorem append_nil{E:Env}{m:M}{T:TypeId}{α:Type}[aZ α](hT:rH E T α){a:Addr}{n c:Nat}(hn:n<=c)(hs:n<=268435456){y:aes}(hy:(∃a' c',y=.slice (some a') 0 c')\/y=aew):
  az E (m.wl m.n) .append [T,T] [.slice (some a) n c,y]=some (.slice (some a) n c,m.wl m.n):=by
 have⟨ti,ei,t1,t2,t3,t4,t5,t6⟩:=hT;have a0:=aZ.pos (α:=α);have hl:lW y=some 0:=by rcases hy with⟨a',c',rfl⟩ |rfl <;>rfl
 have hf:first? (m.wl m.n) ti.es 0 y=some []:=by rcases hy with⟨a',c',rfl⟩ |rfl <;>rfl
 have hc:(Nat.beq ti.es 0 ||Nat.blt 65536 ei.bytes || !([]:aet).all D.one ||Nat.blt 268435456 (n+0) || !Nat.beq ([]:aet).length (0*ti.es) || !gj ei.zero ti.es)=false:=by
  have c1:Nat.beq ti.es 0=false:=by
   cases H:Nat.beq ti.es 0 with
   |false=>rfl
   |true=>have:=aba H;omega
  have c2:Nat.blt 65536 ei.bytes=false:=by
   cases H:Nat.blt 65536 ei.bytes with
   |false=>rfl
   |true=>rw[acV]at H;omega
  have c3:Nat.blt 268435456 (n+0)=false:=by
   cases H:Nat.blt 268435456 (n+0)with
   |false=>rfl
   |true=>rw[acV]at H;omega
  simp_all
 simp only[az,dR,t1,hl,t2,t4,hf];rw[hc,abO (show n+0<=c by omega)];rfl
end Go.D
namespace Go.Proofs.YtigpcbodmjjaiaaGreatDoor
section
variable {X:aM} {m:M}
theorem mP{α:Type}[aZ α]{n1:Nat}{l:List α}{v:aes}(h:Ow n1 m l v)(H:l≠ []):∃b,v=aer b 0 l.length l.length/\n1<=b:=by
 rcases h with⟨_,h⟩ |⟨b,cs,h1,h2,h3,_⟩
 ·grind
 ·grind
theorem Vy{n1:Nat}{mm:M}{acc:List UW}{r:aes}(H:Ow n1 mm acc r)(hs:∀x∈acc,Sl mm x.u.shape x.w)(hl:∀x∈acc,x.u.shape.length < 1000000):cY mm acc r:=
 ⟨H.sl,hs,hl,by
  rcases H with⟨_,h⟩ |⟨b,cs,h1,h2,h3,h4,h5,h6⟩
  ·grind
  ·exact .inr ⟨b,0,_,cs,_,h1,aaV _,h4,.inr rfl⟩⟩
theorem Fa(hX:cy X){l:List UW}{v:aes}(h:cY m l v)(hlen:l.length < 1000):
  ∃acc r m',C X (.func 226) [.agg #[v]] m m.n (.agg #[r]) m'/\Ext m m'/\bR acc=bR l/\Ow m.n m' acc r/\(∀x∈acc,Sl m' x.u.shape x.w)/\∀x∈acc,x.u.shape.length < 1000000:=by
 refine Cl.ky hX (aaU func226) (R:=λrv m'=>Ext m m'/\∃acc r,rv=.agg #[r]/\bR acc=bR l/\Ow m.n m' acc r/\(∀x∈acc,Sl m' x.u.shape x.w)/\∀x∈acc,x.u.shape.length < 1000000) ?_ λrv m' hc ⟨hx,acc,r,e,hr⟩=>⟨acc,r,m',e ▸ hc,hx,hr⟩
 rw[Zo];dsimp only[δ,ε,ζ,η,ι,κ,ν,ρ,ς,υ,χ,ψ,Γ];refine aw λm1 s0 j0 u0=>?_;refine aw λm2 v0 y0 k0=>?_;refine aw λm3 z0 e0 l0=>?_;have A0:Ext m m3:=⟨by omega,by grind⟩
 have g1:m3.get m.n=.cells [v] 30 none:=by rw[l0 _ (by omega),k0 _ (by omega)];exact j0
 have g2:m3.get m1.n=.cells [aew] 30 none:=by grind
 obtain⟨oc,m0⟩:∃oc,oc=m2.n:=⟨_,rfl⟩
 rw[<-m0]at e0⊢;unfold ptrTo;have n0:∀m':M,m'.get m.n=.cells [v] 30 none->ah TE m' 28 (aeq m.n (0+0))=some v:=λm' h=>by rw[ez,aL h];rfl
 have o0:∀(m':M) acc r,EB oc m' acc r->ah TE m' 28 (aeq oc (0+0))=some r:=λm' acc r h=>by rw[ez,aL h.cell];rfl
 simp only[bN,ae];refine Lp.intro (γ:=Nat) (λi=>l.length-i) (λi vs mm lo=>∃(acc:List UW) (r:aes),vs=[aev i]/\i<=l.length/\EB oc mm acc r/\(∀c,c < oc->mm.get c=m3.get c)/\m.n<=lo/\m3.n<=mm.n/\bR acc=(bR l).take i/\acc.length<=i) 0 ⟨[],_,rfl,aa6 _,⟨e0,.nil,λx hx=>(by cases hx),λx hx=>(by cases hx)⟩,λc hc=>rfl,by omega,aaV _,rfl,aaV _⟩ ?_;rintro i vs mm B0 ⟨acc,r,rfl,hi,H,hk,C0,D0,a0,E0⟩;have gf:mm.get m.n=.cells [v] 30 none:=by grind
 have p0:Ext m mm:=⟨by omega,by grind⟩
 have hF:=h.aG p0;rw[aE,n0 mm gf,ae,hF.sl.len dt,aA,aQ,ae,ak];refine av (λg0=>?_) (λF0=>?_)
 ·have g0:i < l.length:=by grind
  obtain⟨x,hx⟩:∃x,l[i]?=some x:=⟨_,aaW g0⟩
  have b0:=aa2 hx;have q0:(bR l).take (i+1)=(bR l).take i++ [x.u]:=by rw[abg,iw hx];rfl
  have⟨q,q1,q2,_⟩:=hF.sl.fx (k:=.i64) hx;rw[o0 mm _ _ H,ae,ae,q1,ae,q2,ae];obtain⟨w',G0,H0,r',I0,J0,c1,c2,c3,c4,c5,c6,c7⟩:=mL hX H (hF.sh x b0) (h.ln x b0) (by omega);refine aH c1 ⟨aaV _,?_⟩;rw[c2,aA,c3,aA,c4,aA,aS,ae,wrap64];have:=c7.n;exact⟨i+1,by omega,_,r',rfl,by omega,c6,λc hc=>by rw[c7.lo c hc,hk c hc],by omega,by omega,by rw[q0,<-a0];unfold bR;simp,by grind⟩
 have r0:i=l.length:=by
  have:¬(i:Int)< (l.length:Int):=by grind
  omega
 subst r0;rw[abk (by rw[cI];exact aaV _)]at a0;rw[ew,aP H.cell (by simp)];show aj (some (Value.agg #[r])) _;rw[ae];have gz:mm.get m1.n=.cells [aew] 30 none:=by grind
 refine aD oR gz rfl rfl (by show(one r && true)=true;rw[H.ow.sl.one];rfl) λm9 K0 d0 h0=>?_;have d0:m9.get m1.n=.cells [r] 30 none:=d0;rw[ew,aP d0 (by simp)];show aj (some (Value.agg #[r])) _;rw[ae];by_cases i0:acc=[]
 ·subst i0;rcases H.ow with⟨rfl,_⟩ |⟨b,cs,_,h2,_⟩;·exact .inl ⟨rfl,by omega,by grind,.refl,[],_,rfl,a0,.nil,λx hx=>(by cases hx),λx hx=>(by cases hx)⟩
  simp at h2
 obtain⟨b,rfl,hb⟩:=mP H.ow i0;refine .inr ⟨.inl rfl,by omega,⟨by omega,by grind⟩,acc,_,rfl,a0,?_,λx hx=>?_,H.ln⟩
 ·refine Ow.mono (n1:=oc+1) (H.ow.bs λb c t g' hb ht=>?_) (by omega)
  have:b≠m1.n:=by rintro rfl;rw[hk _ (by omega),g2]at hb;cases hb;revert ht;decide
  rw[h0 b this,hb]
 refine(H.sh x hx).bs λb c t g' hb ht=>?_
 have:b≠m1.n:=by rintro rfl;rw[hk _ (by omega),g2]at hb;cases hb;revert ht;decide
 rw[h0 b this,hb]
theorem Ci{n1:Nat}{ms:List Mk}{vm:aes}(hm:Sl m ms vm)(hl:ms.length<=1000){b:Nat}(hg:m.get b=.cells [] 137 none)(hn:n1<=b):
  ∃r m1,az TE (m.wl m.n) .append [31,31] [aer b 0 0 0,vm]=some (r,m1)/\Sl m1 ms r/\Ext m m1/\m1.low=m.n/\(∃a p q,r=.slice (some a) p q)/\(ms≠ []->Ow m.n m1 ms r):=by
 by_cases he:ms=[]
 ·subst he;obtain⟨a,c,rfl⟩:=hm.form;refine⟨aer b 0 0 0,m.wl m.n,append_nil uU (aaV _) (by decide) ?_,.inr ⟨b,0,0,[],none,rfl,hg,by simp,by grind⟩,Ext.refl.wl,rfl,⟨_,_,_,rfl⟩,λh=>absurd rfl h⟩;rcases hm with⟨h,_⟩ |⟨b',o,c',bc,g,h,_⟩
  ·grind
  ·grind
 obtain⟨v',m1,h1,H,h3,h4⟩:=il uU hg hm he (by omega);obtain⟨b',rfl,_⟩:=mP H he;exact⟨_,m1,h1,H.sl,h3,h4,⟨_,_,_,rfl⟩,λ_=>H⟩
theorem Jn{a b:Bool}:aC TE .neq 4 (.bool a) (.bool b)=some (.bool (!decide (a=b))):=by cases a <;>cases b <;>kernel_rfl
theorem iI:aI TE m 31 0 []=some (.slice (some ⟨m.n,0,none⟩) 0 0,m.push (.cells [] 137 none)):=by kernel_rfl
theorem Bd(hX:cy X){ms:List Mk}{vm:aes}{id:Int}(hm:Sl m ms vm)(hl:ms.length<=100):
  ∃r m',C X (.func 305) [vm,aev id] m m.n r m'/\Ext m m'/\Ow m.n m' (fZ ms id) r:=by
 refine Cl.kI hX (aaU func305) ?_;rw[Y4];dsimp only[δ,ε,ζ,η,κ,ν,χ];refine Lp.intro (γ:=Nat) (λi=>ms.length-i) (λi vs mm lo=>∃r,vs=[r,aev i]/\i<=ms.length/\Ext m mm/\m.n<=lo/\Ow m.n mm (fZ (ms.take i) id) r) 0 ⟨_,rfl,aa6 _,.refl,aaV _,Ow.nil⟩ ?_;rintro i vs mm lo ⟨r,rfl,hi,H,i0,ho⟩;have nm:=H.n;have d0:=hm.aG H;rw[aE,aE,d0.len dQ,aA,aQ,ae,ak];refine av (λj0=>?_) (λl0=>?_)
 ·have j0:i < ms.length:=by grind
  obtain⟨x,hx⟩:∃x,ms[i]?=some x:=⟨_,aaW j0⟩
  have⟨b0,o0,bc,g0,cs,e0,m0,h0,_,n0⟩:=d0.gM dQ (k:=.i64) hx;have h0:cs=x.c:=h0;subst h0;have⟨a0,p0,lx⟩:=d0.vN (k:=.i64) hx;obtain rfl:a0=aeq b0 o0:=Option.some.inj (p0.symm.trans e0);have k0:ms.take (i+1)=ms.take i++ [x]:=by rw[abg,hx];rfl
  have r0:(fZ (ms.take i) id).length<=i:=by unfold fZ;have:=acf (λy=> !decide (y.un=id)) (ms.take i);rw[abP]at this;omega
  rw[e0,ae,dq,ae,show ah TE mm 3 (aeq b0 (o0+1))=some (aev x.un) by rw[bO,aL m0,n0 1 (by decide)];rfl,ae,bZ,ae,ak];refine av (λc=>?_) (λc=>?_)
  ·rw[ae,lx,ae];refine push_mk (x:=x) ho nm (by omega) λr' m2 w2 n2 k2 l2=>?_;rw[aS,ae,wrap64];refine⟨i+1,by omega,r',rfl,by omega,⟨by omega,λc hc=>by rw[k2 c hc,H.get c hc]⟩,by omega,?_⟩;rw[k0];unfold fZ at w2⊢;rw[abB,abQ,aa5 c];exact w2
  rw[aS,ae,wrap64];refine⟨i+1,by omega,r,rfl,by omega,H,i0,?_⟩;rw[k0];unfold fZ at ho⊢;rw[abB,abQ,aa4 (by grind),acC,abJ];exact ho
 have q0:i=ms.length:=by have:¬(i:Int)< (ms.length:Int):=aaZ l0;omega
 subst q0;rw[abD]at ho;by_cases he:fZ ms id=[]
 ·rw[he]at ho⊢;rcases ho with⟨rfl,_⟩ |⟨b,cs,_,h2,_⟩;·exact .inl ⟨rfl,i0,by grind,.refl,.nil⟩
  simp at h2
 obtain⟨b,rfl,_⟩:=mP ho he;exact .inr ⟨.inl rfl,by omega,H,ho⟩
def Bb(ms:List Mk)(id:Int)(o:Bool)(m':M)(r:aes)(b:Bool):Prop:=match mC ms id o with
 |some H=>b=true/\Sl m' H r
 |none=>b=false/\∃H:List Mk,Sl m' H r/\H.length<=ms.length
theorem uZ(hX:cy X){ms:List Mk}{vm:aes}{id:Int}{o:Bool}(hm:Sl m ms vm)(hl:ms.length<=100):
  ∃r b m',C X (.func 228) [vm,aev id,.bool o] m m.n (.tuple #[r,.bool b]) m'/\Ext m m'/\Bb ms id o m' r b:=by
 refine Cl.ky hX (aaU func228) (R:=λrv m'=>Ext m m'/\∃r b,rv=.tuple #[r,.bool b]/\Bb ms id o m' r b) ?_ λrv m' hc ⟨hx,r,b,e,h⟩=>⟨r,b,m',e ▸ hc,hx,h⟩
 rw[Zm];dsimp only[δ,ε,ζ,η,ι,κ,ν,χ];rw[iI,aA];have g0:Ext m (m.push (.cells [] 137 none)):=Ext.refl.push;have n0:(m.push (.cells [] 137 none)).get m.n=.cells [] 137 none:=M.aY;have z0:(m.push (.cells [] 137 none)).n=m.n+1:=rfl;generalize A0:m.push (.cells [] 137 none)=m2 at*;obtain⟨v3,m4,e4,o0,h0,B0,a0,p0⟩:=Ci (n1:=m.n) (hm.aG g0) (by omega) n0 (aaV _);have n4:=h0.n;have i0:=g0.trans h0;rw[e4,aA];refine Lp.intro (γ:=Nat) (λi=>ms.length-i) (λi vs mm lo=>∃z z',vs=[z,z',aev i]/\i<=ms.length/\m4=mm/\m.n<=lo/\∀j y,j < i->ms[j]?=some y->y.id≠id) 0 ⟨_,_,rfl,aa6 _,rfl,by grind,λj y hj=>by omega⟩ ?_;rintro i vs mm lo ⟨z,z',rfl,hi,rfl,j0,b0⟩;rw[aE,aE,aE,o0.len dQ,aA,aQ,ae,ak];refine av (λd0=>?_) (λq0=>?_)
 ·have d0:i < ms.length:=by grind
  obtain⟨x,hx⟩:∃x,ms[i]?=some x:=⟨_,aaW d0⟩
  have r0:ms≠ []:=by grind
  have⟨b,q1,q2,q3,q4,⟨s0,u0,k0⟩,q6⟩:=S8 rfl (p0 r0) hx dQ;have v0:s0=x.c:=u0;subst v0;have l0:ah TE m4 3 (aeq b (0+i*aZ.sz Mk+0))=some (aev x.id):=by rw[bO,k0 0 (by decide)];rfl
  have l4:ah TE m4 4 (aeq b (0+i*aZ.sz Mk+4))=some (.bool x.KG):=by rw[uz,k0 4 (by decide)];rfl
  rw[q1,ae,cg,ae,l0,ae,aW,ae,ak];refine av (λc=>?_) (λc=>?_)
  ·have c:x.id=id:=aa1 c
   have e0:ms.findIdx? (λy=>decide (y.id=id))=some i:=by
    rw[List.findIdx?_eq_some_iff_getElem];refine⟨d0,?_,λj hj=>?_⟩;·rw[(aa0.1 hx).2];exact abb c
    have:=b0 j _ hj (qz);simpa using this
   have ht:mC ms id o=if x.KG=o then none else some (ms.set i {x with KG:=o}):=by unfold mC;rw[e0];dsimp only;rw[hx]
   rw[ae,jT,ae,l4,ae,Jn,ae,ae,jT,ae];refine q6 4 4 _ {x with KG:=o} (.bool o) EK rfl rfl rfl (by decide) (λcs hr m'=>by have hr:cs=x.c:=hr;subst hr;rfl) _ λC0 y0 H m0=>?_;obtain⟨a,p,q,rfl⟩:=a0;refine .inr ⟨.inl rfl,by omega,⟨by omega,λc hc=>by rw[m0 c (by omega),i0.get c hc]⟩,_,_,rfl,?_⟩;unfold Bb;rw[ht];by_cases e:x.KG=o
   ·rw[aa5 e,abb e];exact⟨rfl,_,H.sl,by simp⟩
   rw[aa4 e,abt e];exact⟨rfl,H.sl⟩
  have c:x.id≠id:=aaZ c;rw[aS,ae,wrap64];refine⟨i+1,by omega,z,z',rfl,by omega,rfl,j0,λj y hj hy=>?_⟩;by_cases e:j=i
  ·subst e;rw[hx]at hy;cases hy;exact c
  exact b0 j y (by omega) hy
 have D0:i=ms.length:=by have:¬(i:Int)< (ms.length:Int):=aaZ q0;omega
 have e0:ms.findIdx? (λy=>decide (y.id=id))=none:=by rw[List.findIdx?_eq_none_iff];intro y hy;have⟨j,hj⟩:=abi hy;have:=b0 j y (by grind) hj;simpa using this
 refine .inl ⟨rfl,j0,by grind,.refl,_,_,rfl,?_⟩;unfold Bb mC;rw[e0];exact⟨rfl,[],.nil,aa6 _⟩
def eX(us:List Un)(id:Int)(m':M)(H:aes):Prop:=match cf us id with
 |some u=>∃w',H=.tuple #[u.v w',.bool true]/\Sl m' u.shape w'
 |none=>H=.tuple #[.agg Un.zc.toArray,.bool false]
theorem yg(hX:cy X){l:List UW}{v:aes}(h:cY m l v)(hP:cx (bR l))(id:Int):
  ∃rv m',C X (.func 303) [.agg #[v],aev id] m m.n rv m'/\Ext m m'/\eX (bR l) id m' rv:=by
 have hl:l.length<=12:=by have:=hP.len;rwa[cI]at this
 refine Cl.kI hX (aaU func303) ?_;rw[Y6];dsimp only[δ,ε,ζ,η,θ,ι,κ,ρ,ς,υ,χ,ψ,ω];refine aw λm1 D0 u0 E0=>?_;refine aw λm2 F0 v0 y0=>?_;have h0:Ext m m2:=⟨by omega,by grind⟩
 have g1:m2.get m.n=.cells [v] 30 none:=by rw[y0 _ (by omega)];exact u0
 have g2:m2.get m1.n=.cells Un.zc 60 none:=v0;have hF:=h.aG h0;have i0:ah TE m2 28 (aeq m.n (0+0))=some v:=by rw[ez,aL g1];rfl
 have z0:ah TE m2 30 (aeq m.n 0)=some (.agg #[v]):=by rw[ew,aP g1 (by simp)];rfl
 unfold ptrTo;simp only[bN,ae];refine Lp.intro (γ:=Nat) (λi=>l.length-i) (λi vs mm lo=>∃z,vs=[z,aev i]/\i<=l.length/\m2=mm/\m.n<=lo/\∀j x,j < i->l[j]?=some x->x.u.id≠id) 0 ⟨_,rfl,aa6 _,rfl,by omega,λj x hj=>by omega⟩ ?_;rintro i vs mm lo ⟨z,rfl,hi,rfl,G0,j0⟩;rw[aE,aE,i0,ae,hF.sl.len dt,aA,aQ,ae,ak];refine av (λk0=>?_) (λA0=>?_)
 ·have k0:i < l.length:=by grind
  obtain⟨x,hx⟩:∃x,l[i]?=some x:=⟨_,aaW k0⟩
  have⟨q,q0,f1,f2,f3⟩:=rK hF.sl hx;have⟨q',q1,q2,ow⟩:=hF.sl.fx (k:=.i64) hx;obtain rfl:q=q':=Option.some.inj (f1.symm.trans q1);refine bA (λvs mm lo=>vs=[.bool (decide (x.u.id=id))]/\m2=mm/\m.n<=lo) (λR hR=>?_) ?_
  ·rw[ae,f1,ae,f2,ae,f3,ae,aW,ae,ak];refine av (λc=>?_) (λc=>hR _ _ _ ⟨by rw[c],rfl,by omega⟩);rw[z0,ae];refine aH (kP hX hF (by omega)) ?_;exact hR _ _ _ ⟨by rw[c,fB hP],rfl,by omega⟩
  rintro _ _ H0 ⟨rfl,rfl,l0⟩;rw[aE,ak];refine av (λc=>?_) (λc=>?_)
  ·have c:x.u.id=id:=aa1 c
   have m0:=aa2 hx
   rw[i0,ae,q1,ae,q2,ae]
   have⟨w',I0,n0,b0,d0⟩:=AU (m:=m2) hX (hF.sh x m0) (hF.ln x m0)
   refine aH n0 ?_
   have n36:=b0.n
   have o0:=b0.cells g2
   refine aD df o0 rfl rfl (Un.cM d0.one) λe0 p0 H g0=>?_
   have H:e0.get m1.n=.cells (x.u.c w') 60 none:=H
   rw[bV H,ae]
   have a0:cf (bR l) id=some x.u:=by rw[<-c];exact pA hP (iw hx)
   have r0:Sl e0 x.u.shape w':=d0.bs λb cs t g hb ht=>by
    have:b≠m1.n:=by rintro rfl;rw[o0]at hb;cases hb;revert ht;decide
    rw[g0 b this,hb]
   have s0:∀mm:M,Sl mm x.u.shape w'->eX (bR l) id mm (bz [x.u.v w',aex]):=λmm hs=>by unfold eX;rw[a0];exact⟨w',rfl,hs⟩
   cases B0:bF (bz [x.u.v w',aex])with
   |false=>exact .inr ⟨.inl rfl,by omega,⟨by omega,λc hc=>by rw[g0 c (by omega),b0.get c (by omega),h0.get c hc]⟩,s0 e0 r0⟩
   |true=>
    refine .inl ⟨rfl,by omega,by grind,.refl,s0 m ?_⟩;rcases d0 with⟨rfl,e⟩ |⟨b,o,cc,bc,g,rfl,_⟩;·rw[e];exact .nil
    simp[bz,bF,dw,bI]at B0
  rw[aS,ae,wrap64];refine⟨i+1,by omega,z,rfl,by omega,rfl,l0,λj y hj hy=>?_⟩;by_cases e:j=i
  ·subst e;rw[hx]at hy;cases hy;exact aaZ c
  exact j0 j y (by omega) hy
 have J0:i=l.length:=by have:¬(i:Int)< (l.length:Int):=aaZ A0;omega
 have a0:cf (bR l) id=none:=rk λu hu=>by obtain⟨x,hx,rfl⟩:=Bf hu;have⟨j,hj⟩:=abi hx;exact j0 j x (by grind) hj
 have C0:aK TE 60 []=some (.agg Un.zc.toArray):=kL;rw[C0,ae];refine aD df g2 rfl rfl rfl λe0 p0 H g0=>?_;have H:e0.get m1.n=.cells (Un.c ⟨0,0,0,[],0,0⟩ aew) 60 none:=H;rw[bV H,ae];refine .inl ⟨rfl,by omega,by grind,.refl,?_⟩;unfold eX;rw[a0];rfl
def Pu(us:List Un)(id:Int)(m':M)(H:aes):Prop:=match cf us id with
 |some _=>∃acc r,H=.tuple #[.agg #[r],.int .i64 0]/\bR acc=uN us id/\cY m' acc r
 |none=>H=.tuple #[.agg #[.slice none 0 0],.int .i64 120]
theorem Jd(hX:cy X){l:List UW}{v:aes}(h:cY m l v)(hP:cx (bR l))(id:Int):
  ∃rv m',C X (.func 304) [.agg #[v],aev id] m m.n rv m'/\Ext m m'/\Pu (bR l) id m' rv:=by
 have hl:l.length<=12:=by have:=hP.len;rwa[cI]at this
 refine Cl.kI hX (aaU func304) ?_
 rw[Y5];dsimp only[δ,ε,ζ,η,θ,ι,κ,ν,ξ,ο,ρ,ς,υ,χ,ψ,Γ,ω]
 refine aw λm1 l1 I0 o1=>?_
 refine aw λm2 p1 J0 K0=>?_
 have p0:Ext m m2:=⟨by omega,by grind⟩
 have g1:m2.get m.n=.cells [v] 30 none:=by rw[K0 _ (by omega)];exact I0
 have g2:m2.get m1.n=.cells [aew] 30 none:=J0
 have i0:∀{mm:M} {b:Nat} {r:aes},mm.get b=.cells [r] 30 none->ah TE mm 30 (aeq b 0)=some (.agg #[r]):=λh=>by rw[ew,aP h (by simp)];rfl
 have y0:∀{mm:M} {b:Nat} {r:aes},mm.get b=.cells [r] 30 none->ah TE mm 28 (aeq b (0+0))=some r:=λh=>by rw[ez,aL h];rfl
 unfold ptrTo
 rw[i0 g1,ae]
 have⟨r1,m5,L0,r0,b0⟩:=yg (m:=m2) hX (h.aG p0) hP id
 refine aH L0 ?_
 have n5:=r0.n
 unfold eX at b0
 have N0:aK TE 30 []=some (.agg #[aew]):=AX
 cases j0:cf (bR l) id with
 |none=>
  rw[j0]at b0;dsimp only at b0;subst b0;rw[aJ,aJ];simp only[aaY,aaX,ae];refine aw λm9 O0 s0 z0=>?_;refine aD df s0 rfl rfl rfl λm10 A0 B0 k0=>?_;rw[bE,ae,ak,acL,bH,N0,ae];have C0:m10.get m1.n=.cells [aew] 30 none:=by rw[k0 _ (by omega),z0 _ (by omega)];exact r0.cells g2
  refine aD oR C0 rfl rfl rfl λm14 h1 e0 i1=>?_;have e0:m14.get m1.n=.cells [aew] 30 none:=e0;rw[i0 e0,ae];refine .inl ⟨rfl,by omega,by grind,.refl,?_⟩;unfold Pu;rw[j0];rfl
 |some u=>
  rw[j0]at b0;obtain⟨w',rfl,P0⟩:=b0;rw[aJ,aJ];simp only[aaY,aaX,ae];refine aw λm9 O0 s0 z0=>?_;refine aD df s0 rfl rfl (Un.cM P0.one) λm10 A0 B0 k0=>?_;have g0:Ext m5 m10:=⟨by omega,by grind⟩
  rw[bE,ae,ak,aca,aT];refine aw λm17 j1 l0 D0=>?_;obtain⟨oc,S0⟩:∃oc,oc=m10.n:=⟨_,rfl⟩
  rw[<-S0]at l0⊢;have u0:Ext m2 m17:=r0.trans (g0.trans ⟨by omega,D0⟩);have n10:=g0.n;simp only[bN,ae];refine Lp.intro (γ:=Nat) (λi=>l.length-i) (λi vs mm lo=>∃(acc:List UW) (r:aes),vs=[aev i]/\i<=l.length/\EB oc mm acc r/\(∀c,c < oc->mm.get c=m17.get c)/\m.n<=lo/\m17.n<=mm.n/\bR acc=uN ((bR l).take i) id/\acc.length<=i) 0 ⟨[],_,rfl,aa6 _,⟨l0,.nil,λx hx=>(by cases hx),λx hx=>(by cases hx)⟩,λc hc=>rfl,by omega,aaV _,rfl,aaV _⟩ ?_;rintro i vs mm u1 ⟨acc,r,rfl,hi,H,hk,a1,b1,d0,v1⟩;have a0:Ext m2 mm:=⟨by grind,λc hc=>by rw[hk c (by omega),u0.get c hc]⟩
  have gf:=a0.cells g1;have hF:=(h.aG p0).aG a0;rw[aE,y0 gf,ae,hF.sl.len dt,aA,aQ,ae,ak];refine av (λE0=>?_) (λd1=>?_)
  ·have E0:i < l.length:=by grind
   obtain⟨x,hx⟩:∃x,l[i]?=some x:=⟨_,aaW E0⟩
   have m0:=aa2 hx;have F0:(bR l).take (i+1)=(bR l).take i++ [x.u]:=by rw[abg,iw hx];rfl
   have⟨q,q0,f1,f2,f3⟩:=rK hF.sl hx;have⟨q',q1,q2,ow⟩:=hF.sl.fx (k:=.i64) hx;obtain rfl:q=q':=Option.some.inj (f1.symm.trans q1);rw[ae,f1,ae,f2,ae,f3,ae,bZ,ae,ak];refine av (λc=>?_) (λc=>?_)
   ·rw[y0 H.cell,ae,ae,q1,ae,q2,ae];obtain⟨w1,y1,z1,r',A1,B1,c1,c2,c3,c4,c5,c6,c7⟩:=mL hX H (hF.sh x m0) (h.ln x m0) (by omega);refine aH c1 ⟨aaV _,?_⟩;rw[c2,aA,c3,aA,c4,aA,aS,ae,wrap64];have:=c7.n;refine⟨i+1,by omega,_,r',rfl,by omega,c6,λc hc=>by rw[c7.lo c hc,hk c hc],by omega,by omega,?_,by grind⟩;rw[F0];unfold uN at d0⊢;rw[abB,<-d0,abQ,aa5 c];unfold bR;simp
   rw[aS,ae,wrap64];refine⟨i+1,by omega,acc,r,rfl,by omega,H,hk,a1,b1,?_,by omega⟩;rw[F0];unfold uN at d0⊢;rw[abB,<-d0,abQ,aa4 (by grind),acC,abJ]
  have e1:i=l.length:=by have:¬(i:Int)< (l.length:Int):=aaZ d1;omega
  subst e1;rw[abk (by rw[cI];exact aaV _)]at d0;rw[i0 H.cell,ae];have gz:mm.get m1.n=.cells [aew] 30 none:=a0.cells g2;refine aD oR gz rfl rfl (by show(one r && true)=true;rw[H.ow.sl.one];rfl) λG0 k1 h0 n0=>?_;have h0:G0.get m1.n=.cells [r] 30 none:=h0;rw[i0 h0,ae]
  have o0:∀v0:M,cY v0 acc r->Pu (bR l) id v0 (bz [.agg #[r],aev 0]):=λv0 hf=>by unfold Pu;rw[j0];exact⟨acc,r,rfl,d0,hf⟩
  by_cases H0:acc=[]
  ·subst H0;rcases H.ow with⟨rfl,_⟩ |⟨b,cs,_,h2,_⟩;·exact .inl ⟨rfl,by omega,by grind,.refl,o0 m ⟨.nil,λx hx=>(by cases hx),λx hx=>(by cases hx),.inl rfl⟩⟩
   simp at h2
  obtain⟨b,rfl,hb⟩:=mP H.ow H0;refine .inr ⟨.inl rfl,by omega,⟨by omega,λc hc=>by rw[n0 c (by omega),a0.get c (by omega),p0.get c hc]⟩,o0 G0 (H.qk.bs λc cs t g hb ht=>?_)⟩
  have:c≠m1.n:=by rintro rfl;rw[gz]at hb;cases hb;rcases ht with ht |ht <;>exact absurd ht (by decide)
  rw[n0 c this,hb]
theorem OG{b:Option Addr}{a c p q:Nat}{d:Addr}:bF (.agg #[.slice b a c,.slice (some d) p q])=false:=by simp[bF,dw,bI]
theorem AT(hX:cy X){l:List UW}{ms:List Mk}{v vm:aes}(h:cY m l v)(hlen:l.length < 1000)(hm:Sl m ms vm)(k0:ms.length<=1000):
  ∃acc r r2 m',C X (.func 184) [.agg #[v,vm]] m m.n (.agg #[r,r2]) m'/\Ext m m'/\bR acc=bR l/\cY m' acc r/\Sl m' ms r2:=by
 refine Cl.ky hX (aaU func184) (R:=λrv m'=>Ext m m'/\∃acc r r2,rv=.agg #[r,r2]/\bR acc=bR l/\cY m' acc r/\Sl m' ms r2) ?_ λrv m' H ⟨hx,acc,r,r2,e,hr⟩=>⟨acc,r,r2,m',e ▸ H,hx,hr⟩
 rw[ZJ];dsimp only[δ,ε,θ,ι,κ,ν,ρ,ς,υ,ψ,Γ];refine aw λm1 z0 l0 A0=>?_;refine aw λm2 B0 m0 n0=>?_;have i0:Ext m m2:=⟨by omega,by grind⟩
 have g1:m2.get m.n=.cells [v,vm] 33 none:=by rw[n0 _ (by omega)];exact l0
 have g2:m2.get m1.n=.cells [aew,aew] 33 none:=m0;unfold ptrTo;simp only[cd,cL,ae];rw[(kj g1).1,ae];have⟨acc,r,m6,o0,a0,p0,j0,q0,r0⟩:=Fa (m:=m2) hX (h.aG i0) hlen;refine aH o0 ⟨by omega,?_⟩;have n6:=a0.n;rw[iI,aA];obtain⟨m9,g0⟩:∃x,x=m6.push (.cells [] 137 none):=⟨_,rfl⟩
 rw[<-g0];have C0:m9.n=m6.n+1:=by rw[g0];exact M.iQ
 have s0:m9.get m6.n=.cells [] 137 none:=by rw[g0];exact M.aY
 have d0:Ext m6 m9:=g0 ▸ Ext.refl.push;have u0:=i0.trans (a0.trans d0);rw[(kj ((a0.trans d0).cells g1)).2.2.1,ae];obtain⟨r2,m13,a1,a2,a3,a4,⟨aa,ap,aq,rfl⟩,a6⟩:=Ci (n1:=m6.n) (hm.aG u0) k0 s0 (aaV _);rw[a1,aA];have n13:=a3.n;have v0:=j0.sl.one;obtain⟨b0,c0,rfl⟩:=j0.sl.form;rw[nN rfl rfl,ae];have G2:=((a0.trans d0).trans a3).cells g2;refine aD dV G2 rfl rfl rfl λm15 y0 e0 h0=>?_;have e0:m15.get m1.n=.cells _ 33 none:=e0;rw[(kj e0).2.2.2,ae]
 have bs:∀c cs t g,m13.get c=.cells cs t g->t≠33->m15.get c=.cells cs t g:=λc cs t g H ht=>by
  by_cases e:c=m1.n;·subst e;rw[G2]at H;cases H;exact absurd rfl ht
  rw[h0 c e,H]
 have hF:=(Vy j0 q0 r0).aG (d0.trans a3);refine .inr ⟨.inl OG,by omega,⟨by omega,λc H=>?_⟩,acc,_,_,rfl,p0,hF.bs λc cs t g H ht=>bs c cs t g H (by grind),a2.bs λc cs t g H ht=>bs c cs t g H ?_⟩;·rw[h0 c (by omega),a3.get c (by omega),d0.get c (by omega),a0.get c (by omega),i0.get c H]
 have:t=137:=by simpa[aZ.ty,aZ.dd]using ht
 subst this;decide
theorem yF(u:Un):∀us:List Un,∃p q,us=p++q/\gL u us=p++u::q
 |[]=>⟨[],[],rfl,rfl⟩
 |a::r=>by
  rw[gL]
  by_cases e:u.id < a.id
  ·rw[aa5 e];exact⟨[],a::r,rfl,rfl⟩
  ·rw[aa4 e]
   have⟨p,q,h1,H⟩:=yF u r
   grind
theorem yG{u:Un}:∀{us:List Un},(us.Pairwise λa b=>a.id < b.id)->(∀v∈us,v.id≠u.id)->gL u us=tY us u
 |[],_,_=>rfl
 |a::r,h,H=>by
  have h0:=H a abT
  have⟨h1,h2⟩:=ab4.1 h
  rw[gL]
  by_cases e:u.id < a.id
  ·rw[aa5 e]
   have e1:(a::r).filter (λy=>decide (y.id < u.id))=[]:=by
    rw[acU]
    grind
   have e2:(a::r).filter (λy=>decide (u.id < y.id))=a::r:=by
    rw[acd]
    grind
   unfold tY
   grind
  ·rw[aa4 e,yG h2 λv hv=>H v (abS _ hv)]
   unfold tY
   grind
theorem HI{us:List Un}{u:Un}(h:cx us):fJ (gL u us)=Gy us u:=by
 rw[adF,mZ];constructor
 ·intro hF;rw[pR];obtain⟨p,q,rfl,e⟩:=yF u us;rw[e]at hF;have h1:=hF.len;have h3:=ab2.1 hF.Kw;have h4:=ab2.1 hF.CA;rw[abq,abe]at h1;refine⟨hF.val u (by simp),by grind,λv H=>?_,λv H=>?_⟩
  ·rcases abp.1 H with H |H;·have:=h3.2.2 v H u (by simp);omega
   have:=(ab4.1 h3.2.1).1 v H;omega
  rcases abp.1 H with H |H;·rw[nC];exact h4.2.2 v H u (by simp)
  ·simp_all
 intro ha;rw[yG h.Kw (pR.1 ha).2.2.1];exact h.ins ha
def PB(us:List Un)(u:Un)(m':M)(H:aes):Prop:=match qA us u with
 |some vs=>∃l' r,H=.tuple #[.agg #[r],.int .i64 0]/\bR l'=vs/\cY m' l' r
 |none=>H=.tuple #[.agg #[.slice none 0 0],.int .i64 120]
theorem oM.put{l:List UW}{u:Un}{m':M}{rv:aes}(H:cx (bR l))(h:oM l u m' rv):PB (bR l) u m' rv:=by
 unfold oM at h;unfold PB qA;by_cases e:Gy (bR l) u=true
 ·rw[aa5 ⟨fB H,by rw[HI H];exact e⟩]at h;rw[aa5 e];have⟨l',r,h1,h2,h3⟩:=h;exact⟨l',r,h1,by rw[h2,yG H.Kw (pR.1 e).2.2.1],h3⟩
 ·rw[aa4 λc=>e (by rw[<-HI H];exact c.2)]at h
  grind
def fj(vs:List Un)(H:List Mk)(m':M)(v:aes):Prop:=∃acc r r2,v=.agg #[r,r2]/\bR acc=vs/\cY m' acc r/\Sl m' H r2
theorem kN{α:Type}[aZ α]{m':M}{l:List α}{v:aes}(h:Sl m' l v)(H:Go.D.bI v)(m:M):l=[]/\Sl m l v:=by
 rcases h with⟨h1,h2⟩ |⟨b,o,c,bc,g,h1,_⟩;·exact⟨h2,.inl ⟨h1,h2⟩⟩
 rw[h1]at H;simp[Go.D.bI]at H
theorem fj.flat{vs:List Un}{ns:List Mk}{m':M}{r r2:aes}{t:aes}(h:fj vs ns m' (.agg #[r,r2]))(hf:bF (.tuple #[.agg #[r,r2],t]))(m:M):fj vs ns m (.agg #[r,r2]):=by have⟨acc,r',a0,e,h1,h2,h3⟩:=h;cases e;have H:((Go.D.bI r && (Go.D.bI r2 && true)) && (dw t && true)):=hf;rw[aa3,aa3,aa3]at H;have⟨e1,k1⟩:=kN h2.sl H.1.1 m;have⟨e2,k2⟩:=kN h3 H.1.2.1 m;subst e1;exact⟨[],r,r2,rfl,h1,⟨k1,λx hx=>(by cases hx),λx hx=>(by cases hx),.inl rfl⟩,k2⟩
theorem fj.bs{vs:List Un}{ns:List Mk}{m' m'':M}{v:aes}(h:fj vs ns m' v)(hk:∀c cs t g,m'.get c=.cells cs t g->t≠33->m''.get c=.cells cs t g):fj vs ns m'' v:=by
 have⟨acc,r,r2,e,h1,h2,h3⟩:=h
 exact⟨acc,r,r2,e,h1,h2.bs λc cs t g H ht=>hk c cs t g H (by grind),h3.bs λc cs t g H ht=>hk c cs t g H (by
  have:t=137:=by simpa[aZ.ty,aZ.dd]using ht
  grind)⟩
def SE(us:List Un)(ms:List Mk)(a:Ac)(m':M)(H:aes):Prop:=match oN us ms a with
 |some (vs,ns)=>∃v,H=.tuple #[v,.bool true]/\fj vs ns m' v
 |none=>∃r r2,H=.tuple #[.agg #[r,r2],.bool false]/\one r=true/\one r2=true
theorem EN{b:Nat}{v vm r:aes}{g:Option Nat}{P:M->Nat->Prop}(h:m.get b=.cells [v,vm] 33 g)(h1:one r)(H:∀m1,m1.n=m.n->m1.get b=.cells [r,vm] 33 g->(∀c,c≠b->m1.get c=m.get c)->P m1 b):
  aR (aF TE m 30 (aeq b (0+0)) (.agg #[r])) P:=
 bY oR h rfl (by show 0+0+1<=2;decide) (by show(one r && true)=true;rw[h1];rfl) λm1 hn hg hk=>H m1 hn hg hk
theorem Bo{b n k:Nat}{o:Option Addr}{v vm:aes}{g:Option Nat}{P:M->Nat->Prop}(h:m.get b=.cells [v,vm] 33 g)(h1:one (.slice o n k))(H:∀m1,m1.n=m.n->m1.get b=.cells [v,.slice o n k] 33 g->(∀c,c≠b->m1.get c=m.get c)->P m1 b):
  aR (aF TE m 31 (aeq b (0+1)) (.slice o n k)) P:=
 bY GO h rfl (by show 0+1+1<=2;decide) (by show(one (.slice o n k) && true)=true;rw[h1];rfl) λm1 hn hg hk=>H m1 hn hg hk
theorem Jk(hX:cy X){l:List UW}{ms:List Mk}{v vm w:aes}{a:Ac}(hF:cY m l v)(hP:cx (bR l))(hm:Sl m ms vm)(K1:ms.length<=100)(hw:Sl m a.un.shape w)(L1:a.un.shape.length < 1000000)(N1:a.kind=1\/a.kind=2):
  ∃rv m',C X (.func 229) [.agg #[v,vm],a.v w] m m.n rv m'/\Ext m m'/\SE (bR l) ms a m' rv:=by
 have v2:l.length<=12:=by have:=hP.len;rwa[cI]at this
 refine Cl.kI hX (aaU func229) ?_;rw[Zl];dsimp only[δ,ε,η,θ,ι,κ,ν,ξ,ο,ρ,ς,υ,χ,ψ,YC,aaE,Δ,Θ,Λ,Ψ,Ω];refine aw λm1 F2 J0 O1=>?_;refine aw λm2 H2 K0 L0=>?_;refine aw λm3 I2 N0 F0=>?_;have O0:Ext m m3:=⟨by omega,by grind⟩
 have g1:m3.get m.n=.cells [v,vm] 33 none:=by rw[F0 _ (by omega),L0 _ (by omega)];exact J0
 have ga:m3.get m1.n=.cells (a.c w) 184 none:=by rw[F0 _ (by omega)];exact K0
 have gr:m3.get m2.n=.cells [aew,aew] 33 none:=N0;unfold ptrTo;simp only[cd,cL,jS,jR,jQ,ae];rw[iI,aA];obtain⟨m5,l0⟩:∃x,x=m3.push (.cells [] 137 none):=⟨_,rfl⟩
 rw[<-l0];have J2:m5.n=m3.n+1:=by rw[l0];exact M.iQ
 have P0:m5.get m3.n=.cells [] 137 none:=by rw[l0];exact M.aY
 have G0:Ext m3 m5:=l0 ▸ Ext.refl.push;rw[(kj (G0.cells g1)).2.2.1,ae];obtain⟨r2,m9,a1,a2,a3,a4,⟨aa,ap,aq,rfl⟩,a6⟩:=Ci (n1:=m3.n) (hm.aG (O0.trans G0)) (by omega) P0 (aaV _);rw[a1,aA];have n9:=a3.n;rw[zl rfl,ae];refine aw λm11 w2 B0 S0=>?_;refine aD dV B0 rfl rfl rfl λm12 y2 C0 b1=>?_;have go:m12.get m9.n=.cells [aew,.slice (some aa) ap aq] 33 none:=C0;have D0:Ext m9 m12:=⟨by omega,by grind⟩
 have u0:=(G0.trans a3).trans D0;have a0:=O0.trans u0;have g1:=u0.cells g1;have ga:=u0.cells ga;have gr:=u0.cells gr;have P1:=a2.aG D0;clear a1 a2 a3 a6 C0 b1 B0 S0 P0 l0 J0 K0 N0 O1 L0 F0;obtain⟨fk,T1, -, -, -, -⟩:=Yi ga;rw[fk,ae,aW,ae,ak]
 have fin:∀{mm b0:M} {r r2:aes} {b:Bool} {lo:Nat} {Q:Prop},Q->one r->one r2->(∀c,c < m.n->mm.get c=m.get c)->m.n<=mm.n->(b->∃vs ns,oN (bR l) ms a=some (vs,ns)/\fj vs ns mm (.agg #[r,r2]))->(b=false->oN (bR l) ms a=none)->mm.get m2.n=.cells [aew,aew] 33 none->
   b0.n=mm.n->(∀c,c≠m2.n->b0.get c=mm.get c)->m.n<=lo->
   (bF (bz [.agg #[r,r2],.bool b])/\m.n<=lo/\(Q/\Ext m m/\SE (bR l) ms a m (bz [.agg #[r,r2],.bool b])))\/((bF (bz [.agg #[r,r2],.bool b])=false\/lo < m.n)/\(min m.n lo=m.n/\Ext m b0/\SE (bR l) ms a b0 (bz [.agg #[r,r2],.bool b]))):=by
  intro mm b0 r r2 b lo Q hQ h1 h2 hk hn ht hf hg i0 j0 b2
  have hx:Ext m b0:=⟨by omega,by grind⟩
  have H0:bF (.tuple #[.agg #[r,r2],.bool b])->SE (bR l) ms a m (.tuple #[.agg #[r,r2],.bool b]):=λH0=>by
   unfold SE
   cases b with
   |true=>have⟨vs,ns,e1,e2⟩:=ht rfl;rw[e1];exact⟨_,rfl,e2.flat H0 m⟩
   |false=>
    grind
  have c2:SE (bR l) ms a b0 (.tuple #[.agg #[r,r2],.bool b]):=by
   unfold SE
   cases b with
   |true=>
    have⟨vs,ns,e1,e2⟩:=ht rfl
    rw[e1]
    refine⟨_,rfl,e2.bs λc cs t g hc ht=>?_⟩
    grind
   |false=>
    grind
  cases e:bF (.tuple #[.agg #[r,r2],.bool b])
  ·exact .inr ⟨.inl e,by omega,hx,c2⟩
  ·exact .inl ⟨e,b2,hQ,.refl,H0 e⟩
 refine av (λk1=>?_) (λk1=>?_)
 ·have k1:a.kind=1:=aa1 k1
  rw[(kj g1).1,ae,Pp ga,ae]
  obtain⟨rv,m22,d2,d0,ar⟩:=Pn (m:=m12) hX (hF.aG a0) (by omega) (hw.aG a0) L1
  refine aH d2 ?_
  have n22:=d0.n
  have hd:oN (bR l) ms a=(qA (bR l) a.un).map (·,ms):=by unfold oN;rw[aa5 k1]
  have ar:=ar.put hP
  unfold PB at ar
  cases hs:qA (bR l) a.un with
  |none=>
   rw[hs]at ar hd;subst ar;rw[aJ,aJ];simp only[aaY,aaX,ae];refine EN (d0.cells go) rfl λm0 c1 n0 H=>?_;rw[(kj n0).2.2.2,ae,aW,ae];have G2:m0.get m2.n=.cells [aew,aew] 33 none:=by rw[H _ (by omega)];exact d0.cells gr
   refine aD dV G2 rfl rfl rfl λb0 i0 o0 j0=>?_;rw[(kj o0).2.2.2,ae];refine fin (mm:=m0) ?_ ?_ ?_ ?_ ?_ ?_ ?_ G2 i0 j0 ?_;·first |rfl |trivial
   ·exact rfl
   ·exact rfl
   ·exact λc hc=>by rw[H c (by omega),d0.get c (by omega),a0.get c hc]
   ·omega
   ·exact λe=>absurd e (by decide)
   ·exact λ_=>hd
   omega
  |some vs=>
   rw[hs]at ar hd;obtain⟨l',r,rfl,e1,e2⟩:=ar;rw[aJ,aJ];simp only[aaY,aaX,ae];refine EN (d0.cells go) e2.sl.one λm0 c1 n0 H=>?_;rw[(kj n0).2.2.2,ae,aW,ae];have G2:m0.get m2.n=.cells [aew,aew] 33 none:=by rw[H _ (by omega)];exact d0.cells gr
   refine aD dV G2 rfl rfl (by show(one r && (true && true))=true;rw[e2.sl.one];rfl) λb0 i0 o0 j0=>?_;rw[(kj o0).2.2.2,ae];refine fin (mm:=m0) ?_ ?_ ?_ ?_ ?_ ?_ ?_ G2 i0 j0 ?_;·first |rfl |trivial
   ·exact e2.sl.one
   ·exact rfl
   ·exact λc hc=>by rw[H c (by omega),d0.get c (by omega),a0.get c hc]
   ·omega
   ·refine λ_=>⟨vs,ms,hd,?_⟩
    have:fj vs ms m22 (.agg #[r,.slice (some aa) ap aq]):=⟨l',r,_,rfl,e1,e2,P1.aG d0⟩
    exact this.bs λc cs t g hc ht=>by rw[H c (λe=>by subst e;rw[d0.cells go]at hc;cases hc;exact ht rfl),hc]
   ·exact λe=>absurd e (by decide)
   omega
 ·have k2:a.kind=2:=N1.resolve_left (aaZ k1)
  have hd:oN (bR l) ms a=if(cf (bR l) a.id).isSome=true then some (uN (bR l) a.id,fZ ms a.id)else none:=by unfold oN;rw[jz,aa5 k2]
  rw[(kj g1).1,ae,T1,ae]
  have⟨rv,v0,g2,p0,fr⟩:=yg (m:=m12) hX (hF.aG a0) hP a.id
  refine aH g2 ?_
  have n39:=p0.n
  unfold eX at fr
  cases hf:cf (bR l) a.id with
  |none=>
   rw[hf]at fr hd;subst fr;rw[aJ,aJ];simp only[aaY,aaX,ae];refine aw λi2 d1 q0 i1=>?_;refine aD df q0 rfl rfl rfl λe0 j1 l1 o1=>?_;rw[bE,ae,ak];refine av (λ_=>?_) (λc=>by cases c);have kp:∀c,c < v0.n->e0.get c=v0.get c:=by grind
   have go':e0.get m9.n=.cells [aew,.slice (some aa) ap aq] 33 none:=by rw[kp _ (by omega)];exact p0.cells go
   have G2:e0.get m2.n=.cells [aew,aew] 33 none:=by rw[kp _ (by omega)];exact p0.cells gr
   rw[(kj go').2.2.2,ae];refine aD dV G2 rfl rfl rfl λK2 p1 r1 u1=>?_;rw[(kj r1).2.2.2,ae];refine fin (mm:=e0) ?_ ?_ ?_ ?_ ?_ ?_ ?_ G2 p1 u1 ?_;·first |rfl |trivial
   ·exact rfl
   ·exact rfl
   ·exact λc hc=>by rw[kp c (by omega),p0.get c (by omega),a0.get c hc]
   ·omega
   ·exact λe=>absurd e (by decide)
   ·exact λ_=>hd
   omega
  |some u=>
   rw[hf]at fr hd;obtain⟨w',rfl,j2⟩:=fr;rw[aJ,aJ];simp only[aaY,aaX,ae];refine aw λi2 d1 q0 i1=>?_;refine aD df q0 rfl rfl (Un.cM j2.one) λe0 j1 l1 o1=>?_;rw[bE,ae,ak];refine av (λc=>by cases c) (λ_=>?_);have kp:∀c,c < v0.n->e0.get c=v0.get c:=by grind
   have y0:Ext m12 e0:=p0.trans ⟨by omega,kp⟩;obtain⟨L2,v1, -, -, -, -⟩:=Yi (y0.cells ga);rw[(kj (y0.cells g1)).1,ae,v1,ae];have⟨rv,z0,l2,w1,rr⟩:=Jd (m:=e0) hX (hF.aG (a0.trans y0)) hP a.id;refine aH l2 ?_;have M2:=w1.n;unfold Pu at rr;rw[hf]at rr;obtain⟨acc,r,rfl,e1,e2⟩:=rr;rw[aJ,aJ];simp only[aaY,aaX,ae];refine aw λN2 z2 y1 A2=>?_;refine aD oR y1 rfl rfl (Qq e2.sl.one) λA0 B2 r0 C2=>?_;have r0:A0.get z0.n=.cells [r] 30 none:=r0;have E0:Ext z0 A0:=⟨by omega,by grind⟩
   have g0:Ext m12 A0:=(y0.trans w1).trans E0;obtain⟨z1,I0, -, -, -, -⟩:=Yi (g0.cells ga);rw[z1,ae,aW,ae,ak];refine av (λ_=>?_) (λc=>absurd k2 (aaZ c));rw[(kj (g0.cells g1)).2.2.1,ae,I0,ae];have⟨rm,o2,u2,h0,ow⟩:=Bd (m:=A0) (id:=a.id) hX (hm.aG (a0.trans g0)) K1;refine aH u2 ?_;have O2:=h0.n;have n61:=g0.n;have A1:=ow.sl.one;have⟨bo,bc,B1⟩:=ow.sl.form;rw[B1];refine Bo ((g0.trans h0).cells go) (by grind) λC1 D2 D1 k0=>?_;have gF:C1.get z0.n=.cells [r] 30 none:=by rw[k0 _ (by omega)];exact h0.cells r0
   rw[show ah TE C1 30 (aeq z0.n 0)=some (.agg #[r]) by rw[ew,aP gF (by simp)];rfl,ae];refine EN D1 e2.sl.one λE1 E2 F1 s0=>?_;rw[(kj F1).2.2.2,ae];have G2:E1.get m2.n=.cells [aew,aew] 33 none:=by rw[s0 _ (by omega),k0 _ (by omega)];exact(g0.trans h0).cells gr
   rw[<-B1];refine aD dV G2 rfl rfl (by show(one r && (one rm && true))=true;rw[e2.sl.one,A1];rfl) λP2 G1 H1 I1=>?_;rw[(kj H1).2.2.2,ae];refine fin (mm:=E1) ?_ ?_ ?_ ?_ ?_ ?_ ?_ G2 G1 I1 ?_;·first |rfl |trivial
   ·exact e2.sl.one
   ·exact A1
   ·exact λc hc=>by rw[s0 c (by omega),k0 c (by omega),h0.get c (by omega),g0.get c (by omega),a0.get c hc]
   ·omega
   ·refine λ_=>⟨_,_,hd,?_⟩
    have:fj (uN (bR l) a.id) (fZ ms a.id) o2 (.agg #[r,rm]):=⟨acc,r,_,rfl,e1,e2.aG (E0.trans h0),ow.sl⟩
    have go':=(g0.trans h0).cells go
    exact this.bs λc cs t g hc ht=>by
     have J1:c≠m9.n:=by grind
     rw[s0 c J1,k0 c J1,hc]
   ·exact λe=>absurd e (by decide)
   omega
end
section
variable {X:aM} {m:M}
open Classical in
def rQ(us:List Un)(ms:List Mk)(a:Ac):Option (List Un×List Mk):=if(fJ us && iD us ms)=true then GR us ms a else none
def oF(D:Option (List Un×List Mk))(m':M)(H:aes):Prop:=match D with
 |some (vs,ns)=>∃r r2,H=.tuple #[.agg #[r,r2],.int .i64 0]/\fj vs ns m' (.agg #[r,r2])
 |none=>H=.tuple #[.agg #[.slice none 0 0,.slice none 0 0],.int .i64 170]
def AB(D:Option (List Un×List Mk)):Option (List Un×List Mk):=match D with
 |some (H,ns)=>if iD H ns=true then some (H,ns)else none
 |none=>none
theorem P9{us:List Un}{ms:List Mk}{a:Ac}(h1:fJ us)(H:iD us ms)(h3:eC a):rQ us ms a=AB (oN us ms a):=by
 unfold rQ GR AB
 grind
theorem P8{us:List Un}{ms:List Mk}{a:Ac}(h:(fJ us && iD us ms && eC a)=false):rQ us ms a=none:=by
 unfold rQ GR
 grind
theorem Gc(ms:List Mk)(id:Int):(fZ ms id).length<=ms.length:=by unfold fZ;exact acf _ _
theorem IN{ms H:List Mk}{id:Int}{o:Bool}(h:mC ms id o=some H):H.length=ms.length:=by
 unfold mC at h
 grind
theorem Aa{mm:M}{o z L:Nat}{r r2:aes}{b:Bool}{D:Option (List Un×List Mk)}{R:aet->M->Nat->Prop}(hX:cy X)(go:mm.get o=.cells [r,r2] 33 none)(gz:mm.get z=.cells [aew,aew] 33 none)
  (hT:match D with |some (vs,H)=>b=true/\fj vs H mm (.agg #[r,r2])/\cx vs/\H.length < 4611686018427387904 |none=>b=false) (hL:m.n<=L) (hz:m.n<=z) (I0:m.n<=mm.n) (hk:∀c,c < m.n->mm.get c=m.get c)
  (hR:∀(v:aes) (e:Int) (m':M) (lo:Nat),m.n<=lo->Ext m m'->oF (AB D) m' (.tuple #[v,aev e])->R [v,aev e] m' lo):
  jn (λR4=>aj (dh .not (.bool b)) λv49=>aU v49 (R4 [aex] mm L) (aj (ah TE mm 33 (aeq o 0)) λv50=>bB TE X (.func 176) [v50] mm λv51 q0 r0=>aj (dh .not v51) λv54=>R4 [v54] q0 (min L r0)))
   (λl0 i0 g0=>un l0 λv55 _=>aU v55 (aj (aK TE 33 []) λv57=>aR (aF TE i0 33 (aeq z 0) v57) λj0 s0=>aj (ah TE j0 33 (aeq z 0)) λv60=>R [v60,aev 170] j0 (min g0 s0)) (aj (ah TE i0 33 (aeq o 0)) λu0=>bB TE X (.func 184) [u0] i0 λv0 k0 y0=>aR (aF TE k0 33 (aeq z 0) v0) λd0 z0=>aj (ah TE d0 33 (aeq z 0)) λv67=>R [v67,aev 0] d0 (min (min g0 y0) z0))):=by
 refine bA (λvs m' lo=>m'=mm/\m.n<=lo/\∃bad:Bool,vs=[.bool bad]/\(bad->AB D=none)/\(bad=false->∃vs H,AB D=some (vs,H)/\fj vs H mm (.agg #[r,r2])/\cx vs/\H.length<=20)) (λQ hQ=>?_) ?_
 ·rw[bE,ae,ak]
  cases D with
  |none=>rw[hT];refine av (λ_=>hQ _ _ _ ⟨rfl,hL,true,rfl,λ_=>rfl,λe=>by cases e⟩) (λc=>by cases c)
  |some d=>
   have⟨vs,H⟩:=d;have⟨hb,hS,a0,m0⟩:=hT;rw[hb];refine av (λc=>by cases c) (λ_=>?_);rw[(kj go).2.2.2,ae];have⟨acc,r',A0,e,e1,e2,e3⟩:=hS;cases e;have B0:acc.length<=12:=by have:=a0.len;rwa[<-e1,cI]at this
   refine aH (kO hX e2 (by omega) e3 m0) ?_;rw[bE,ae,e1,fB a0,abG];have C0:AB (some (vs,H))=if iD vs H=true then some (vs,H)else none:=rfl
   refine hQ _ _ _ ⟨rfl,by omega,_,rfl,λc=>?_,λc=>?_⟩
   ·grind
   rw[abj]at c;rw[C0,aa5 c];exact⟨vs,H,rfl,⟨acc,_,_,rfl,e1,e2,e3⟩,a0,(fT.1 c).len⟩
 rintro _ _ lo ⟨rfl,J0,bad,rfl,h1,h2⟩;rw[aE,ak];refine av (λc=>?_) (λc=>?_)
 ·rw[qt,ae]
  refine aD dV gz rfl rfl rfl λj0 F0 n0 G0=>?_
  rw[(kj n0).2.2.2,ae]
  refine hR _ _ _ _ (by omega) ⟨by omega,by grind⟩ ?_
  unfold oF
  grind
 have⟨vs,H,e,hS,a0,m0⟩:=h2 c;rw[(kj go).2.2.2,ae];have⟨acc,r',A0,e',e1,e2,e3⟩:=hS;cases e';have B0:acc.length<=12:=by have:=a0.len;rwa[<-e1,cI]at this
 obtain⟨o0,q,q2,k0,D0,e0,E0,f63,p0⟩:=AT hX e2 (by omega) e3 (by omega);refine aH D0 ?_;have K0:=e0.n;refine aD dV (e0.cells gz) rfl rfl (by show(one q && (one q2 && true))=true;rw[f63.sl.one,p0.one];rfl) λd0 H0 b0 h0=>?_;have b0:d0.get z=.cells [q,q2] 33 none:=b0;rw[(kj b0).2.2.2,ae];refine hR _ _ _ _ (by omega) ⟨by omega,λc hc=>by rw[h0 c (by omega),e0.get c (by omega),hk c hc]⟩ ?_;unfold oF;rw[e];have:fj vs H k0 (.agg #[q,q2]):=⟨o0,q,q2,rfl,by rw[E0,e1],f63,p0⟩
 exact⟨q,q2,rfl,this.bs λc cs t g hc ht=>by rw[h0 c (λe=>by subst e;rw[e0.cells gz]at hc;cases hc;exact ht rfl),hc]⟩
end
section
variable {X:aM} {m:M}
theorem oF.flat{D:Option (List Un×List Mk)}{m':M}{v t:aes}(h:oF D m' (.tuple #[v,t]))(H:bF (.tuple #[v,t]))(m:M):oF D m (.tuple #[v,t]):=by
 unfold oF at h⊢;split at h
 ·have⟨r,r2,e,hs⟩:=h;cases e;exact⟨r,r2,rfl,hs.flat H m⟩
 exact h
theorem IT(hX:cy X){l:List UW}{ms:List Mk}{v vm w:aes}{a:Ac}(hF:cY m l v)(hlen:l.length < 1000)(hm:Sl m ms vm)(a1:ms.length < 4611686018427387904)(hw:Sl m a.un.shape w)(b1:a.un.shape.length < 1000000)(h3:a.kind≠3)(h4:a.kind≠4):
  ∃rv m',C X (.func 185) [.agg #[v,vm],a.v w] m m.n rv m'/\Ext m m'/\oF (rQ (bR l) ms a) m' rv:=by
 refine Cl.kI hX (aaU func185) ?_
 have H:∀R:aet->M->Nat->Prop,(∀(v:aes) (e:Int) (m':M) (lo:Nat),m.n<=lo->Ext m m'->oF (rQ (bR l) ms a) m' (.tuple #[v,aev e])->R [v,aev e] m' lo)->dU TE (aO TE X) f185 [.agg #[v,vm],a.v w] m R:=by
  intro R hR;rw[ZI];dsimp only[δ,ε,η,θ,ι,ξ,ο,ρ,ς,υ,χ,ψ,Γ,Δ,ω];refine aw λm1 A1 D0 E0=>?_;refine aw λm2 B1 F0 A0=>?_;refine aw λm3 C1 G0 n0=>?_;have l0:Ext m m3:=⟨by omega,λc hc=>by rw[n0 c (by omega),A0 c (by omega),E0 c hc]⟩
  have g1:m3.get m.n=.cells [v,vm] 33 none:=by rw[n0 _ (by omega),A0 _ (by omega)];exact D0
  have ga:m3.get m1.n=.cells (a.c w) 184 none:=by rw[n0 _ (by omega)];exact F0
  have gr:m3.get m2.n=.cells [aew,aew] 33 none:=G0;unfold ptrTo;simp only[cd,cL,jS,jQ,oy,ae];refine bA (λvs mm lo=>vs=[.bool (!(fJ (bR l) && iD (bR l) ms && eC a))]/\m3=mm/\lo=m.n) (λQ hQ=>?_) ?_
  ·rw[(kj g1).2.2.2,ae];refine aH (kO hX (hF.aG l0) hlen (hm.aG l0) a1) ?_;rw[bE,ae,ak];refine av (λc=>hQ _ _ _ ⟨?_,rfl,by omega⟩) (λc=>?_)
   ·rw[abo]at c;rw[c];rfl
   rw[abj]at c;rw[show ah TE m3 184 (aeq m1.n 0)=some (a.v w) by rw[DE,aP (n:=15) ga (by show 0+15<=15;decide)];rfl,ae];refine aH (DY hX (hw.aG l0) (by omega)) ?_;rw[bE,ae];exact hQ _ _ _ ⟨by rw[c,abG],rfl,by omega⟩
  rintro _ _ _ ⟨rfl,rfl,rfl⟩;rw[aE,ak];refine av (λc=>?_) (λc=>?_)
  ·rw[abo]at c;rw[qt,ae];refine aD dV gr rfl rfl rfl λB0 w1 H0 I0=>?_;rw[(kj H0).2.2.2,ae];refine hR _ _ _ _ (by omega) ⟨by omega,λc hc=>by rw[I0 c (by omega),l0.get c hc]⟩ ?_;rw[P8 c];rfl
  rw[abj,aa3,aa3]at c;have⟨⟨J0,K0⟩,o0⟩:=c;have hP:=mZ.1 J0;have hM:=fT.1 K0;have c1:=hM.len;rw[P9 J0 K0 o0]at hR;rw[(kj g1).1,ae,zm rfl,ae];refine aw λD1 y1 r0 s0=>?_;refine aD dV r0 rfl rfl (by show(one v && (true && true))=true;rw[hF.sl.one];rfl) λp0 z1 u0 v0=>?_;have go:p0.get m3.n=.cells [v,aew] 33 none:=u0;have i0:Ext m3 p0:=⟨by omega,λc hc=>by rw[v0 c (by omega),s0 c hc]⟩
  have j0:=l0.trans i0;have g1:=i0.cells g1;have ga:=i0.cells ga;have gr:=i0.cells gr;have L0:=hF.aG j0;have q0:=hm.aG j0;clear E0 A0 n0 D0 F0 G0 r0 s0 u0 v0;obtain⟨fk,N0, -, -, -, -⟩:=Yi ga
  have tail:∀{g0 e0:M} {r:aes} {b:Bool} {L:Nat},Ext p0 g0->e0.n=g0.n->e0.get m3.n=.cells [v,r] 33 none->(∀c,c≠m3.n->e0.get c=g0.get c)->m.n<=L->(match oN (bR l) ms a with |some (vs,ns)=>b=true/\vs=bR l/\Sl g0 ns r/\ns.length<=100 |none=>b=false)->
    jn (λR4=>aj (dh .not (.bool b)) λv49=>aU v49 (R4 [aex] e0 L) (aj (ah TE e0 33 (aeq m3.n 0)) λv50=>bB TE X (.func 176) [v50] e0 λv51 i1 j1=>aj (dh .not v51) λv54=>R4 [v54] i1 (min L j1)))
   (λO0 C0 y0=>un O0 λv55 _=>aU v55 (aj (aK TE 33 []) λv57=>aR (aF TE C0 33 (aeq m2.n 0) v57) λB0 k1=>aj (ah TE B0 33 (aeq m2.n 0)) λv60=>R [v60,aev 170] B0 (min y0 k1)) (aj (ah TE C0 33 (aeq m3.n 0)) λl1=>bB TE X (.func 184) [l1] C0 λo1 p1 r1=>aR (aF TE p1 33 (aeq m2.n 0) o1) λP0 u1=>aj (ah TE P0 33 (aeq m2.n 0)) λv67=>R [v67,aev 0] P0 (min (min y0 r1) u1))):=by
   intro g0 e0 r b L b0 h0 d0 a0 hL hd
   have n38:=b0.n
   refine Aa (m:=m) (D:=oN (bR l) ms a) hX d0 (by rw[a0 _ (by omega)];exact b0.cells gr) ?_ hL (by omega) (by omega) (λc hc=>by rw[a0 c (by omega),b0.get c (by omega),j0.get c hc]) hR
   cases e:oN (bR l) ms a with
   |none=>rw[e]at hd;exact hd
   |some d=>
    have⟨vs,ns⟩:=d;rw[e]at hd;obtain⟨d1,rfl,d3,d4⟩:=hd;have m0:=b0.cells go;have:fj (bR l) ns g0 (.agg #[v,r]):=⟨l,v,r,rfl,rfl,L0.aG b0,d3⟩
    exact⟨d1,this.bs λc cs t g hc ht=>by rw[a0 c (λe=>by subst e;rw[m0]at hc;cases hc;exact ht rfl),hc],hP,by omega⟩
  rw[fk,ae,aW,ae,ak];refine av (λk5=>?_) (λk5=>?_)
  ·have k5:a.kind=5:=aa1 k5;rw[(kj g1).2.2.1,ae,Pq ga,ae];have⟨g0,r,b,k0,b0,hr⟩:=Ba (x:=a.zB) hX q0 hM.uS c1;refine aH k0 ?_;rw[aJ,aJ];simp only[aaY,aaX,ae];have hd:oN (bR l) ms a=if(ms.any λy=>decide (y.id=a.zB.id))=true then none else some (bR l,mW ms a.zB):=by unfold oN;rw[jz,jz,jz,jz,aa5 k5]
   obtain⟨o,n,k,rfl,h1⟩:∃o n k,r=.slice o n k/\one r:=by
    rcases hr with⟨_,rfl,_⟩ |⟨_,_,h⟩;·exact⟨_,_,_,rfl,rfl⟩
    have⟨o,k,e⟩:=h.sl.form;exact⟨_,_,_,e,h.sl.one⟩
   refine Bo (b0.cells go) h1 λe0 h0 d0 a0=>?_;refine tail b0 h0 d0 a0 (by omega) ?_;rw[hd];rcases hr with⟨hb,_,h⟩ |⟨hb,h,ho⟩;·rw[aa5 h];exact hb
   rw[aa4 (by rw[h];decide)];exact⟨hb,rfl,ho.sl,by have:=yH ms a.zB;omega⟩
  have k5:a.kind≠5:=aaZ k5
  have z0:∀{g0:M} {r:aes} {b:Bool} {o:Bool},Bb ms a.id o g0 r b->(a.kind=6\/a.kind=7)->o=decide (a.kind=7)->(∃o n k,r=.slice o n k/\one r)/\(match oN (bR l) ms a with |some (vs,ns)=>b=true/\vs=bR l/\Sl g0 ns r/\ns.length<=100 |none=>b=false):=by
   intro g0 r b o ht hk ho
   have hd:oN (bR l) ms a=(mC ms a.id o).map (bR l,·):=by unfold oN;rw[jz,jz,jz,jz,jz,ho]
   unfold Bb at ht
   rw[hd]
   cases e:mC ms a.id o with
   |none=>rw[e]at ht;have⟨hb,ns,hs,_⟩:=ht;have⟨p,q,e'⟩:=hs.form;exact⟨⟨_,_,_,e',hs.one⟩,hb⟩
   |some ns=>rw[e]at ht;have⟨hb,hs⟩:=ht;have⟨p,q,e'⟩:=hs.form;exact⟨⟨_,_,_,e',hs.one⟩,hb,rfl,hs,by rw[IN e];omega⟩
  rw[aW,ae,ak];refine av (λk6=>?_) (λk6=>?_)
  ·have k6:a.kind=6:=aa1 k6;rw[(kj g1).2.2.1,ae,N0,ae];obtain⟨r,b,g0,k0,b0,hr⟩:=uZ (id:=a.id) (o:=false) hX q0 (by omega);refine aH k0 ?_;rw[aJ,aJ];simp only[aaY,aaX,ae];obtain⟨⟨o,n,k,rfl,h1⟩,hd⟩:=z0 hr (.inl k6) (by rw[k6];rfl);refine Bo (b0.cells go) h1 λe0 h0 d0 a0=>?_;exact tail b0 h0 d0 a0 (by omega) hd
  have k6:a.kind≠6:=aaZ k6;rw[aW,ae,ak];refine av (λk7=>?_) (λk7=>?_)
  ·have k7:a.kind=7:=aa1 k7;rw[(kj g1).2.2.1,ae,N0,ae];obtain⟨r,b,g0,k0,b0,hr⟩:=uZ (id:=a.id) (o:=true) hX q0 (by omega);refine aH k0 ?_;rw[aJ,aJ];simp only[aaY,aaX,ae];obtain⟨⟨o,n,k,rfl,h1⟩,hd⟩:=z0 hr (.inr k7) (by rw[k7];rfl);refine Bo (b0.cells go) h1 λe0 h0 d0 a0=>?_;exact tail b0 h0 d0 a0 (by omega) hd
  have k7:a.kind≠7:=aaZ k7
  have S0:a.kind=1\/a.kind=2:=by
   by_cases e1:a.kind=1;·exact .inl e1
   by_cases e2:a.kind=2;·exact .inr e2
   exfalso;unfold eC nu at o0;rw[aa4 e1,aa4 e2,aa4 h3,aa4 h4,aa4 k5,jz]at o0;simp at o0
  rw[(kj g1).2.2.2,ae,show ah TE p0 184 (aeq m1.n 0)=some (a.v w) by rw[DE,aP (n:=15) ga (by show 0+15<=15;decide)];rfl,ae];obtain⟨rv,g0,k0,b0,hr⟩:=Jk hX L0 hP q0 (by omega) (hw.aG j0) b1 S0;refine aH k0 ?_;have n38:=b0.n;unfold SE at hr
  have fin:∀{r r2:aes} {b:Bool},rv=.tuple #[.agg #[r,r2],.bool b]->one r->one r2->(match oN (bR l) ms a with |some (vs,ns)=>b=true/\fj vs ns g0 (.agg #[r,r2])/\cx vs/\ns.length < 4611686018427387904 |none=>b=false)->∀e0:M,e0.n=g0.n->e0.get m3.n=.cells [r,r2] 33 none->(∀c,c≠m3.n->e0.get c=g0.get c)->(match oN (bR l) ms a with |some (vs,ns)=>b=true/\fj vs ns e0 (.agg #[r,r2])/\cx vs/\ns.length < 4611686018427387904 |none=>b=false):=by
   intro r r2 b _ _ _ hd e0 h0 d0 a0
   cases e:oN (bR l) ms a with
   |none=>rw[e]at hd;exact hd
   |some d=>have⟨vs,ns⟩:=d;rw[e]at hd;have⟨d1,d2,d3⟩:=hd;have m0:=b0.cells go;exact⟨d1,d2.bs λc cs t g hc ht=>by rw[a0 c (λe=>by subst e;rw[m0]at hc;cases hc;exact ht rfl),hc],d3⟩
  obtain⟨r,r2,b,rfl,h1,h2,hd⟩:∃r r2 b,rv=.tuple #[.agg #[r,r2],.bool b]/\one r/\one r2/\(match oN (bR l) ms a with |some (vs,ns)=>b=true/\fj vs ns g0 (.agg #[r,r2])/\cx vs/\ns.length < 4611686018427387904 |none=>b=false):=by
   cases e:oN (bR l) ms a with
   |none=>rw[e]at hr;have⟨r,r2,e1,e2,e3⟩:=hr;exact⟨r,r2,false,e1,e2,e3,rfl⟩
   |some d=>
    have⟨vs,ns⟩:=d;rw[e]at hr;obtain⟨_,e1,acc,r,r2,rfl,e2,e3,e4⟩:=hr
    have E1:ns.length<=ms.length:=by
     unfold oN at e;rcases S0 with k |k
     ·rw[aa5 k]at e
      cases e5:qA (bR l) a.un with
      |none=>rw[e5]at e;cases e
      |some q=>rw[e5]at e;cases e;exact aaV _
     rw[jz,aa5 k]at e;split at e;·cases e;exact Gc _ _
     cases e
    exact⟨r,r2,true,e1,e3.sl.one,e4.one,rfl,⟨acc,r,r2,rfl,e2,e3,e4⟩,HQ hP e,by omega⟩
  rw[aJ,aJ];simp only[aaY,aaX,ae];refine aD dV (b0.cells go) rfl rfl (by show(one r && (one r2 && true))=true;rw[h1,h2];rfl) λe0 h0 d0 a0=>?_;have d0:e0.get m3.n=.cells [r,r2] 33 none:=d0;exact Aa (m:=m) (D:=oN (bR l) ms a) hX d0 (by rw[a0 _ (by omega)];exact b0.cells gr) (fin rfl h1 h2 hd e0 h0 d0 a0) (by omega) (by omega) (by omega) (λc hc=>by rw[a0 c (by omega),b0.get c (by omega),j0.get c hc]) hR
 refine H _ λv e m' lo v1 hx hs=>?_;show(bF (.tuple #[v,aev e])/\m.n<=lo/\(m.n=m.n/\Ext m m/\oF _ m (.tuple #[v,aev e])))\/((bF (.tuple #[v,aev e])=false\/lo < m.n)/\(min m.n lo=m.n/\Ext m m'/\oF _ m' (.tuple #[v,aev e])));cases hf:bF (.tuple #[v,aev e]);·exact .inr ⟨.inl rfl,by omega,hx,hs⟩
 exact .inl ⟨rfl,v1,rfl,.refl,hs.flat hf m⟩
theorem Di{α:Type}[aZ α]{T:TypeId}(hT:rH TE T α)(i0:aZ.dd α=[]){n1:Nat}{acc:List α}{r v:aes}{cs:aet}{x:α}(hw:Ow n1 m acc r)(hn:n1<=m.n)(j0:acc.length < 1000000)
  (d0:aI TE m T 1 [(0,v)]=some (aer m.n 0 1 1,m.push (.cells cs (aZ.ty α) none))) (hr:∀m',aZ.rep m' x cs) {P:aes->M->Prop}
  (hP:∀r' m2,Ow n1 m2 (acc++ [x]) r'->m.n<=m2.n->(∀c,c < n1->m2.get c=m.get c)->(∀c,c < m.n->(∀cs g,m.get c≠.cells cs (aZ.ty α) g)->m2.get c=m.get c)->n1<=m2.low->(∀c,c < m.n->(∀a n k,r=.slice (some a) n k->c≠a.block)->m2.get c=m.get c)->(∀a n k,r'=.slice (some a) n k->m.n<=a.block)->P r' m2):
  aR (aI TE m T 1 [(0,v)]) λa m1=>aR (az TE (M.wl m1 (M.n m1)) .append [T,T] [r,a]) λr' m2=>P r' m2:=by
 rw[d0,aA];obtain⟨m1,H⟩:∃y,y=m.push (.cells cs (aZ.ty α) none):=⟨_,rfl⟩
 rw[<-H];have a0:Ext m m1:=by rw[H];exact Ext.refl.push
 have k0:m1.n=m.n+1:=by rw[H];rfl
 have e0:m1.get m.n=.cells cs (aZ.ty α) none:=by rw[H];exact M.aY
 have g0:=hw.aG a0;obtain⟨r',m2,e1,h1,h2,h3,h4⟩:=g0.append hT (by grind) (gH e0 (hr _)) (by omega) (by grind);rw[e1,aA];have ho:∀c,c < m.n->(∀a n k,r=.slice (some a) n k->c≠a.block)->m2.get c=m.get c:=λc hc b0=>by rw[eP e1 (by omega) b0,a0.get c hc]
 refine hP r' m2 h1 (by have:=h2.n;omega) (λc hc=>by rw[h2.get c hc,a0.get c (by omega)]) (λc hc b0=>ho c hc λad n k e he=>?_) h3 ho λa n k e=>?_
 ·have⟨h0,g',l0,_⟩:=mQ hw e
  grind
 obtain⟨k',rfl⟩:∃k,r'=aer m1.n 0 k k:=by
  rcases hw with⟨rfl,_⟩ |⟨b,h0,rfl,_⟩;·exact⟨_,ki e1 rfl (by simp)⟩
  exact⟨_,ki e1 rfl (by simp)⟩
 cases e;show m.n<=m1.n;omega
theorem fP{α:Type}[aZ α]{T:TypeId}(hT:rH TE T α)(a0:aZ.dd α=[]){n1:Nat}{acc:List α}{r v:aes}{cs:aet}{x:α}(hw:Ow n1 m acc r)(hn:n1<=m.n)(b0:acc.length < 1000000)
  (d0:aI TE m T 1 [(0,v)]=some (aer m.n 0 1 1,m.push (.cells cs (aZ.ty α) none))) (hr:∀m',aZ.rep m' x cs) {P:aes->M->Prop}
  (hP:∀H m2,Ow n1 m2 (acc++ [x]) H->m.n<=m2.n->(∀c,c < n1->m2.get c=m.get c)->(∀c,c < m.n->(∀cs g,m.get c≠.cells cs (aZ.ty α) g)->m2.get c=m.get c)->n1<=m2.low->P H m2):
  aR (aI TE m T 1 [(0,v)]) λa m1=>aR (az TE (M.wl m1 (M.n m1)) .append [T,T] [r,a]) λH m2=>P H m2:=
 Di hT a0 hw hn b0 d0 hr λH m2 h1 h2 h3 h4 h5 _ _=>hP H m2 h1 h2 h3 h4 h5
end
theorem Zs{X:aM}{x0 x1:aes}{m:M}{R:aet->M->Nat->Prop}:dU TE (aO TE X) f222 [x0,x1] m R=ρ m x1 141 λa=>Lp (λa b c d=>un b λb f=>un f λf g=>un g λg _=>κ c .len [58] [x0] λh _=>η .lss 3 g h λh=>aU h (ζ 58 x0 g λh=>δ c 141 h λh=>ψ X 299 [x0,g] c λi j k=>(c.n<=k)/\(δ j 141 (υ m) λc=>ψ X 223 [h,i,c] j λc h i=>η .lss 3 c (χ 0) λj=>aU j (R [χ (-1)] h (ω d k i)) (η .eql 3 c (χ 0) λc=>aU c (η .add 3 g (χ 1) λc=>a [b,χ 0,c] h (ω d k i)) (η .add 3 g (χ 1) λc=>a [b,f,c] h (ω d k i))))) (R [f] c d)) [χ 0,χ 1,χ 0] a m.n:=by kernel_rfl
section
variable {X:aM} {m:M}
theorem yD{l:List Pl}{p:Pl}:∀(n i:Nat),i<=n->fV l p n<=fV l p i
 |0,i,h=>by grind
 |n+1,i,h=>by
  by_cases e:i=n+1
  ·grind
  ·have H:=yD (l:=l) (p:=p) n i (by omega)
   rw[fV]
   grind
theorem HS{x:Int}(h:0 < x):cZ x 0=1:=by unfold cZ;rw[jz,aa5 h]
theorem CM(hX:cy X){l:List Pl}{v:aes}{p:Pl}(hl:Sl m l v)(hb:l.length < 1000000)(e0:∀a∈l,a.sm 1000000)(hp:p.sm 1000000):C X (.func 222) [v,p.v] m m.n (aev (Db l p)) m:=by
 refine Cl.fl hX (aaU func222) ?_;rw[Zs];dsimp only[δ,ζ,η,κ,ρ,υ,χ,ψ,ω];refine aw λm1 m0 H g0=>?_;have H:m1.get m.n=.cells p.c 141 none:=H;have h0:Ext m m1:=⟨by omega,g0⟩
 have a0:=hl.aG h0;have i0:ah TE m1 141 (aeq m.n 0)=some p.v:=by rw[kX,aP H (by simp[Pl.c])];rfl
 unfold ptrTo;refine Lp.intro (γ:=Nat) (λi=>l.length-i) (λi vs mm lo=>∃w0,vs=[w0,aev (cZ (fV l p i) 0),aev i]/\i<=l.length/\m1=mm/\m.n<=lo/\0<=fV l p i) 0 ⟨_,rfl,aa6 _,rfl,aaV _,(show(0:Int)<=4611686018427387903 by decide)⟩ ?_;rintro i vs mm lo ⟨w0,rfl,hi,rfl,j0,l0⟩;rw[aE,aE,aE,a0.len cF,aA,aQ,ae,ak];refine av (λb0=>?_) (λn0=>?_)
 ·have b0:i < l.length:=by grind
  obtain⟨a,ha⟩:∃a,l[i]?=some a:=⟨_,aaW b0⟩
  obtain⟨b,d0⟩:∃b,l[(i+1)%l.length]?=some b:=⟨_,aaW (acI _ (by omega))⟩
  have⟨q,e1,e2⟩:=a0.dW (k:=.i64) ha;have o0:fV l p (i+1)=min (fV l p i) (dj a b p):=by rw[fV,ha,d0]
  rw[e1,ae,e2,ae];refine aH (FR hX a0 (by omega) b0 d0) ⟨aaV _,?_⟩;rw[i0,ae];refine aH (ye hX (e0 a (aa2 ha)) (e0 b (aa2 d0)) hp) ?_;rw[aQ,ae,ak];refine av (λh1=>?_) (λh1=>?_)
  ·have h1:dj a b p < 0:=by grind
   have h2:=yD (l:=l) (p:=p) l.length (i+1) (by omega)
   have:Db l p= -1:=by unfold Db cZ;rw[YN]
   rw[this];exact⟨rfl,by omega⟩
  have h1:¬dj a b p < 0:=by grind
  rw[aW,ae,ak];refine av (λh2=>?_) (λh2=>?_)
  ·have h2:dj a b p=0:=by grind
   rw[aS,ae,wrap64]
   have:cZ (fV l p (i+1)) 0=0:=by unfold cZ;rw[jz,jz]
   exact⟨i+1,by omega,w0,by grind,by omega,rfl,by omega,by omega⟩
  have h2:¬dj a b p=0:=by grind
  rw[aS,ae,wrap64]
  have:cZ (fV l p (i+1)) 0=cZ (fV l p i) 0:=by
   by_cases e:0 < fV l p i;·rw[HS e,HS (by omega)]
   rw[show fV l p i=0 by omega,show fV l p (i+1)=0 by omega]
  exact⟨i+1,by omega,w0,by grind,by omega,rfl,by omega,by omega⟩
 have k0:i=l.length:=by
  have:¬(i:Int)< (l.length:Int):=by grind
  omega
 subst k0;exact⟨rfl,j0⟩
def iV(x y:Nat):List Pl:=((List.range x).flatMap λ(i:Nat)=>(List.range 41).map λ(j:Nat)=>(⟨(i:Int),(j:Int)⟩:Pl))++(List.range y).map λ(j:Nat)=>⟨(x:Int),(j:Int)⟩
theorem yJ(x y:Nat):iV x (y+1)=iV x y++ [⟨(x:Int),(y:Int)⟩]:=by unfold iV;rw[acG (n:=y),abE,abv];rfl
theorem DW(x:Nat):iV (x+1) 0=iV x 41:=by unfold iV;rw[acG (n:=x),acz];simp
theorem yK(x:Nat):∀y,(iV x y).length<=41*x+y:=by
 induction x with
 |zero=>intro y;unfold iV;simp
 |succ x H=>
  intro y
  induction y with
  |zero=>rw[DW];have:=H 41;omega
  |succ y a0=>rw[yJ,abq];simp only[abe,abu];omega
def zo(a b:List Pl)(p:Pl):Bool:=decide (Db a p=0) && decide (Db b p=0)
def mw(a b:List Pl):List Pl:=(iV 41 0).filter (zo a b)
def Bv(a b:List Pl):Option (Pl×Pl):=if(mw a b).length < 2 then none else some (if a.any (λx=>decide (dj ((mw a b).getD 0 ⟨0,0⟩) ((mw a b).getD ((mw a b).length-1) ⟨0,0⟩) x < 0))=true then((mw a b).getD ((mw a b).length-1) ⟨0,0⟩,(mw a b).getD 0 ⟨0,0⟩)else((mw a b).getD 0 ⟨0,0⟩,(mw a b).getD ((mw a b).length-1) ⟨0,0⟩))
def fN(a b:List Pl):Option (Pl×Pl):=if(bM a && bM b && !fo a b)=true then Bv a b else none
theorem MF{mm:M}{z:Nat}{o:Option (Pl×Pl)}{P:M->Nat->aes->Prop}(g:mm.get z=.cells rV 143 none)(hP:∀m',m'.n=mm.n->P m' z (.agg (iz o).toArray)):
  aR (aF TE mm 143 (aeq z 0) (.agg (iz o).toArray)) λm' b=>aj (ah TE m' 143 (aeq z 0)) λv=>P m' b v:=by
 refine aD oT g (by rw[aX];exact fA _) (by rw[aX];exact fA _) (by rw[aX];exact tU _) λm' a0 H b0=>?_
 rw[aX]at H
 rw[show ah TE m' 143 (aeq z 0)=some (.agg (iz o).toArray) by rw[mU,aP (n:=4) H (by simp only[adN];rw[fA];decide)];simp only[adN,abM];rw[abk (by rw[fA];exact aaV _)];rfl,ae]
 grind
theorem ME(hX:cy X){a b:List Pl}{va vb:aes}(ha:Sl m a va)(hb:Sl m b vb)(la:a.length < 1000000)(lb:b.length < 1000000):
  C X (.func 175) [va,vb] m m.n (.tuple #[.agg (iz (fN a b)).toArray,.bool (fN a b).isSome]) m:=by
 refine Cl.flat (hX.no _ rfl) (aaU func175) rfl (by cases fN a b <;>rfl) ?_;rw[ZS];dsimp only[δ,ζ,η,θ,ι,κ,ν,ο,ς,υ,χ,ψ,Γ,ω];refine aw λm1 J1 d1 e1=>?_;have g0:m1.get m.n=.cells rV 143 none:=d1;have q0:Ext m m1:=⟨by omega,e1⟩
 have H0:=ha.aG q0;have I0:=hb.aG q0;unfold ptrTo;refine bA (λvs m' lo=>vs=[.bool (!(bM a && bM b && !fo a b))]/\m1=m'/\m.n<=lo) (λR hR=>?_) ?_
 ·refine aH (mK hX H0 (by omega)) ?_;rw[bE,ae,ak];refine av (λc=>hR _ _ _ ⟨?_,rfl,by omega⟩) (λc=>?_)
  ·rw[abo]at c;rw[c];rfl
  rw[abj]at c;refine aH (mK hX I0 (by omega)) ?_;rw[bE,ae,ak];refine av (λd=>hR _ _ _ ⟨?_,rfl,by omega⟩) (λd=>?_)
  ·rw[abo]at d;rw[c,d];rfl
  rw[abj]at d;refine aH (vt hX H0 I0 la lb) ?_;exact hR _ _ _ ⟨by simp_all,rfl,by omega⟩
 rintro _ _ lo ⟨rfl,rfl,J0⟩;rw[aE,ak]
 have d0:∀{H:M} {lo:Nat},H.get m.n=.cells rV 143 none->m.n<=lo->fN a b=none->aj (aK TE 143 []) λD0=>aR (aF TE H 143 (aeq m.n 0) D0) λm20 E0=>aj (ah TE m20 143 (aeq m.n 0)) λv22=>bz [v22,aey]=.tuple #[.agg (iz (fN a b)).toArray,.bool (fN a b).isSome]/\m.n<=min lo E0:=by intro H lo g hl e;rw[show aK TE 143 []=some (.agg (iz none).toArray)from pL,ae];refine MF g λm' g1=>⟨by rw[e];rfl,by omega⟩
 have e0:∀{H:M} {lo:Nat} {p q:Pl},H.get m.n=.cells rV 143 none->m.n<=lo->fN a b=some (p,q)->aj (aK TE 143 [(0,p.v),(1,q.v)]) λD0=>aR (aF TE H 143 (aeq m.n 0) D0) λm20 E0=>aj (ah TE m20 143 (aeq m.n 0)) λv22=>bz [v22,aex]=.tuple #[.agg (iz (fN a b)).toArray,.bool (fN a b).isSome]/\m.n<=min lo E0:=by intro H lo p q g hl e;rw[show aK TE 143 [(0,p.v),(1,q.v)]=some (.agg (iz (some (p,q))).toArray)from lH,ae];refine MF g λm' g1=>⟨by rw[e];rfl,by omega⟩
 refine av (λc=>?_) (λc=>?_)
 ·rw[abo]at c;exact d0 g0 J0 (by unfold fN;rw[aa4 (by grind)])
 rw[abj]at c;have K0:fN a b=Bv a b:=by unfold fN;rw[aa5 c]
 rw[aa3,aa3]at c;have sa:=jo c.1.1;have sb:=jo c.1.2;refine Lp.intro (γ:=Nat) (λx=>41-x) (λx vs H lo=>∃r,vs=[r,aev x]/\x<=41/\Ext m1 H/\m.n<=lo/\Ow m1.n H ((iV x 0).filter (zo a b)) r) 0 ⟨_,rfl,by omega,.refl,J0,Ow.nil⟩ ?_;rintro x vs H K1 ⟨r,rfl,hx,b0,u0,ho⟩;rw[aE,aE,cE,ae,ak];refine av (λm0=>?_) (λh1=>?_)
 ·have m0:(x:Int)<=40:=aa1 m0;refine Lp.intro (γ:=Nat) (λy=>41-y) (λy vs H lo=>∃r,vs=[r,aev y]/\y<=41/\Ext m1 H/\m.n<=lo/\Ow m1.n H ((iV x y).filter (zo a b)) r) 0 ⟨_,rfl,by omega,b0,u0,ho⟩ ?_;rintro y vs H gh ⟨r,rfl,hy,b0,L0,ho⟩;have nm:=b0.n;rw[aE,aE,cE,ae,ak];refine av (λN0=>?_) (λL1=>?_)
  ·have N0:(y:Int)<=40:=aa1 N0;obtain⟨p,hp⟩:∃p:Pl,p=⟨(x:Int),(y:Int)⟩:=⟨_,rfl⟩
   have r0:p.sm 1000000:=by rw[hp];refine⟨?_,?_,?_,?_⟩ <;>(simp only[];omega)
   rw[show aK TE 141 [(0,aev x),(1,aev y)]=some p.v by rw[my rfl rfl,hp];rfl,ae];refine aw λN1 v1 O0 w1=>?_;refine aD di O0 rfl rfl rfl λF0 y1 h0 z1=>?_;have h0:F0.get H.n=.cells p.c 141 none:=h0;have k0:Ext H F0:=⟨by omega,by grind⟩
   have P0:=q0.trans (b0.trans k0);have v0:=ho.aG k0;refine bA (λvs m' lo=>vs=[.bool (zo a b p)]/\F0=m'/\m.n<=lo) (λR hR=>?_) ?_
   ·rw[bW h0,ae];refine aH (CM hX (ha.aG P0) la sa r0) ?_;rw[aW,ae,ak];refine av (λd=>?_) (λd=>?_)
    ·rw[bW h0,ae];refine aH (CM hX (hb.aG P0) lb sb r0) ?_;rw[aW,ae];exact hR _ _ _ ⟨by unfold zo;rw[d,abG],rfl,by omega⟩
    exact hR _ _ _ ⟨by unfold zo;rw[d,acQ],rfl,by omega⟩
   rintro _ _ j1 ⟨rfl,rfl,y0⟩;have O1:=yK x y;have A1:=acf (zo a b) (iV x y);rw[aE,ak];refine av (λd=>?_) (λd=>?_)
   ·rw[bW h0,ae];refine fP (x:=p) uT rfl v0 (by omega) (by omega) Fo (λ_=>rfl) λr' P1 w2 n2 k2 T1 l2=>?_;rw[aS,ae,wrap64];refine⟨y+1,by omega,r',rfl,by omega,⟨by omega,λc hc=>by rw[k2 c hc,k0.get c (by omega),b0.get c hc]⟩,by omega,?_⟩;rw[yJ,abB,<-hp,abQ,aa5 d];exact w2
   rw[aS,ae,wrap64];refine⟨y+1,by omega,r,rfl,by omega,b0.trans k0,y0,?_⟩;rw[yJ,abB,<-hp,abQ,aa4 (by grind),acC,abJ];exact v0
  have k1:y=41:=by
   grind
  subst k1;rw[aS,ae,wrap64];exact⟨x+1,by omega,r,rfl,by omega,b0,L0,by rw[DW];exact ho⟩
 have o1:x=41:=by
  grind
 subst o1;have ho:Ow m1.n H (mw a b) r:=ho;have nm:=b0.n;have gz:=b0.cells g0;have b2:(mw a b).length<=1681:=acn (acf _ _) (yK 41 0);rw[ho.sl.len cF,aA,aQ,ae,ak];refine av (λh2=>?_) (λh2=>?_)
 ·have h2:(mw a b).length < 2:=by grind
  exact d0 gz u0 (by rw[K0];unfold Bv;rw[aa5 h2])
 have h2:¬(mw a b).length < 2:=by grind
 obtain⟨k,hk⟩:∃k,k=(mw a b).length-1:=⟨_,rfl⟩
 obtain⟨p,hp⟩:∃p,(mw a b)[0]?=some p:=⟨_,qz⟩
 obtain⟨q,hq⟩:∃q,(mw a b)[k]?=some q:=⟨_,qz⟩
 have z0:∀z∈mw a b,z.sm 1000000:=by
  intro z hz;have hz:=(abX.1 hz).1;unfold iV at hz;simp only[abp,adl,abF,acR]at hz;rcases hz with⟨i,hi,j,hj,rfl⟩ |⟨j,hj,_⟩;·refine⟨?_,?_,?_,?_⟩ <;>(simp only[];omega)
  omega
 have r0:=z0 p (aa2 hp);have p1:=z0 q (aa2 hq);have r1:(mw a b).getD 0 ⟨0,0⟩=p:=by grind
 have u1:(mw a b).getD k ⟨0,0⟩=q:=by grind
 have A0:fN a b=some (if a.any (λx=>decide (dj p q x < 0))=true then(q,p)else(p,q)):=by rw[K0];unfold Bv;rw[aa4 h2,<-hk,r1,u1]
 have⟨a0,i0,l0⟩:=ho.sl.dW (k:=.i64) hp;have i0:an TE 58 r (aev 0)=some a0:=i0;rw[i0,ae,l0,ae];refine aw λc2 B1 S0 C1=>?_;refine aD di S0 rfl rfl rfl λs0 D1 n0 E1=>?_;have n0:s0.get H.n=.cells p.c 141 none:=n0;have o0:Ext H s0:=⟨by omega,by grind⟩
 have B0:=ho.aG o0;have⟨a1,i1,l1⟩:=B0.sl.dW (k:=.i64) hq;rw[B0.sl.len cF,aA,dJ,ae,wrap64,show((mw a b).length:Int)-1=(k:Int) by omega,i1,ae,l1,ae];refine aw λd2 F1 b1 G1=>?_;refine aD di b1 rfl rfl rfl λG0 H1 j0 I1=>?_;have j0:G0.get s0.n=.cells q.c 141 none:=j0;have p0:Ext s0 G0:=⟨by omega,by grind⟩
 have gp:=p0.cells n0;have gz:=p0.cells (o0.cells gz);have C0:=ha.aG (q0.trans ((b0.trans o0).trans p0));refine Lp.intro (γ:=Nat) (λi=>a.length-i) (λi vs H lo=>∃z,vs=[z,aev i]/\i<=a.length/\G0=H/\m.n<=lo/\∀j w,j < i->a[j]?=some w->¬dj p q w < 0) 0 ⟨_,rfl,aa6 _,rfl,by omega,λj w hj=>by omega⟩ ?_;rintro i vs _ j1 ⟨z,rfl,hi,rfl,y0,c1⟩;rw[aE,aE,C0.len cF,aA,aQ,ae,ak];refine av (λm0=>?_) (λh1=>?_)
 ·have m0:i < a.length:=by grind
  obtain⟨w,hw⟩:∃w,a[i]?=some w:=⟨_,aaW m0⟩
  have⟨a2,i2,l2⟩:=C0.dW (k:=.i64) hw;rw[bW gp,ae,bW j0,ae,i2,ae,l2,ae];refine aH (ye hX r0 p1 (sa w (aa2 hw))) ?_;rw[aQ,ae,ak];refine av (λd=>?_) (λd=>?_)
  ·rw[bW j0,ae,bW gp,ae];refine e0 gz (by omega) ?_;rw[A0,aa5 (ab8.2 ⟨w,aa2 hw,d⟩)]
  rw[aS,ae,wrap64];refine⟨i+1,by omega,z,rfl,by omega,rfl,by omega,λj y hj hy=>?_⟩;by_cases e:j=i
  ·subst e;rw[hw]at hy;cases hy;exact aaZ d
  exact c1 j y (by omega) hy
 have e2:i=a.length:=by
  grind
 rw[bW gp,ae,bW j0,ae];refine e0 gz (by omega) ?_;rw[A0,aa4];intro e;have⟨w,hw,hd⟩:=ab8.1 e;have⟨j,hj⟩:=abi hw;exact c1 j w (by grind) hj (aa1 hd)
def ep(u v:Un):Option Ct:=if jW u v then(fN u.shape v.shape).map λs=>⟨u.id,v.id,s.1,s.2,max u.back v.back,min u.front v.front⟩else none
theorem pX(hX:cy X){a b:Un}{va vb:aes}(ha:Sl m a.shape va)(hb:Sl m b.shape vb)(la:a.shape.length < 1000000)(lb:b.shape.length < 1000000):
  C X (.func 130) [a.v va,b.v vb] m m.n (.tuple #[.agg (CF (ep a b)).toArray,.bool (ep a b).isSome]) m:=by
 refine Cl.flat (hX.no _ rfl) (aaU func130) rfl (by cases ep a b <;>rfl) ?_
 rw[aag];dsimp only[δ,ε,θ,ι,κ,ξ,ο,ρ,ς,υ,χ,ψ,Δ,ω]
 refine aw λm1 r0 k0 s0=>?_
 refine aw λm2 u0 l0 v0=>?_
 refine aw λm3 y0 m0 z0=>?_
 simp only[aX]at k0 l0
 have g0:Ext m m3:=⟨by omega,by grind⟩
 have g1:m3.get m.n=.cells (a.c va) 60 none:=by grind
 have g2:m3.get m1.n=.cells (b.c vb) 60 none:=by grind
 have g3:m3.get m2.n=.cells Ct.zc 145 none:=m0
 obtain⟨a0, -, -,a3,a4,a5⟩:=kb g1
 obtain⟨b0, -, -,b3,b4,b5⟩:=kb g2
 have h0:=ha.aG g0
 have i0:=hb.aG g0
 unfold ptrTo
 rw[bV g1,ae,bV g2,ae]
 refine aH (vr (m:=m3) hX h0 i0 (by omega) (by omega)) ?_
 rw[bE,ae,ak]
 refine av (λh=>?_) (λh=>?_)
 ·have h:jW a b=false:=by grind
  have e:ep a b=none:=by unfold ep;rw[aa4 (by grind)]
  rw[kJ,ae];refine mu g3 rfl λm' hn=>?_;rw[e];exact⟨rfl,by omega⟩
 have h:jW a b:=by grind
 have e:ep a b=(fN a.shape b.shape).map λs=>⟨a.id,b.id,s.1,s.2,max a.back b.back,min a.front b.front⟩:=by unfold ep;rw[aa5 h]
 rw[bL,ae,a3,ae,bL,ae,b3,ae]
 refine aH (ME hX h0 i0 la lb) ?_
 rw[aJ,aJ]
 simp only[aaY,aaX,ae]
 refine aw λA0 n0 j0 o0=>?_
 refine aD oT j0 (by rw[aX];exact fA _) (by rw[aX];exact fA _) (by rw[aX];exact tU _) λH p0 e0 q0=>?_
 rw[aX]at e0
 have e0:H.get m3.n=.cells (iz (fN a.shape b.shape)) 143 none:=e0
 have B0:∀c,c < m3.n->H.get c=m3.get c:=by grind
 have r3:H.get m2.n=.cells Ct.zc 145 none:=by grind
 rw[bE,ae,ak]
 cases hs:fN a.shape b.shape with
 |none=>show gG true _ _;rw[bH,kJ,ae];refine mu r3 rfl λm' hn=>?_;rw[e,hs];exact⟨rfl,by omega⟩
 |some s=>
  show gG false _ _;rw[aT];have r1:H.get m.n=.cells (a.c va) 60 none:=by grind
  have r2:H.get m1.n=.cells (b.c vb) 60 none:=by grind
  rw[hs]at e0;obtain⟨c0, -, -, -,c4,c5⟩:=kb r1;obtain⟨d0, -, -, -,d4,d5⟩:=kb r2;simp only[bD,cQ,cP,ae];rw[c0,ae,d0,ae];rw[show ah TE H 143 (aeq m3.n 0)=some (.agg (js s.1 s.2).toArray) by rw[mU,aP e0 (by rw[fA];exact aaV _)];rfl,ae,c4,ae,d4,ae];rw[show az TE H .max [3,3] [aev a.back,aev b.back]=some (aev (max a.back b.back),H)from qe,aA,c5,ae,d5,ae];rw[show az TE H .min [3,3] [aev a.front,aev b.front]=some (aev (min a.front b.front),H)from ke,aA,tu,ae];refine mu r3 rfl λm' hn=>?_;rw[e,hs];refine⟨?_,by omega⟩;first |rfl |trivial
def nE(l:List Pl):List Pl:=l.filter λp=>decide (p.y=0)
def eJ(u:Un):Option Ct:=if jF u then(if(nE u.shape).length=2 then some (if((nE u.shape).getD 1 ⟨0,0⟩).x < ((nE u.shape).getD 0 ⟨0,0⟩).x then⟨u.id, -1,(nE u.shape).getD 1 ⟨0,0⟩,(nE u.shape).getD 0 ⟨0,0⟩,u.back,u.front⟩else⟨u.id, -1,(nE u.shape).getD 0 ⟨0,0⟩,(nE u.shape).getD 1 ⟨0,0⟩,u.back,u.front⟩)else none)else none
theorem EW(hX:cy X){a:Un}{va:aes}(ha:Sl m a.shape va)(la:a.shape.length < 1000000):
  C X (.func 129) [a.v va] m m.n (.tuple #[.agg (CF (eJ a)).toArray,.bool (eJ a).isSome]) m:=by
 refine Cl.flat (hX.no _ rfl) (aaU func129) rfl (by cases eJ a <;>rfl) ?_;rw[aah];dsimp only[δ,ε,ζ,η,θ,ι,κ,ν,ο,ρ,ς,υ,χ,ψ,Γ,ω];refine aw λm1 k1 F0 l1=>?_;refine aw λm2 o1 G0 r1=>?_;simp only[aX]at F0;have H0:Ext m m2:=⟨by omega,by grind⟩
 have g1:m2.get m.n=.cells (a.c va) 60 none:=by grind
 have g2:m2.get m1.n=.cells Ct.zc 145 none:=G0;have u0:=ha.aG H0;unfold ptrTo;simp only[bD,bL,cQ,cP,ae];rw[bV g1,ae];refine aH (iP hX u0 (by omega)) ?_;rw[bE,ae,ak];refine av (λh=>?_) (λh=>?_)
 ·have h:jF a=false:=by grind
  have e:eJ a=none:=by unfold eJ;rw[aa4 (by grind)]
  rw[kJ,ae];refine mu g2 rfl λm' hn=>?_;rw[e];exact⟨rfl,by omega⟩
 have h:jF a:=by grind
 refine Lp.intro (γ:=Nat) (λi=>a.shape.length-i) (λi vs mm lo=>∃r,vs=[r,aev i]/\i<=a.shape.length/\Ext m2 mm/\m.n<=lo/\Ow m2.n mm (nE (a.shape.take i)) r) 0 ⟨_,rfl,aa6 _,.refl,by omega,Ow.nil⟩ ?_;rintro i vs mm lo ⟨r,rfl,hi,H,I0,ho⟩;have nm:=H.n;obtain⟨c0, -, -,c3,c4,c5⟩:=kb (H.cells g1);have p0:=u0.aG H;rw[aE,aE,c3,ae,p0.len cF,aA,aQ,ae,ak];refine av (λv0=>?_) (λJ0=>?_)
 ·have v0:i < a.shape.length:=by grind
  obtain⟨p,hp⟩:∃p,a.shape[i]?=some p:=⟨_,aaW v0⟩
  have⟨b0,o0,bc,g0,cs,e0,q0,h0,_,r0⟩:=p0.gM cF (k:=.i64) hp;have h0:cs=p.c:=h0;subst h0;have⟨a0,i0,l0⟩:=p0.dW (k:=.i64) hp;obtain rfl:a0=aeq b0 o0:=Option.some.inj (i0.symm.trans e0);have y0:a.shape.take (i+1)=a.shape.take i++ [p]:=by rw[abg,hp];rfl
  have u1:(nE (a.shape.take i)).length<=i:=by have:=acf (λp:Pl=>decide (p.y=0)) (a.shape.take i);rw[abP]at this;unfold nE;omega
  rw[ae,e0,ae,cU,ae,show ah TE mm 3 (aeq b0 (o0+1))=some (aev p.y) by rw[bO,aL q0,r0 1 (by decide)];rfl,ae,aW,ae,ak];refine av (λd=>?_) (λd=>?_)
  ·rw[ae,e0,ae,l0,ae];refine fP (x:=p) uT rfl ho nm (by omega) Fo (λ_=>rfl) λr' v1 w2 n2 k2 w1 l2=>?_;rw[aS,ae,wrap64];refine⟨i+1,by omega,r',rfl,by omega,⟨by omega,λc hc=>by rw[k2 c hc,H.get c hc]⟩,by omega,?_⟩;rw[y0];unfold nE at w2⊢;rw[abB,abQ,aa5 d];exact w2
  rw[aS,ae,wrap64];refine⟨i+1,by omega,r,rfl,by omega,H,I0,?_⟩;rw[y0];unfold nE at ho⊢;rw[abB,abQ,aa4 (by grind),acC,abJ];exact ho
 have K0:i=a.shape.length:=by have:¬(i:Int)< (a.shape.length:Int):=aaZ J0;omega
 subst K0;rw[abk (aaV _)]at ho;have z0:=H.cells g2;rw[ho.sl.len cF,aA,bZ,ae,ak];refine av (λd=>?_) (λd=>?_)
 ·have d:(nE a.shape).length≠2:=by intro e;rw[e]at d;simp at d
  have e:eJ a=none:=by unfold eJ;rw[aa5 h,aa4 d]
  rw[kJ,ae];refine mu z0 rfl λm' hn=>?_;rw[e];exact⟨rfl,by omega⟩
 have d:(nE a.shape).length=2:=by simp at d;omega
 obtain⟨p,hp⟩:∃p,(nE a.shape)[0]?=some p:=⟨_,qz⟩
 obtain⟨q,hq⟩:∃q,(nE a.shape)[1]?=some q:=⟨_,qz⟩
 have L0:(nE a.shape).getD 0 ⟨0,0⟩=p:=by grind
 have N0:(nE a.shape).getD 1 ⟨0,0⟩=q:=by grind
 have n0:eJ a=some (if q.x < p.x then⟨a.id, -1,q,p,a.back,a.front⟩else⟨a.id, -1,p,q,a.back,a.front⟩):=by unfold eJ;rw[aa5 h,aa5 d,L0,N0]
 have m0:∀{m':M} {k:Nat} {z:Pl},Ext mm m'->(nE a.shape)[k]?=some z->∃ad,an TE 58 r (aev k)=some ad/\ah TE m' 141 ad=some z.v/\∃A0,af TE 141 ad 0=some A0/\ah TE m' 3 A0=some (aev z.x):=by intro m' k z hx hz;have hs:=ho.sl.aG hx;have⟨b0,o0,bc,g0,cs,e0,q0,h0,_,r0⟩:=hs.gM cF (k:=.i64) hz;have h0:cs=z.c:=h0;subst h0;have⟨a0,i0,l0⟩:=hs.dW (k:=.i64) hz;obtain rfl:a0=aeq b0 o0:=Option.some.inj (i0.symm.trans e0);exact⟨_,i0,l0,_,ck,by rw[bO,aL q0,r0 0 (by decide)];rfl⟩
 obtain⟨pa,p1,p2, -, -, -⟩:=m0 .refl hp;obtain⟨qa,q1,q2, -, -, -⟩:=m0 .refl hq;have p1:an TE 58 r (aev 0)=some pa:=p1;have q1:an TE 58 r (aev 1)=some qa:=q1;rw[p1,ae,p2,ae,q1,ae,q2,ae,lH,ae];refine aw λy1 d1 B0 e1=>?_;refine aD oT B0 rfl rfl rfl λC0 h1 j0 i1=>?_;have j0:C0.get mm.n=.cells (js p q) 143 none:=j0;have d0:Ext mm C0:=⟨by omega,by grind⟩
 have⟨O0,P0,S0,px,p3,p4⟩:=m0 d0 hp;have⟨a1,b1,c1,qx,q3,q4⟩:=m0 d0 hq;obtain rfl:pa=O0:=Option.some.inj (p1.symm.trans P0);obtain rfl:qa=a1:=Option.some.inj (q1.symm.trans b1);have D0:∀{m':M} {x y:Pl},m'.get mm.n=.cells (js x y) 143 none->ah TE m' 143 (aeq mm.n 0)=some (.agg (js x y).toArray):=λh=>by rw[mU,aP (n:=4) h (by show 0+4<=4;decide)];rfl
 rw[ae,p3,ae,p4,ae,ae,q3,ae,q4,ae,bX,ae,ak];obtain⟨f0, -, -, -,f4,f5⟩:=kb (d0.cells (H.cells g1));refine av (λc=>?_) (λc=>?_)
 ·have c:q.x < p.x:=aa1 c;rw[ae,c1,ae,ae,S0,ae,lH,ae];refine aD oT j0 rfl rfl rfl λs0 j1 k0 E0=>?_;have k0:s0.get mm.n=.cells (js q p) 143 none:=k0;obtain⟨f0, -, -, -,f4,f5⟩:=kb (show s0.get m.n=.cells (a.c va) 60 none by rw[E0 _ (by omega)];exact d0.cells (H.cells g1));rw[f0,ae,D0 k0,ae,f4,ae,f5,ae,tu,ae];refine mu (show s0.get m1.n=.cells Ct.zc 145 none by grind) rfl λm' hn=>?_;rw[n0,aa5 c];exact⟨rfl,by omega⟩
 have c:¬q.x < p.x:=aaZ c;rw[f0,ae,D0 j0,ae,f4,ae,f5,ae,tu,ae];refine mu (d0.cells z0) rfl λm' hn=>?_;rw[n0,aa4 c];exact⟨rfl,by omega⟩
def tX(us:List Un)(i:Nat):List Ct:=match us[i]? with
 |some u=>(eJ u).toList++(us.drop (i+1)).filterMap (ep u)
 |none=> []
def kc(us:List Un)(i:Nat):List Ct:=(List.range i).flatMap (tX us)
def tW(us:List Un):List Ct:=if fJ us=true then kc us us.length else []
theorem ny(us:List Un)(i:Nat):kc us (i+1)=kc us i++tX us i:=by unfold kc;rw[acG,acz];simp
theorem Fb(us:List Un)(i:Nat):(tX us i).length<=us.length+1:=by
 unfold tX
 grind
theorem oW(us:List Un):∀i,(kc us i).length<=i*(us.length+1)
 |0=>by simp[kc]
 |i+1=>by
  rw[ny,abq,Nat.succ_mul]
  have:=oW us i
  have:=Fb us i
  omega
theorem MX{α:Type}[aZ α]{l:List α}{r:aes}{m':M}{lo:Nat}{Q:Prop}(hQ:Q)(h:Ow m.n m' l r)(H:m.n<=lo)(hx:Ext m m'):
  (bF (bz [r])/\m.n<=lo/\(Q/\Ext m m/\Ow m.n m l r))\/((bF (bz [r])=false\/lo < m.n)/\(min m.n lo=m.n/\Ext m m'/\Ow m.n m' l r)):=by
 by_cases hl:l=[]
 ·subst hl;rcases h with⟨rfl,_⟩ |⟨b,cs,h1,h⟩;·exact .inl ⟨rfl,H,hQ,.refl,Ow.nil⟩
  ·grind
 obtain⟨b,rfl,_⟩:=mP h hl;exact .inr ⟨.inl rfl,by omega,hx,h⟩
theorem Bx(hX:cy X){l:List UW}{v:aes}(h:cY m l v)(hlen:l.length < 1000000):
  ∃r m',C X (.func 69) [.agg #[v]] m m.n r m'/\Ext m m'/\Ow m.n m' (tW (bR l)) r:=by
 refine Cl.kI hX (aaU func69) ?_;rw[F69];dsimp only[δ,ε,ζ,η,ι,κ,ν,ξ,ο,ρ,ς,υ,χ,ψ,Γ,ω];refine aw λm1 v1 j0 K0=>?_;have j0:m1.get m.n=.cells [v] 30 none:=j0;have y0:Ext m m1:=⟨by omega,K0⟩
 have u0:=h.aG y0;unfold ptrTo;simp only[bN,ae];rw[show ah TE m1 30 (aeq m.n 0)=some (.agg #[v]) by rw[ew,aP j0 (by simp)];rfl,ae];refine aH (kP hX u0 hlen) ?_;rw[bE,ae,ak];refine av (λc=>?_) (λc=>?_)
 ·rw[abo]at c;refine MX (m':=m1) (by grind) ?_ (by omega) y0;unfold tW;rw[aa4 (by grind)];exact Ow.nil
 rw[abj]at c;have hP:=mZ.1 c;have j1:l.length<=12:=by have:=hP.len;rwa[cI]at this
 have L0:(bR l).length=l.length:=cI;have z0:∀{m':M},m'.get m.n=.cells [v] 30 none->ah TE m' 28 (aeq m.n (0+0))=some v:=λh=>by rw[ez,aL h];rfl
 refine Lp.intro (γ:=Nat) (λi=>l.length-i) (λi vs mm lo=>∃r,vs=[r,aev i]/\i<=l.length/\Ext m1 mm/\m.n<=lo/\Ow m1.n mm (kc (bR l) i) r) 0 ⟨_,rfl,aa6 _,.refl,by omega,Ow.nil⟩ ?_;rintro i vs mm lo ⟨r,rfl,hi,k0,w1,ho⟩;have nm:=k0.n;have hF:=u0.aG k0;rw[aE,aE,z0 (k0.cells j0),ae,hF.sl.len dt,aA,aQ,ae,ak];refine av (λA0=>?_) (λN0=>?_)
 ·have A0:i < l.length:=by grind
  obtain⟨x,hx⟩:∃x,l[i]?=some x:=⟨_,aaW A0⟩
  have e0:=aa2 hx
  have O0:=iw hx
  have y1:=oW (bR l) i
  have yI:i*((bR l).length+1)<=12*13:=ad9 (by omega) (by omega)
  have⟨q,q1,q2,ow⟩:=hF.sl.fx (k:=.i64) hx
  rw[ae,q1,ae,q2,ae]
  refine aH (EW hX (hF.sh x e0) (hF.ln x e0)) ?_
  rw[aJ,aJ]
  simp only[aaY,aaX,ae]
  refine aw λA1 k1 B0 l1=>?_
  refine aD oS B0 (by rw[aX];exact eU _) (by rw[aX];exact eU _) (by rw[aX];exact nL _) λC0 o1 h0 u1=>?_
  rw[aX]at h0
  have h0:C0.get mm.n=.cells (CF (eJ x.u)) 145 none:=h0
  have v0:Ext mm C0:=⟨by omega,by grind⟩
  have D0:=ho.aG v0
  have l0:=k0.trans v0
  have c1:tX (bR l) i=(eJ x.u).toList++((bR l).drop (i+1)).filterMap (ep x.u):=by unfold tX;rw[O0]
  rw[ak]
  cases hs:eJ x.u with
  |some t=>
   show gG true _ _;rw[hs]at h0;rw[bH,BM h0,ae];refine fP (x:=t) Gw rfl D0 (by omega) (by omega) Fp (λ_=>rfl) λr1 P0 w2 n2 k2 E0 l2=>?_;rw[aS,ae,wrap64];have F0:Ext m1 P0:=⟨by omega,λc hc=>by rw[k2 c hc,l0.get c hc]⟩
   refine Lp.intro (γ:=Nat) (λd=>l.length-d) (λd vs mm lo=>∃r,vs=[r,aev ((i+1+d:Nat):Int)]/\i+1+d<=l.length/\Ext m1 mm/\m.n<=lo/\Ow m1.n mm (kc (bR l) i++((eJ x.u).toList++(((bR l).drop (i+1)).take d).filterMap (ep x.u))) r) 0 ⟨r1,rfl,by omega,F0,by omega,by grind⟩ ?_;rintro d vs m0 gh ⟨r,rfl,hd,H,n0,g0⟩;have S0:=H.n;have b0:=u0.aG H;rw[aE,aE,z0 (H.cells j0),ae,b0.sl.len dt,aA,aQ,ae,ak];refine av (λi0=>?_) (λo0=>?_)
   ·have i0:i+1+d < l.length:=by grind
    obtain⟨y,hy⟩:∃y,l[i+1+d]?=some y:=⟨_,aaW i0⟩
    have p0:=aa2 hy
    have⟨p,p1,p2,pw⟩:=b0.sl.fx (k:=.i64) hx
    have⟨z,z1,z2,zw⟩:=b0.sl.fx (k:=.i64) hy
    have q0:((bR l).drop (i+1)).take (d+1)=((bR l).drop (i+1)).take d++ [y.u]:=by rw[abg,ab0,iw hy];rfl
    have a1:=adw (ep x.u) (((bR l).drop (i+1)).take d)
    have b1:(((bR l).drop (i+1)).take d).length<=d:=by grind
    have d1:(eJ x.u).toList.length<=1:=by grind
    rw[ae,p1,ae,p2,ae,ae,z1,ae,z2,ae]
    refine aH (pX hX (b0.sh x e0) (b0.sh y p0) (b0.ln x e0) (b0.ln y p0)) ⟨aaV _,?_⟩
    rw[aJ,aJ]
    simp only[aaY,aaX,ae]
    refine aw λe1 G0 r0 H0=>?_
    refine aD oS r0 (by rw[aX];exact eU _) (by rw[aX];exact eU _) (by rw[aX];exact nL _) λs0 I0 a0 J0=>?_
    rw[aX]at a0
    have a0:s0.get m0.n=.cells (CF (ep x.u y.u)) 145 none:=a0
    have d0:Ext m0 s0:=⟨by omega,by grind⟩
    rw[ak]
    cases ht:ep x.u y.u with
    |none=>show gG false _ _;rw[aT,aS,ae,wrap64];refine⟨d+1,by omega,r,rfl,by omega,H.trans d0,by omega,?_⟩;rw[q0,adk,ac5,ht,adb,abJ];exact g0.aG d0
    |some t=>show gG true _ _;rw[ht]at a0;rw[bH,BM a0,ae];refine fP (x:=t) Gw rfl (g0.aG d0) (by omega) (by grind) Fp (λ_=>rfl) λr' g1 w2 n2 k2 E0 l2=>?_;rw[aS,ae,wrap64];refine⟨d+1,by omega,r',rfl,by omega,⟨by omega,λc hc=>by rw[k2 c hc,d0.get c (by omega),H.get c hc]⟩,by omega,?_⟩;rw[q0,adk,ac5,ht,adb];rw[<-abv,<-abv];rw[<-abv]at w2;exact w2
   have h1:i+1+d=l.length:=by have:¬((i+1+d:Nat):Int)< (l.length:Int):=aaZ o0;omega
   rw[ae];refine⟨i+1,by omega,r,rfl,by omega,H,n0,?_⟩;rw[ny,c1];rw[abk (by grind)]at g0;exact g0
  |none=>
   show gG false _ _;rw[aT,aS,ae,wrap64];refine Lp.intro (γ:=Nat) (λd=>l.length-d) (λd vs mm lo=>∃r,vs=[r,aev ((i+1+d:Nat):Int)]/\i+1+d<=l.length/\Ext m1 mm/\m.n<=lo/\Ow m1.n mm (kc (bR l) i++((eJ x.u).toList++(((bR l).drop (i+1)).take d).filterMap (ep x.u))) r) 0 ⟨r,rfl,by omega,l0,by omega,by grind⟩ ?_;rintro d vs m0 gh ⟨r,rfl,hd,H,n0,g0⟩;have S0:=H.n;have b0:=u0.aG H;rw[aE,aE,z0 (H.cells j0),ae,b0.sl.len dt,aA,aQ,ae,ak];refine av (λi0=>?_) (λo0=>?_)
   ·have i0:i+1+d < l.length:=by grind
    obtain⟨y,hy⟩:∃y,l[i+1+d]?=some y:=⟨_,aaW i0⟩
    have p0:=aa2 hy
    have⟨p,p1,p2,pw⟩:=b0.sl.fx (k:=.i64) hx
    have⟨z,z1,z2,zw⟩:=b0.sl.fx (k:=.i64) hy
    have q0:((bR l).drop (i+1)).take (d+1)=((bR l).drop (i+1)).take d++ [y.u]:=by rw[abg,ab0,iw hy];rfl
    have a1:=adw (ep x.u) (((bR l).drop (i+1)).take d)
    have b1:(((bR l).drop (i+1)).take d).length<=d:=by grind
    have d1:(eJ x.u).toList.length<=1:=by grind
    rw[ae,p1,ae,p2,ae,ae,z1,ae,z2,ae]
    refine aH (pX hX (b0.sh x e0) (b0.sh y p0) (b0.ln x e0) (b0.ln y p0)) ⟨aaV _,?_⟩
    rw[aJ,aJ]
    simp only[aaY,aaX,ae]
    refine aw λe1 G0 r0 H0=>?_
    refine aD oS r0 (by rw[aX];exact eU _) (by rw[aX];exact eU _) (by rw[aX];exact nL _) λs0 I0 a0 J0=>?_
    rw[aX]at a0
    have a0:s0.get m0.n=.cells (CF (ep x.u y.u)) 145 none:=a0
    have d0:Ext m0 s0:=⟨by omega,by grind⟩
    rw[ak]
    cases ht:ep x.u y.u with
    |none=>show gG false _ _;rw[aT,aS,ae,wrap64];refine⟨d+1,by omega,r,rfl,by omega,H.trans d0,by omega,?_⟩;rw[q0,adk,ac5,ht,adb,abJ];exact g0.aG d0
    |some t=>show gG true _ _;rw[ht]at a0;rw[bH,BM a0,ae];refine fP (x:=t) Gw rfl (g0.aG d0) (by omega) (by grind) Fp (λ_=>rfl) λr' g1 w2 n2 k2 E0 l2=>?_;rw[aS,ae,wrap64];refine⟨d+1,by omega,r',rfl,by omega,⟨by omega,λc hc=>by rw[k2 c hc,d0.get c (by omega),H.get c hc]⟩,by omega,?_⟩;rw[q0,adk,ac5,ht,adb];rw[<-abv,<-abv];rw[<-abv]at w2;exact w2
   have h1:i+1+d=l.length:=by have:¬((i+1+d:Nat):Int)< (l.length:Int):=aaZ o0;omega
   rw[ae];refine⟨i+1,by omega,r,rfl,by omega,H,n0,?_⟩;rw[ny,c1];rw[abk (by grind)]at g0;exact g0
 have i1:i=l.length:=by have:¬(i:Int)< (l.length:Int):=aaZ N0;omega
 subst i1;refine MX (m':=mm) (by grind) ?_ (by omega) (y0.trans k0);unfold tW;rw[aa5 c,L0];exact ho.mono (by omega)
end
def BV{α:Type}(f:α->Int)(l:List α)(x:α):List α:=(l.filter λy=>decide (f y < f x))++x::(l.filter λy=>decide (f x < f y))
theorem uD{α:Type}(f:α->Int)(x:α):∀{l:List α},(∀y∈l,f y≠f x)->(BV f l x).Perm (x::l)
 |[],_=>List.Perm.refl _
 |a::r,h=>by
  have h0:=h a abT
  have H:=uD f x (l:=r) λy hy=>h y (abS _ hy)
  unfold BV at H⊢
  rw[abQ,abQ]
  by_cases e:f a < f x
  ·rw[aa5 (by grind),aa4 (by grind),acw]
   exact(H.cons a).trans (List.Perm.swap x a r)
  ·rw[aa4 (by grind),aa5 (by grind)]
   have:=(List.perm_middle (a:=a) (l₁:=(r.filter λy=>decide (f y < f x))++ [x]) (l₂:=r.filter λy=>decide (f x < f y)))
   simp only[abv,acw,abZ]at this
   exact this.trans ((H.cons a).trans (List.Perm.swap x a r))
theorem NA{α:Type}{f:α->Int}{x:α}{l:List α}(h:l.Pairwise λa b=>f a < f b):(BV f l x).Pairwise λa b=>f a < f b:=by
 unfold BV
 rw[ab2,ab4]
 refine⟨h.filter _,⟨by grind,h.filter _⟩,λa H b hb=>?_⟩
 grind
structure Tk where
 kind:Int
 un:Un
 id:Int
 other:Int
 side:Int
 dA:Int
structure Kp where
 un:Un
 ms:List Mk
structure Mo where
 a:Int
 b:Int
 dA:Int
structure Yd where
 us:List Un
 ms:List Mk
 st:List Kp
 rc:List Fc
 mo:List Mo
def dI(t:Tk):Bool:=
 if t.kind=1 then jF t.un && cW t.un.kind 6 8 && decide (t.id=0) && decide (t.other=0) && decide (t.side=0) && decide (t.dA=0)
 else if t.kind=2\/t.kind=3\/t.kind=6\/t.kind=7 then eS t.un && decide (t.un.id=0) && cW t.id 0 99 && decide (t.other=0) && decide (t.side=0) && decide (t.dA=0)
 else if t.kind=4 then eS t.un && decide (t.un.id=0) && cW t.id 0 99 && decide (t.other=0) && decide (t.side=0) && cW t.dA 0 7
 else if t.kind=5\/t.kind=8 then eS t.un && decide (t.un.id=0) && cW t.id 0 99 && decide (t.other=0) && cW t.side (-2) 7 && decide (t.dA=0)
 else if t.kind=9 then eS t.un && decide (t.un.id=0) && cW t.id 0 99 && cW t.other 0 99 && decide (t.side=0) && cW t.dA 0 7 && decide (t.id < t.other)
 else false
def fa(a b:Fc):Prop:=a.un < b.un\/a.un=b.un/\a.side < b.side
def lL(a b:Mo):Prop:=a.a < b.a\/a.a=b.a/\a.b < b.b
instance (a b:Fc):Decidable (fa a b):=by unfold fa;infer_instance
instance (a b:Mo):Decidable (lL a b):=by unfold lL;infer_instance
def allM(ms:List Mk)(st:List Kp):List Mk:=ms++st.flatMap Kp.ms
structure oL(y:Yd):Prop where
 qk:cx y.us
 Av:im y.us y.ms
 P3:y.st.length<=12
 Wi:y.rc.length<=60
 Si:y.mo.length<=20
 uS:y.st.Pairwise λa b=>a.un.id < b.un.id
 off:∀k∈y.st,∀u∈y.us,u.id≠k.un.id
 Nx:∀k∈y.st,cx [k.un]
 FC:∀k∈y.st,im [k.un] k.ms
 YG:((allM y.ms y.st).map Mk.id).Nodup
 KE:(allM y.ms y.st).length<=20
 MK:∀f∈y.rc,(0<=f.un/\f.un<=99)/\ -2<=f.side/\f.side<=7
 An:y.rc.Pairwise fa
 Nd:∀x∈y.mo,0<=x.a/\x.a < x.b/\x.b<=99/\0<=x.dA/\x.dA<=7
 Dz:y.mo.Pairwise lL
def Ac.bare(k:Int):Ac:=⟨k,⟨0,0,0,[],0,0⟩,0,0,0,⟨0,0,0,0,false⟩⟩
def fI(u:Un):Ac:={Ac.bare 1 with un:=u}
def lO(k id:Int):Ac:={Ac.bare k with id:=id}
def jX(x:Mk):Ac:={Ac.bare 5 with zB:=x}
def yS(us:List Un)(id side:Int):Bool:=match cf us id with
 |some u=>decide (side= -1) ||decide (side= -2) ||decide (0<=side) && decide (side < (u.shape.length:Int))
 |none=>false
def rz(t:Tk)(x:Mk):Bool:=decide (x.un=t.id) && decide (x.side=t.side) && x.KG && (decide (x.kind=1) ||decide (x.kind=4) ||decide (x.kind=5))
def jD(iL:Un->Un->Bool)(suits softer:Int->Int->Bool)(y:Yd)(t:Tk):Option (List Ac):=
 if t.kind=1 then(if(y.st.any λk=>decide (k.un.id=t.un.id))=true then none else some [fI t.un])
 else if t.kind=2 then(if((cf y.us t.id).isSome && decide (y.st.length < 12))=true then some [lO 2 t.id]else none)
 else if t.kind=3 then(y.st.find? λk=>decide (k.un.id=t.id)).map λk=>fI k.un::k.ms.map jX
 else if t.kind=4 then(cf y.us t.id).bind λu=>if(y.us.all λv=> !iL u v ||suits t.dA v.dA)=true then some [lO 2 t.id,fI {u with dA:=t.dA}]else none
 else if t.kind=5 then(if yS y.us t.id t.side=true then some ((y.ms.filter (rz t)).map λx=>lO 6 x.id)else none)
 else if t.kind=6 then some [lO 7 t.id]
 else if t.kind=7 then some [lO 6 t.id]
 else if t.kind=8 then(if(yS y.us t.id t.side && (decide (y.rc.length < 60) ||decide ((⟨t.id,t.side⟩:Fc)∈y.rc)))=true then some []else none)
 else(cf y.us t.id).bind λu=>(cf y.us t.other).bind λv=>if(iL u v && softer t.dA u.dA && softer t.dA v.dA && (decide (y.mo.length < 20) ||y.mo.any λx=>decide (x.a=t.id) && decide (x.b=t.other)))=true then some []else none
def gw:List Un->List Mk->List Ac->Option (List Un×List Mk)
 |us,ms,[]=>some (us,ms)
 |us,ms,a::r=>match rQ us ms a with
  |some (H,ns)=>gw H ns r
  |none=>none
def EO(y:Yd)(t:Tk):List Kp:=
 if t.kind=2 then(match cf y.us t.id with |some u=>BV (λk:Kp=>k.un.id) y.st ⟨u,y.ms.filter λx=>decide (x.un=t.id)⟩ |none=>y.st)
 else if t.kind=3 then y.st.filter λk=> !decide (k.un.id=t.id)else y.st
def Fe(y:Yd)(t:Tk):List Fc:=if t.kind=8/\(⟨t.id,t.side⟩:Fc)∉y.rc then(y.rc.filter λf=>decide (fa f ⟨t.id,t.side⟩))++⟨t.id,t.side⟩::(y.rc.filter λf=>decide (fa ⟨t.id,t.side⟩ f))else y.rc
def Qz(y:Yd)(t:Tk):List Mo:=if t.kind=9 then(y.mo.filter λx=>decide (lL x ⟨t.id,t.other,t.dA⟩))++⟨t.id,t.other,t.dA⟩::(y.mo.filter λx=>decide (lL ⟨t.id,t.other,t.dA⟩ x))else y.mo
def GQ(iL:Un->Un->Bool)(suits softer:Int->Int->Bool)(y:Yd)(t:Tk):Option Yd:=
 match jD iL suits softer y t with
 |none=>none
 |some l=>(gw y.us y.ms l).map λp=>⟨p.1,p.2,EO y t,Fe y t,Qz y t⟩
theorem kk{us vs:List Un}{ms ns:List Mk}{a:Ac}(h:rQ us ms a=some (vs,ns)):cx us/\im us ms/\eC a/\oN us ms a=some (vs,ns)/\cx vs/\im vs ns:=by
 unfold rQ GR at h;split at h
 ·rename_i H;rw[aa3]at H;split at h
  ·rename_i hf;split at h
   ·rename_i a0 b0 hd;split at h
    ·rename_i hm;cases h;exact⟨mZ.1 H.1,fT.1 H.2,hf,hd,HQ (mZ.1 H.1) hd,fT.1 hm⟩
    cases h
   cases h
  cases h
 cases h
theorem GX{us vs:List Un}{ms H:List Mk}{l:List Ac}(hf:cx us)(hm:im us ms)(h:gw us ms l=some (vs,H)):cx vs/\im vs H:=by
 induction l generalizing us ms with
 |nil=>cases h;exact⟨hf,hm⟩
 |cons a r ih=>
  rw[gw]at h;split at h
  ·rename_i a0 b0 hs
   obtain⟨-, -, -, -,h1,h2⟩:=kk hs
   grind
  cases h
theorem yZ{us vs:List Un}{ms H:List Mk}{u:Un}(h:oN us ms (fI u)=some (vs,H)):Gy us u/\vs=tY us u/\H=ms:=by
 unfold oN at h
 have hk:(fI u).kind=1:=rfl
 rw[aa5 hk]at h
 have h:(qA us u).map (·,ms)=some (vs,H):=h
 unfold qA at h
 grind
theorem AQ{us vs:List Un}{ms H:List Mk}{id:Int}(h:oN us ms (lO 2 id)=some (vs,H)):(cf us id).isSome/\vs=uN us id/\H=fZ ms id:=by
 unfold oN at h;have hk:(lO 2 id).kind=2:=rfl;rw[aa4 (by rw[hk];decide),aa5 hk]at h;split at h
 ·rename_i ha;cases h;exact⟨ha,rfl,rfl⟩
 cases h
theorem Rv{us vs:List Un}{ms H:List Mk}{x:Mk}(h:oN us ms (jX x)=some (vs,H)):(ms.any λy=>decide (y.id=x.id))=false/\vs=us/\H=mW ms x:=by
 unfold oN at h
 have hk:(jX x).kind=5:=rfl
 rw[aa4 (by rw[hk];decide),aa4 (by rw[hk];decide),aa4 (by rw[hk];decide),aa4 (by rw[hk];decide),aa5 hk]at h
 split at h
 ·cases h
 ·rename_i ha
  cases h
  exact⟨Bool.eq_false_iff.2 ha,rfl,rfl⟩
theorem IQ{ms H:List Mk}{id:Int}{o:Bool}(h:mC ms id o=some H):H.map Mk.id=ms.map Mk.id:=by
 unfold mC at h;split at h
 ·rename_i k hk;split at h
  ·rename_i y hy;split at h;·cases h
   ·cases h
    rw[List.map_set]
    apply ab9
    grind
  cases h
 cases h
theorem Cf{us vs:List Un}{ms ns:List Mk}{k id:Int}(hk:k=6\/k=7)(h:oN us ms (lO k id)=some (vs,ns)):vs=us/\ns.map Mk.id=ms.map Mk.id:=by
 unfold oN at h
 have H:(lO k id).kind=k:=rfl
 rw[H,jz,jz,jz,jz,jz]at h
 cases ht:mC ms (lO k id).id (decide (k=7))with
 |none=>rw[ht]at h;cases h
 |some l=>rw[ht]at h;cases h;exact⟨rfl,IQ ht⟩
theorem Aj{us:List Un}:∀{l:List Mk} {ms H:List Mk} {vs:List Un},gw us ms (l.map λx=>lO 6 x.id)=some (vs,H)->vs=us/\H.map Mk.id=ms.map Mk.id
 |[],ms,H,vs,h=>by cases h;exact⟨rfl,rfl⟩
 |x::r,ms,H,vs,h=>by
  rw[acJ,gw]at h
  split at h
  ·rename_i a0 b0 hs
   obtain⟨-, -, -,hd, -, -⟩:=kk hs
   obtain⟨rfl,e⟩:=Cf (.inl rfl) hd
   have⟨e1,e2⟩:=Aj h
   grind
  ·cases h
theorem Jz{ms:List Mk}{x:Mk}(h:(ms.any λy=>decide (y.id=x.id))=false):(mW ms x).Perm (x::ms):=by
 refine uD Mk.id x λy H e=>?_
 grind
theorem Ak{us:List Un}:∀{l:List Mk} {ms H:List Mk} {vs:List Un},gw us ms (l.map jX)=some (vs,H)->vs=us/\H.Perm (l++ms)
 |[],ms,H,vs,h=>by cases h;exact⟨rfl,List.Perm.refl _⟩
 |x::r,ms,H,vs,h=>by
  rw[acJ,gw]at h
  split at h
  ·rename_i a0 b0 hs
   obtain⟨-, -, -,hd, -, -⟩:=kk hs
   obtain⟨e0,rfl,rfl⟩:=Rv hd
   have⟨e1,e2⟩:=Ak h
   refine⟨e1,e2.trans (((Jz e0).append_left r).trans ?_)⟩
   grind
  ·cases h
theorem oL.next{y:Yd}(h:oL y){vs:List Un}{H:List Mk}{st:List Kp}{rc:List Fc}{mo:List Mo}(hf:cx vs)(hm:im vs H)(s1:st.length<=12)(s2:st.Pairwise λa b=>a.un.id < b.un.id)(s3:∀k∈st,∀u∈vs,u.id≠k.un.id)
  (s4:∀k∈st,cx [k.un]/\im [k.un] k.ms) (s5:∃w:List Int,w.Sublist ((allM y.ms y.st).map Mk.id)/\((allM H st).map Mk.id).Perm w)
  (r1:rc.length<=60) (r2:∀f∈rc,(0<=f.un/\f.un<=99)/\ -2<=f.side/\f.side<=7) (r3:rc.Pairwise fa) (q1:mo.length<=20) (q2:∀x∈mo,0<=x.a/\x.a < x.b/\x.b<=99/\0<=x.dA/\x.dA<=7) (q3:mo.Pairwise lL):oL ⟨vs,H,st,rc,mo⟩:=by
 have⟨w,h1,h2⟩:=s5;refine⟨hf,hm,s1,r1,q1,s2,s3,λk hk=>(s4 k hk).1,λk hk=>(s4 k hk).2,?_,?_,r2,r3,q2,q3⟩;·exact h2.nodup_iff.2 (h1.nodup h.YG)
 ·have e1:=h2.length_eq
  have e2:=h1.length_le
  have e3:=h.KE
  grind
theorem Gb(ms:List Mk)(id:Int):(fZ ms id++ms.filter λx=>decide (x.un=id)).Perm ms:=by unfold fZ;exact List.perm_append_comm.trans (List.filter_append_perm (λx:Mk=>decide (x.un=id)) ms)
theorem yE{l:List Fc}{x:Fc}(h:l.Pairwise fa):((l.filter λf=>decide (fa f x))++x::(l.filter λf=>decide (fa x f))).Pairwise fa:=by
 rw[ab2,ab4];refine⟨h.filter _,⟨λz hz=>by simpa using(abX.1 hz).2,h.filter _⟩,λa ha b H=>?_⟩;have ha:fa a x:=by simpa using(abX.1 ha).2
 rcases abc.1 H with rfl |H;·exact ha
 have H:fa x b:=by simpa using(abX.1 H).2
 unfold fa at ha H⊢;omega
theorem FG{l:List Mo}{x:Mo}(h:l.Pairwise lL):((l.filter λf=>decide (lL f x))++x::(l.filter λf=>decide (lL x f))).Pairwise lL:=by
 rw[ab2,ab4];refine⟨h.filter _,⟨λz hz=>by simpa using(abX.1 hz).2,h.filter _⟩,λa ha b H=>?_⟩;have ha:lL a x:=by simpa using(abX.1 ha).2
 rcases abc.1 H with rfl |H;·exact ha
 have H:lL x b:=by simpa using(abX.1 H).2
 unfold lL at ha H⊢;omega
theorem rL{α:Type}{p q:α->Bool}(h:∀x,p x->q x->False):∀l:List α,(l.filter p).length+(l.filter q).length<=l.length
 |[]=>by simp
 |a::r=>by
  have H:=rL h r
  grind
theorem xL{α:Type}{p q:α->Bool}(h:∀x,p x->q x->False){a:α}:∀{l:List α},a∈l->p a=false->q a=false->(l.filter p).length+(l.filter q).length+1<=l.length
 |[],hm,_,_=>by cases hm
 |b::r,hm,H,hq=>by
  rw[abQ,abQ]
  rcases abc.1 hm with rfl |hm
  ·have:=rL h r
   grind
  ·have ih:=xL h hm H hq
   grind
section
variable {iL:Un->Un->Bool} {suits softer:Int->Int->Bool} {y:Yd} {t:Tk}
theorem wT{n lo hi:Int}:cW n lo hi↔lo<=n/\n<=hi:=by unfold cW;simp
theorem rj(h:dI t):1<=t.kind/\t.kind<=9:=by
 unfold dI at h
 grind
theorem Ra(h:dI t)(hk:t.kind=8):(0<=t.id/\t.id<=99)/\ -2<=t.side/\t.side<=7:=by
 unfold dI at h
 rw[jz,jz,jz,YN]at h
 simp only[aa3,wT]at h
 grind
theorem Q9(h:dI t)(hk:t.kind=9):0<=t.id/\t.id < t.other/\t.other<=99/\0<=t.dA/\t.dA<=7:=by
 unfold dI at h
 rw[jz,jz,jz,jz,aa5 hk]at h
 simp only[aa3,wT,abm]at h
 grind
theorem S6(H:oL y)(hf:dI t){l:List Ac}(ha:jD iL suits softer y t=some l):(Fe y t).length<=60/\(∀f∈Fe y t,(0<=f.un/\f.un<=99)/\ -2<=f.side/\f.side<=7)/\(Fe y t).Pairwise fa:=by
 unfold Fe;by_cases e:t.kind=8/\(⟨t.id,t.side⟩:Fc)∉y.rc
 ·rw[aa5 e]
  have hlen:y.rc.length < 60:=by
   unfold jD at ha
   grind
  have h2:=rL (p:=λf:Fc=>decide (fa f ⟨t.id,t.side⟩)) (q:=λf:Fc=>decide (fa ⟨t.id,t.side⟩ f)) (λx h1 h2=>by
   unfold fa at h1 h2
   grind) y.rc
  refine⟨by grind,λf hm=>?_,yE H.An⟩;rw[abp,abc,abX,abX]at hm;rcases hm with hm |rfl |hm;·exact H.MK f hm.1
  ·exact Ra hf e.1
  exact H.MK f hm.1
 rw[aa4 e];exact⟨H.Wi,H.MK,H.An⟩
theorem Tn(hy:oL y)(hf:dI t){l:List Ac}(H:jD iL suits softer y t=some l):(Qz y t).length<=20/\(∀x∈Qz y t,0<=x.a/\x.a < x.b/\x.b<=99/\0<=x.dA/\x.dA<=7)/\(Qz y t).Pairwise lL:=by
 unfold Qz;by_cases e:t.kind=9
 ·rw[aa5 e]
  have hex:∀x:Mo,decide (lL x ⟨t.id,t.other,t.dA⟩)->decide (lL ⟨t.id,t.other,t.dA⟩ x)->False:=λx h1 h2=>by
   unfold lL at h1 h2
   grind
  have hlen:(y.mo.filter λx=>decide (lL x ⟨t.id,t.other,t.dA⟩)).length+(y.mo.filter λx=>decide (lL ⟨t.id,t.other,t.dA⟩ x)).length+1<=20:=by
   unfold jD at H;rw[jz,jz,jz,jz,jz,jz,jz,jz]at H;have⟨u,hu,H⟩:=abV.1 H;have⟨v,hv,H⟩:=abV.1 H;split at H
   ·rename_i hc;simp only[aa3,acA,abm]at hc;rcases hc.2 with h |h
    ·have:=rL hex y.mo;omega
    have⟨x,hx,a0⟩:=ab8.1 h;rw[aa3,abm,abm]at a0;have:=xL hex hx (by rw[aci];unfold lL;simp only[];omega) (by rw[aci];unfold lL;simp only[];omega);have:=hy.Si;omega
   cases H
  refine⟨by grind,λf hm=>?_,FG hy.Dz⟩;rw[abp,abc,abX,abX]at hm;rcases hm with hm |rfl |hm;·exact hy.Nd f hm.1
  ·exact Q9 hf e
  exact hy.Nd f hm.1
 rw[aa4 e];exact⟨hy.Si,hy.Nd,hy.Dz⟩
theorem se{us vs:List Un}{ms H:List Mk}{a:Ac}(h:gw us ms [a]=some (vs,H)):oN us ms a=some (vs,H):=by
 rw[gw]at h;split at h
 ·rename_i hs;cases h;exact(kk hs).2.2.2.1
 cases h
theorem OL{u:Un}(h:jF u):cx [u]:=Cc (by simp) (by grind) (by simp) (by simp)
structure Wc(y:Yd)(vs:List Un)(ns:List Mk)(st:List Kp):Prop where
 s1:st.length<=12
 s2:st.Pairwise λa b=>a.un.id < b.un.id
 s3:∀k∈st,∀u∈vs,u.id≠k.un.id
 s4:∀k∈st,cx [k.un]/\im [k.un] k.ms
 s5:∃w:List Int,w.Sublist ((allM y.ms y.st).map Mk.id)/\((allM ns st).map Mk.id).Perm w
theorem Wc.same(H:oL y){vs:List Un}{ns:List Mk}(h3:∀k∈y.st,∀u∈vs,u.id≠k.un.id)(h5:(ns.map Mk.id).Sublist (y.ms.map Mk.id)):Wc y vs ns y.st:=by
 refine⟨H.P3,H.uS,h3,λk hk=>⟨H.Nx k hk,H.FC k hk⟩,_,?_,List.Perm.refl _⟩
 unfold allM
 grind
theorem Mg(hy:oL y)(hf:dI t){l:List Ac}(H:jD iL suits softer y t=some l){vs:List Un}{ns:List Mk}(hr:gw y.us y.ms l=some (vs,ns)):Wc y vs ns (EO y t):=by
 unfold jD at H;unfold EO;by_cases k1:t.kind=1
 ·rw[aa5 k1]at H;rw[jz,jz];split at H;·cases H
  rename_i hn;cases H;obtain⟨e1,rfl,rfl⟩:=yZ (se hr);refine .same hy (λk hk u hu=>?_) (List.Sublist.refl _);rcases sq hu with rfl |hu
  ·grind
  exact hy.off k hk u hu
 rw[aa4 k1]at H;by_cases k2:t.kind=2
 ·rw[aa5 k2]at H⊢;split at H
  ·rename_i hc;cases H;rw[aa3,abm]at hc;obtain⟨-,rfl,rfl⟩:=AQ (se hr);have⟨u,hu⟩:=adx.1 hc.1;have⟨b0,h0⟩:=dK hu;rw[hu];have i0:∀k∈y.st,k.un.id≠(⟨u,y.ms.filter λx=>decide (x.un=t.id)⟩:Kp).un.id:=λk hk=>λe=>hy.off k hk u b0 e.symm;have hp:=uD (λk:Kp=>k.un.id) ⟨u,y.ms.filter λx=>decide (x.un=t.id)⟩ i0;refine⟨?_,NA hy.uS,λk hk v hv=>?_,λk hk=>?_,_,List.Sublist.refl _,?_⟩
   ·have:=hp.length_eq
    grind
   ·have hv:=abX.1 hv;rcases abc.1 (hp.mem_iff.1 hk)with rfl |hk
    ·grind
    exact hy.off k hk v hv.1
   ·rcases abc.1 (hp.mem_iff.1 hk)with rfl |hk
    ·refine⟨OL (hy.qk.val u b0),?_⟩
     have a0:(y.ms.filter λx=>decide (x.un=t.id)).Sublist y.ms:=aed
     refine⟨acn a0.length_le hy.Av.len,hy.Av.uS.filter _,λx hx=>hy.Av.ok x (a0.mem hx),λx hx=>?_⟩
     have⟨v,hv,h1,h2⟩:=hy.Av.un x (a0.mem hx)
     have⟨i,hi⟩:=abi hv
     have n0:=pA hy.qk hi
     grind
    exact⟨hy.Nx k hk,hy.FC k hk⟩
   refine List.Perm.map _ ?_;unfold allM
   have h1:((BV (λk:Kp=>k.un.id) y.st ⟨u,y.ms.filter λx=>decide (x.un=t.id)⟩).flatMap Kp.ms).Perm ((y.ms.filter λx=>decide (x.un=t.id))++y.st.flatMap Kp.ms):=by
    grind
   refine(h1.append_left _).trans ?_;rw[<-abv];exact(Gb y.ms t.id).append_right _
  cases H
 rw[aa4 k2]at H⊢;by_cases k3:t.kind=3
 ·rw[aa5 k3]at H⊢;obtain⟨k,j0,rfl⟩:=abl.1 H;have k0:=ac2 j0;rw[gw]at hr;split at hr
  ·rename_i l0 m0 hs;obtain⟨e1,rfl,rfl⟩:=yZ (kk hs).2.2.2.1;obtain⟨rfl,hp⟩:=Ak hr;obtain⟨p,q,e0⟩:=List.append_of_mem k0;have d0:=hy.uS;rw[e0]at d0;rw[ab2,ab4]at d0
   have g0:(y.st.filter λk=> !decide (k.un.id=t.id))=p++q:=by
    rw[e0,abB,abQ,aa4 (by grind)];rw[acd.2 λz hz=>?_,acd.2 λz hz=>?_]
    ·grind
    ·grind
   rw[g0];have a0:(p++q).Sublist y.st:=by grind
   refine⟨acn a0.length_le hy.P3,hy.uS.sublist a0,λj hj v hv=>?_,λj hj=>⟨hy.Nx j (a0.mem hj),hy.FC j (a0.mem hj)⟩,_,List.Sublist.refl _,?_⟩
   ·rcases sq hv with rfl |hv
    ·grind
    exact hy.off j (a0.mem hj) v hv
   ·refine List.Perm.map _ ?_
    unfold allM
    grind
  cases hr
 rw[aa4 k3]at H⊢;by_cases k4:t.kind=4
 ·rw[aa5 k4]at H;have⟨u,hu,H⟩:=abV.1 H;have⟨b0,h0⟩:=dK hu;split at H
  ·cases H;rw[gw]at hr;split at hr
   ·rename_i l0 m0 hs;obtain⟨-,rfl,rfl⟩:=AQ (kk hs).2.2.2.1;obtain⟨-,rfl,rfl⟩:=yZ (se hr);refine .same hy (λk hk v hv=>?_) (List.Sublist.map _ (by unfold fZ;exact aed));rcases sq hv with rfl |hv;·exact hy.off k hk u b0
    exact hy.off k hk v (abX.1 hv).1
   cases hr
  cases H
 rw[aa4 k4]at H;by_cases k5:t.kind=5
 ·rw[aa5 k5]at H;split at H
  ·cases H;obtain⟨rfl,e⟩:=Aj hr;exact .same hy hy.off (by grind)
  cases H
 rw[aa4 k5]at H;by_cases k6:t.kind=6
 ·rw[aa5 k6]at H;cases H;obtain⟨rfl,e⟩:=Cf (.inr rfl) (se hr);exact .same hy hy.off (by grind)
 rw[aa4 k6]at H;by_cases k7:t.kind=7
 ·rw[aa5 k7]at H;cases H;obtain⟨rfl,e⟩:=Cf (.inl rfl) (se hr);exact .same hy hy.off (by grind)
 rw[aa4 k7]at H
 have hl:l=[]:=by
  by_cases k8:t.kind=8
  ·grind
  ·rw[aa4 k8]at H
   have⟨u,hu,H⟩:=abV.1 H
   have⟨v,hv,H⟩:=abV.1 H
   grind
 subst hl;cases hr;exact .same hy hy.off (List.Sublist.refl _)
theorem CV(H:oL y)(hf:dI t){y':Yd}(h:GQ iL suits softer y t=some y'):oL y':=by
 unfold GQ at h;split at h;·cases h
 rename_i l ha;obtain⟨⟨vs,ns⟩,hr,rfl⟩:=abl.1 h;have⟨f,g⟩:=GX H.qk H.Av hr;have s:=Mg H hf ha hr;have r:=S6 H hf ha;have q:=Tn H hf ha;exact H.next f g s.s1 s.s2 s.s3 s.s4 s.s5 r.1 r.2.1 r.2.2 q.1 q.2.1 q.2.2
end
section
variable {X:aM} {m:M}
abbrev Tk.c(t:Tk)(w:aes):aet:=[.int .i64 t.kind,.int .i64 t.un.id,.int .i64 t.un.kind,.int .i64 t.un.dA,w,.int .i64 t.un.back,.int .i64 t.un.front,.int .i64 t.id,.int .i64 t.other,.int .i64 t.side,.int .i64 t.dA]
abbrev Tk.v(t:Tk)(w:aes):aes:=.agg (t.c w).toArray
theorem Tk.cM{t:Tk}{w:aes}(h:one w):(t.c w).all one:=by show(true && (true && (true && (true && (one w && true)))))=true;rw[h];rfl
structure TW where
 t:Tk
 w:aes
abbrev TW.c(x:TW):aet:=x.t.c x.w
abbrev TW.v(x:TW):aes:=x.t.v x.w
instance:aZ TW where
 ty:=62
 sz:=11
 agg:=true
 dd:=[]
 rep _ x cs:=cs=x.c/\one x.w=true
 pos:=by decide
 one:=by grind
 len:=by simp_all
 ee:=by rintro _ x _ ⟨rfl,h⟩;exact Tk.cM h
 bs:=by grind
theorem iy:oO TE 39 62 TW:=⟨ag.t39,ag.t62,by kernel_rfl,⟨_,rfl⟩,rfl,by kernel_rfl,rfl,rfl⟩
theorem Pf:rH TE 39 TW:=⟨ag.t39,ag.t62,by kernel_rfl,rfl,rfl,by kernel_rfl,by decide,rfl⟩
structure KW where
 u:Un
 w:aes
 ms:List Mk
 mv:aes
abbrev KW.c(x:KW):aet:=[.int .i64 x.u.id,.int .i64 x.u.kind,.int .i64 x.u.dA,x.w,.int .i64 x.u.back,.int .i64 x.u.front,x.mv]
abbrev KW.v(x:KW):aes:=.agg (x.c).toArray
abbrev KW.k(x:KW):Kp:=⟨x.u,x.ms⟩
theorem KW.cM{x:KW}(h1:one x.w)(H:one x.mv):(x.c).all one:=by show(true && (true && (true && (one x.w && (true && (true && (one x.mv && true)))))))=true;rw[h1,H];rfl
instance:aZ KW where
 ty:=113
 sz:=7
 agg:=true
 dd:=[]
 rep _ x cs:=cs=x.c/\one x.w=true/\one x.mv=true
 pos:=by decide
 one:=by grind
 len:=by simp_all
 ee:=by rintro _ x _ ⟨rfl,h1,h2⟩;exact KW.cM h1 h2
 bs:=by grind
theorem ff:oO TE 34 113 KW:=⟨ag.t34,ag.t113,by kernel_rfl,⟨_,rfl⟩,rfl,by kernel_rfl,rfl,rfl⟩
theorem Cy:rH TE 34 KW:=⟨ag.t34,ag.t113,by kernel_rfl,rfl,rfl,by kernel_rfl,by decide,rfl⟩
abbrev Mo.c(x:Mo):aet:=[.int .i64 x.a,.int .i64 x.b,.int .i64 x.dA]
abbrev Mo.v(x:Mo):aes:=.agg (x.c).toArray
instance:aZ Mo where
 ty:=109
 sz:=3
 agg:=true
 dd:=[]
 rep _ x cs:=cs=x.c
 pos:=by decide
 one:=by grind
 len:=by grind
 ee:=by rintro _ _ _ rfl;rfl
 bs:=by grind
theorem nk:oO TE 36 109 Mo:=⟨ag.t36,ag.t109,by kernel_rfl,⟨_,rfl⟩,rfl,by kernel_rfl,rfl,rfl⟩
theorem Pg:rH TE 36 Mo:=⟨ag.t36,ag.t109,by kernel_rfl,rfl,rfl,by kernel_rfl,by decide,rfl⟩
def xA{α:Type}[aZ α](m:M)(l:List α)(v:aes):Prop:=(l=[]/\v=.slice none 0 0)\/SlC m l v
theorem xA.bs{α:Type}[aZ α]{l:List α}{v:aes}{m':M}(h:xA m l v)(hk:∀b c t g,m.get b=.cells c t g->t∈aZ.ty α::aZ.dd α->m'.get b=.cells c t g):xA m' l v:=by
 rcases h with h |⟨h1,b,o,c,H,g,h2,h3,h4,h5⟩;·exact .inl h
 exact .inr ⟨h1.bs hk,b,o,c,H,g,h2,h3,hk _ _ _ _ h4 abT,h5⟩
theorem xA.sl{α:Type}[aZ α]{l:List α}{v:aes}(h:xA m l v):Sl m l v:=by
 rcases h with h |h;·exact .inl ⟨h.2,h.1⟩
 exact h.1
theorem _root_.Go.D.Ow.YD{α:Type}[aZ α]{n1:Nat}{l:List α}{v:aes}(h:Ow n1 m l v):xA m l v:=by
 by_cases H:l=[]
 ·subst H;rcases h with⟨rfl,_⟩ |⟨b,cs,_,h,_⟩;·exact .inl ⟨rfl,rfl⟩
  ·grind
 exact .inr (h.slc H)
theorem xA.to{α:Type}[aZ α]{T t:TypeId}(H:oO TE T t α){l:List α}{v:aes}(h:xA m l v)(h0:slice? TE m T aew none (some (aev (0:Nat))) none=some aew){i:Nat}(hi:i<=l.length):
  ∃v',slice? TE m T v none (some (aev i)) none=some v'/\Sl m (l.take i) v':=by
 rcases h with⟨rfl,rfl⟩ |⟨h1,b,o,c,bc,g,rfl,h3,h4,h5⟩
 ·obtain rfl:i=0:=by grind
  exact⟨_,h0,.nil⟩
 have⟨ti,te,t1,⟨e,t2⟩,t3,_⟩:=H;refine⟨_,Ab t1 t2 (by rw[t3];exact aZ.pos) h4 (by grind) h3 (by omega),?_⟩;have:=h1.part (i:=0) (k:=i) (c':=c) (by omega);rwa[abM,acW,acO]at this
theorem xA.from{α:Type}[aZ α]{T t:TypeId}(hT:oO TE T t α){l:List α}{v:aes}(h:xA m l v)(h0:slice? TE m T aew (some (aev (0:Nat))) none none=some aew){i:Nat}(hi:i<=l.length):
  ∃v',slice? TE m T v (some (aev i)) none none=some v'/\(Sl m (l.drop i) v'\/(l.drop i=[]/\∃H c',v'=.slice (some H) 0 c')):=by
 rcases h with⟨rfl,rfl⟩ |⟨h1,b,o,c,bc,g,rfl,h3,h4,h5⟩
 ·obtain rfl:i=0:=by grind
  exact⟨_,h0,.inl .nil⟩
 have⟨ti,te,t1,⟨e,t2⟩,t3,_⟩:=hT;obtain⟨H,e1,e2⟩:=jr (E:=TE) (T:=T) t1 t2 (by rw[t3];exact aZ.pos) h4 (by grind) h3 hi (o:=o);refine⟨_,e1,?_⟩;by_cases a0:i < l.length
 ·rw[e2 (by omega),t3]
  have:=h1.part (i:=i) (k:=l.length-i) (c':=c-i) (by omega)
  rw[abk (by grind)]at this
  grind
 ·grind
theorem _root_.Go.D.Ow.vO{α:Type}[aZ α]{T:TypeId}(hT:rH TE T α)(a0:aZ.dd α=[]){n1:Nat}{l ys:List α}{v y:aes}(h:Ow n1 m l v)(H:l≠ [])(hy:Sl m ys y\/(ys=[]/\∃a' c',y=.slice (some a') 0 c'))(hn:n1<=m.n)(hs:l.length+ys.length<=1000000):
  ∃v' m1,az TE (m.wl m.n) .append [T,T] [v,y]=some (v',m1)/\Ow n1 m1 (l++ys) v'/\m.n<=m1.n/\n1<=m1.low/\(∀c,c < n1->m1.get c=m.get c)/\((∃a n k,v=.slice (some a) n k/\∀c,c < m.n->c≠a.block->m1.get c=m.get c)):=by
 obtain⟨b,rfl,_⟩:=mP h H;rcases hy with hy |⟨rfl,a',c',rfl⟩
 ·obtain⟨v',m1,e1,ho,hf,hl,_⟩:=h.append hT (by grind) hy hn (by omega);obtain⟨ya,yc,rfl⟩:=hy.form;exact⟨v',m1,e1,ho,hf.n,hl,λc hc=>hf.get c hc,_,_,_,rfl,λc hc H=>eP e1 hc λad n k e=>by grind⟩
 refine⟨_,m.wl m.n,append_nil hT (aaV _) (by grind) (.inl ⟨_,_,rfl⟩),?_,aaV _,hn,λ_ _=>rfl,_,_,_,rfl,λ_ _ _=>rfl⟩;rw[abJ];exact h.aG Ext.refl.wl
structure CH(m:M)(l:List KW)(v:aes):Prop where
 sl:Sl m l v
 cap:xA m l v
 sh:∀x∈l,Sl m x.u.shape x.w
 mv:∀x∈l,Sl m x.ms x.mv
 ln:∀x∈l,x.u.shape.length < 1000000
 lm:∀x∈l,x.ms.length < 1000000
theorem CH.bs{l:List KW}{v:aes}{m':M}(h:CH m l v)(hk:∀c cs t g,m.get c=.cells cs t g->(t=113\/t=141\/t=137)->m'.get c=.cells cs t g):CH m' l v:=
 ⟨h.sl.bs λc cs t g H ht=>hk c cs t g H (.inl (by simpa[aZ.ty,aZ.dd]using ht)),h.cap.bs λc cs t g H ht=>hk c cs t g H (.inl (by simpa[aZ.ty,aZ.dd]using ht)),λx hx=>(h.sh x hx).bs λc cs t g H ht=>hk c cs t g H (.inr (.inl (by simpa[aZ.ty,aZ.dd]using ht))),λx hx=>(h.mv x hx).bs λc cs t g H ht=>hk c cs t g H (.inr (.inr (by simpa[aZ.ty,aZ.dd]using ht))),h.ln,h.lm⟩
theorem CH.aG{l:List KW}{v:aes}{m':M}(h:CH m l v)(H:Ext m m'):CH m' l v:=h.bs λ_ _ _ _ hc _=>H.cells hc
theorem CH.nil:CH m [] aew:=⟨.nil,.inl ⟨rfl,rfl⟩,λx H=>(by cases H),λx H=>(by cases H),λx H=>(by cases H),λx H=>(by cases H)⟩
abbrev zC(l:List KW):List Kp:=l.map KW.k
theorem jk{l:List KW}:(zC l).length=l.length:=abK _
structure lM(m:M)(y:Yd)(r r2 st rc mo:aes):Prop where
 qk:∃l,bR l=y.us/\cY m l r
 ms:Sl m y.ms r2
 st:∃k,zC k=y.st/\CH m k st
 rc:Sl m y.rc rc
 mo:Sl m y.mo mo
abbrev yc(r r2 st rc mo:aes):aet:=[r,r2,st,rc,mo]
abbrev yv(r r2 st rc mo:aes):aes:=.agg (yc r r2 st rc mo).toArray
theorem lM.bs{y:Yd}{r r2 st rc mo:aes}{m':M}(h:lM m y r r2 st rc mo)(hk:∀c cs t g,m.get c=.cells cs t g->(t=60\/t=141\/t=137\/t=113\/t=53\/t=109)->m'.get c=.cells cs t g):lM m' y r r2 st rc mo:=by
 have⟨⟨l,h1,h2⟩,h3,⟨k,h4,h5⟩,h6,h7⟩:=h
 refine⟨⟨l,h1,h2.bs λc cs t g H ht=>hk c cs t g H (by grind)⟩,h3.bs λc cs t g H ht=>hk c cs t g H ?_,⟨k,h4,h5.bs λc cs t g H ht=>hk c cs t g H (by grind)⟩,h6.bs λc cs t g H ht=>hk c cs t g H ?_,h7.bs λc cs t g H ht=>hk c cs t g H ?_⟩ <;>
  (simp only[aZ.ty,aZ.dd,abc,abn,or_false]at ht;subst ht;simp)
theorem lM.aG{y:Yd}{r r2 st rc mo:aes}{m':M}(h:lM m y r r2 st rc mo)(H:Ext m m'):lM m' y r r2 st rc mo:=h.bs λ_ _ _ _ hc _=>H.cells hc
theorem lM.ee{y:Yd}{r r2 st rc mo:aes}(h:lM m y r r2 st rc mo):(yc r r2 st rc mo).all one:=by have⟨⟨l,_,H⟩,h3,⟨k,_,h5⟩,h6,h7⟩:=h;show(one r && (one r2 && (one st && (one rc && (one mo && true)))))=true;rw[H.sl.one,h3.one,h5.sl.one,h6.one,h7.one];rfl
section
variable {b:Nat} {t:Tk} {w:aes} {g:Option Nat}
theorem qS(h:m.get b=.cells (t.c w) 62 g):ah TE m 60 (aeq b (0+1))=some (t.un.v w):=by rw[qg,aP (n:=6) h (by simp_all)];rfl
theorem fL(h:m.get b=.cells (t.c w) 62 g):ah TE m 62 (aeq b 0)=some (t.v w):=by rw[QF,aP (n:=11) h (by simp_all)];rfl
theorem lQ(h:m.get b=.cells (t.c w) 62 g):
  ah TE m 3 (aeq b (0+0))=some (aev t.kind)/\ah TE m 3 (aeq b (0+7))=some (aev t.id)/\ah TE m 3 (aeq b (0+8))=some (aev t.other)/\
  ah TE m 3 (aeq b (0+9))=some (aev t.side)/\ah TE m 3 (aeq b (0+10))=some (aev t.dA):=by refine⟨?_,?_,?_,?_,?_⟩ <;>(rw[bO,aL h];rfl)
theorem vd(h:m.get b=.cells (t.c w) 62 g):
  ah TE m 3 (aeq b (0+1+0))=some (aev t.un.id)/\ah TE m 3 (aeq b (0+1+1))=some (aev t.un.kind)/\ah TE m 3 (aeq b (0+1+2))=some (aev t.un.dA)/\
  ah TE m 58 (aeq b (0+1+3))=some w/\ah TE m 3 (aeq b (0+1+4))=some (aev t.un.back)/\ah TE m 3 (aeq b (0+1+5))=some (aev t.un.front):=by
 refine⟨?_,?_,?_,?_,?_,?_⟩;·rw[bO,aL h];rfl
 ·rw[bO,aL h];rfl
 ·rw[bO,aL h];rfl
 ·rw[qh,aL h];rfl
 ·rw[bO,aL h];rfl
 rw[bO,aL h];rfl
end
section
variable {b:Nat} {r r2 st rc mo:aes} {g:Option Nat}
theorem dP(h:m.get b=.cells (yc r r2 st rc mo) 38 g):
  ah TE m 33 (aeq b (0+0))=some (.agg #[r,r2])/\ah TE m 34 (aeq b (0+2))=some st/\ah TE m 35 (aeq b (0+3))=some rc/\
  ah TE m 36 (aeq b (0+4))=some mo/\ah TE m 38 (aeq b 0)=some (yv r r2 st rc mo):=by
 refine⟨?_,?_,?_,?_,?_⟩;·rw[jj,aP (n:=2) h (by grind)];rfl
 ·rw[QL,aL h];rfl
 ·rw[sO,aL h];rfl
 ·rw[QK,aL h];rfl
 rw[Hu,aP (n:=5) h (by grind)];rfl
theorem xB(h:m.get b=.cells (yc r r2 st rc mo) 38 g):
  ah TE m 30 (aeq b (0+0+0))=some (.agg #[r])/\ah TE m 28 (aeq b (0+0+0+0))=some r/\ah TE m 31 (aeq b (0+0+1))=some r2:=by
 refine⟨?_,?_,?_⟩;·rw[ew,aP (n:=1) h (by grind)];rfl
 ·rw[ez,aL h];rfl
 rw[lU,aL h];rfl
end
deriving instance DecidableEq for Un
theorem Jc(hX:cy X){a b:Un}{va vb:aes}(ha:Sl m a.shape va)(hb:Sl m b.shape vb)(la:a.shape.length < 4611686018427387904):
  C X (.func 89) [a.v va,b.v vb] m m.n (.bool (decide (a=b))) m:=by
 refine Cl.fl hX (aaU func89) ?_;rw[F89];dsimp only[δ,ε,ζ,η,κ,ρ,υ,χ];refine aw λm1 q0 n0 r0=>?_;refine aw λm2 s0 j0 u0=>?_;simp only[aX]at n0 j0;have k0:Ext m m2:=⟨by omega,by grind⟩
 have g1:m2.get m.n=.cells (a.c va) 60 none:=by grind
 have g2:m2.get m1.n=.cells (b.c vb) 60 none:=j0;have⟨a0,a1,a2,a3,a4,a5⟩:=kb g1;have⟨b0,b1,b2,b3,b4,b5⟩:=kb g2;have g0:=ha.aG k0;have l0:=hb.aG k0;unfold ptrTo;simp only[bD,cS,cR,bL,cQ,cP,ae]
 have fin:∀{lo:Nat} {c:Bool},m.n<=lo->(c↔a=b)->bz [Value.bool c]=Value.bool (decide (a=b))/\m.n<=lo:=λ{lo c} d0 e=>⟨by
  have:c=decide (a=b):=by grind
  rw[this];rfl,d0⟩
 refine bA (λvs mm lo=>m2=mm/\m.n<=lo/\∃bad:Bool,vs=[.bool bad]/\(bad->a≠b)/\(bad=false->a.id=b.id/\a.kind=b.kind/\a.dA=b.dA/\a.back=b.back/\a.front=b.front/\a.shape.length=b.shape.length)) (λR hR=>?_) ?_
 ·have bad:∀(h:a≠b),∃bad:Bool,[Value.bool true]=[.bool bad]/\(bad->a≠b)/\(bad=false->a.id=b.id/\a.kind=b.kind/\a.dA=b.dA/\a.back=b.back/\a.front=b.front/\a.shape.length=b.shape.length):=λh=>⟨true,rfl,λ_=>h,λe=>by cases e⟩
  rw[a0,ae,b0,ae,bZ,ae,ak];refine av (λc=>hR _ _ _ ⟨rfl,aaV _,bad λe=>?_⟩) (λc0=>?_);·rw[e]at c;simp at c
  rw[a1,ae,b1,ae,bZ,ae,ak];refine av (λc=>hR _ _ _ ⟨rfl,aaV _,bad λe=>?_⟩) (λc1=>?_);·rw[e]at c;simp at c
  rw[a2,ae,b2,ae,bZ,ae,ak];refine av (λc=>hR _ _ _ ⟨rfl,aaV _,bad λe=>?_⟩) (λc2=>?_);·rw[e]at c;simp at c
  rw[a4,ae,b4,ae,bZ,ae,ak];refine av (λc=>hR _ _ _ ⟨rfl,aaV _,bad λe=>?_⟩) (λc4=>?_);·rw[e]at c;simp at c
  rw[a5,ae,b5,ae,bZ,ae,ak];refine av (λc=>hR _ _ _ ⟨rfl,aaV _,bad λe=>?_⟩) (λc5=>?_);·rw[e]at c;simp at c
  rw[a3,ae,g0.len cF,aA,b3,ae,l0.len cF,aA,bZ,ae];refine hR _ _ _ ⟨rfl,aaV _,_,rfl,λc e=>?_,λc=>⟨by grind,by grind,by grind,by grind,by grind,?_⟩⟩;·rw[e]at c;simp at c
  have:(a.shape.length:Int)=(b.shape.length:Int):=by grind
  omega
 rintro _ _ lo ⟨rfl,d0,bad,rfl,h1,h2⟩;rw[aE,ak];refine av (λc=>fin d0 ⟨λe=>(by cases e),λe=>absurd e (h1 c)⟩) (λc=>?_);have⟨f0,f1,f2,f4,f5,hlen⟩:=h2 c;refine Lp.intro (γ:=Nat) (λi=>a.shape.length-i) (λi vs mm lo=>vs=[aey,aev i]/\i<=a.shape.length/\m2=mm/\m.n<=lo/\∀j x y,j < i->a.shape[j]?=some x->b.shape[j]?=some y->x=y) 0 ⟨rfl,aa6 _,rfl,d0,λj x y hj=>by omega⟩ ?_;rintro i vs _ v0 ⟨rfl,hi,rfl,H,e0⟩;rw[aE,aE,a3,ae,g0.len cF,aA,aQ,ae,ak];refine av (λm0=>?_) (λy0=>?_)
 ·have m0:i < a.shape.length:=by grind
  obtain⟨x,hx⟩:∃x,a.shape[i]?=some x:=⟨_,aaW m0⟩
  obtain⟨y,hy⟩:∃y,b.shape[i]?=some y:=⟨_,qz⟩
  have⟨p,e1,e2⟩:=g0.dW (k:=.i64) hx;have⟨q,e3,e4⟩:=l0.dW (k:=.i64) hy;rw[ae,e1,ae,e2,ae,b3,ae,e3,ae,e4,ae,Nb,ae,ak];refine av (λo0=>fin H ⟨λe=>(by cases e),λe=>?_⟩) (λhe=>?_)
  ·rw[e,hy]at hx;cases hx;simp at o0
  rw[aS,ae,wrap64];refine⟨i+1,by omega,rfl,by omega,rfl,H,λj x' y' hj h0 i0=>?_⟩;by_cases p0:j < i;·exact e0 j x' y' p0 h0 i0
  have:j=i:=by omega
  subst this;rw[hx]at h0;rw[hy]at i0;cases h0;cases i0;simpa using he
 have z0:i=a.shape.length:=by
  grind
 have hs:a.shape=b.shape:=Fz hlen λj x y hj=>e0 j x y (by omega);refine fin H ⟨λ_=>?_,λ_=>rfl⟩;rcases a with⟨_,_,_,_,_,_⟩;rcases b with⟨_,_,_,_,_,_⟩;simp only[Un.mk.injEq];exact⟨f0,f1,f2,hs,f4,f5⟩
end
deriving instance DecidableEq for Tk
abbrev Un.z:Un:=⟨0,0,0,[],0,0⟩
def fR(t:Tk):List Int:=
 if t.kind=1 then [t.un.id,t.un.kind,t.un.dA,t.un.back,t.un.front]++t.un.shape.flatMap λp=> [p.x,p.y]
 else if t.kind=2\/t.kind=3\/t.kind=6\/t.kind=7 then [t.id]
 else if t.kind=4 then [t.id,t.dA]
 else if t.kind=5\/t.kind=8 then [t.id,t.side]
 else if t.kind=9 then [t.id,t.other,t.dA]
 else []
def gZ:List Int->List Pl
 |x::y::r=>⟨x,y⟩::gZ r
 |_=> []
theorem vv:∀l:List Pl,gZ (l.flatMap λp=> [p.x,p.y])=l
 |[]=>rfl
 |p::r=>by
  show(⟨p.x,p.y⟩:Pl)::gZ (r.flatMap λp=> [p.x,p.y])=p::r
  rw[vv r]
theorem sU:∀l:List Pl,(l.flatMap λp=> [p.x,p.y]).length=2*l.length
 |[]=>rfl
 |p::r=>by
  show(r.flatMap λp=> [p.x,p.y]).length+1+1=2*(r.length+1)
  rw[sU r];omega
def yw(k:Int)(l:List Int):Option Tk:=
 if k=1 then(if 11<=l.length/\l.length<=21/\l.length%2=1 then some ⟨1,⟨l.getD 0 0,l.getD 1 0,l.getD 2 0,gZ (l.drop 5),l.getD 3 0,l.getD 4 0⟩,0,0,0,0⟩else none)
 else if k=4 then(if l.length=2 then some ⟨k,.z,l.getD 0 0,0,0,l.getD 1 0⟩else none)
 else if k=5\/k=8 then(if l.length=2 then some ⟨k,.z,l.getD 0 0,0,l.getD 1 0,0⟩else none)
 else if k=9 then(if l.length=3 then some ⟨k,.z,l.getD 0 0,l.getD 1 0,0,l.getD 2 0⟩else none)
 else(if l.length=1 then some ⟨k,.z,l.getD 0 0,0,0,0⟩else none)
def sR(t:Tk):Bool:=cW t.kind 1 9 && decide (t.un.shape.length<=8) && decide (yw t.kind (fR t)=some t) &&
 (if t.kind=1 then jF t.un && cW t.un.kind 6 8 else cW t.id 0 99 && cW t.other 0 99 && cW t.side (-2) 7 && cW t.dA 0 7 && (!decide (t.kind=9) ||decide (t.id < t.other)))
theorem wU{u:Un}:(eS u && decide (u.id=0))=decide (u=.z):=by
 have⟨a,b,c,s,d,e⟩:=u
 unfold eS
 grind
theorem NL(t:Tk):sR t=dI t:=by
 have⟨k,u,id,a0,side,dA⟩:=t;by_cases k1:k=1
 ·subst k1;unfold sR dI fR yw;simp only[acZ,acw,abZ,List.getD_cons_zero,List.getD_cons_succ,acs,abM,vv,abe,sU];have⟨a,b,c,s,d,e⟩:=u;rw[adF];by_cases H:jF ⟨a,b,c,s,d,e⟩=true
  ·have h8:=jc H;have b0:3<=s.length/\s.length<=8:=dX (GL H);have h8:s.length<=8:=h8;have hs:(⟨a,b,c,s,d,e⟩:Un).shape.length=s.length:=rfl;rw[aa5 ⟨by omega,by omega,by omega⟩];simp only[aa3,abm,aa7,Tk.mk.injEq,H,true_and,and_true,cW];omega
  ·grind
 all_goals
  by_cases k2:k=2\/k=3\/k=6\/k=7
  ·rcases k2 with rfl |rfl |rfl |rfl <;>
   ·unfold sR dI fR yw
    simp only[wU]
    simp[cW]
    grind
  by_cases k4:k=4
  ·subst k4
   unfold sR dI fR yw
   simp only[wU]
   simp[cW]
   grind
  by_cases k5:k=5\/k=8
  ·rcases k5 with rfl |rfl <;>
   ·unfold sR dI fR yw
    simp only[wU]
    simp[cW]
    grind
  by_cases k9:k=9
  ·subst k9
   unfold sR dI fR yw
   simp only[wU]
   simp[cW]
   grind
  unfold sR dI
  have:cW k 1 9=false:=by
   unfold cW
   grind
  grind
end Go.Proofs.YtigpcbodmjjaiaaGreatDoor
