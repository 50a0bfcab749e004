/- putlogref27: of, Same, Formed. -/
import Derived.Test.YtigpcbodmjjaiaaGreatDoorG8J
set_option maxRecDepth 100000
namespace Go.Proofs.YtigpcbodmjjaiaaGreatDoor
open Go Go.D Go.Proofs.Tryz
section
variable {X:aK} {m:M}
abbrev Tk.z:Tk:=⟨0,.z,0,0,0,0⟩
def Fg(o:Option Tk)(m':M)(H:aeM):Prop:=match o with
 |some t=>∃w,H=.tuple #[t.v w,.bool true]/\Sl m' t.un.shape w
 |none=>H=.tuple #[Tk.z.v (.slice none 0 0),.bool false]
theorem QG{t:Tk}{w b:aeM}(h:bB (.tuple #[t.v w,b])):Go.D.bF w:=by
 have H:((true && (true && (true && (true && (Go.D.bF w && (true && (true && (true && (true && (true && (true && true))))))))))) && (dG b && true)):=h
 grind
theorem Fg.flat{o:Option Tk}{m':M}{v b:aeM}(h:Fg o m' (.tuple #[v,b]))(H:bB (.tuple #[v,b]))(m:M):Fg o m (.tuple #[v,b]):=by
 unfold Fg at h⊢;split at h
 ·have⟨w,e,hs⟩:=h;cases e;exact⟨w,rfl,(oZ hs (QG H) m).2⟩
 exact h
theorem PU{k:Int}:aJ TE 62 [(0,aeP k)]=some (Tk.v ⟨k,.z,0,0,0,0⟩ aeQ):=sj rfl
theorem Lh:aJ TE 62 []=some (Tk.z.v aeQ):=Li
section
variable {b:Nat} {t:Tk} {w:aeM} {g:Option Nat} {P:M->Nat->Prop}
theorem An{j:Nat}{v:Int}(h:m.get b=.cells (t.c w) 62 g)(hj:7<=j)(H:j<=10)
  (hP:∀m1,m1.n=m.n->m1.get b=.cells ((t.c w).set j (aeP v)) 62 g->(∀c,c≠b->m1.get c=m.get c)->P m1 b):
  aP (aD TE m 3 (aeK b (0+j)) (aeP v)) P:=by
 refine cg uz h rfl (by show 0+j+1<=11;omega) rfl λm1 hn hg hk=>hP m1 hn ?_ hk
 rw[hg]
 congr 1
 have:(cells (Value.int .i64 v))=[aeP v]:=rfl
 rw[this,abV]
 exact kG (by show j < 11;omega)
theorem MX{u:Un}{w':aeM}(h:m.get b=.cells (t.c w) 62 g)(h1:one w')
  (H:∀m1,m1.n=m.n->m1.get b=.cells (Tk.c {t with un:=u} w') 62 g->(∀c,c≠b->m1.get c=m.get c)->P m1 b):
  aP (aD TE m 60 (aeK b (0+1)) (u.v w')) P:=
 cg du h rfl (by show 0+1+6<=11;decide) (Un.cR h1) λm1 hn hg hk=>H m1 hn hg hk
theorem MY{w':aeM}(h:m.get b=.cells (t.c w) 62 g)(h1:one w')(H:cells w'=[w'])
  (hP:∀m1,m1.n=m.n->m1.get b=.cells (t.c w') 62 g->(∀c,c≠b->m1.get c=m.get c)->P m1 b):
  aP (aD TE m 58 (aeK b (0+1+3)) w') P:=
 cg Dr h (by rw[H];rfl) (by grind) (by grind) λm1 hn hg hk=>hP m1 hn (by simp_all) hk
end
theorem yB:∀(l:List Int) (k:Nat) (x y:Int),l[2*k]?=some x->l[2*k+1]?=some y->(hU l)[k]?=some ⟨x,y⟩
 |[],k,x,y,h,_=>by simp at h
 |[a],k,x,y,h,H=>by
  cases k with
  |zero=>simp at H
  |succ k=>simp[show 2*(k+1)=2*k+1+1 by omega]at h
 |a::b::r,0,x,y,h,H=>by
  cases h;cases H;rfl
 |a::b::r,k+1,x,y,h,H=>by
  rw[show 2*(k+1)=2*k+1+1 by omega]at h H
  simp only[aa7]at h H
  show(hU r)[k]?=_
  exact yB r k x y h H
theorem nF:∀(l:List Int),(hU l).length=l.length/2
 |[]=>rfl
 |[a]=>by simp[hU]
 |a::b::r=>by
  show(hU r).length+1=(r.length+1+1)/2
  rw[nF r];omega
theorem Rc(hX:cC X){k:Int}{l:List Int}{v:aeM}(hv:Sl m l v)(hl:l.length < 1000000):
  ∃rv m',C X (.func 178) [aeP k,v] m m.n rv m'/\Ext m m'/\Fg (xI k l) m' rv:=by
 have key:=Cl.iX (E:=TE) (X:=X) (f:=178) (args:=[aeP k,v]) (m:=m) (R:=λrv m' b=>b=m.n/\Ext m m'/\Fg (xI k l) m' rv) (hX.no _ rfl) (aa3 func178) rfl ?_
 ·obtain⟨rv,m',b,hc,rfl,h⟩:=key;exact⟨rv,m',hc,h⟩
 rw[Z2];dsimp only[δ,ε,ζ,η,θ,ι,κ,ν,ς,υ,φ,ψ];refine av λm1 D1 h1 i1=>?_;rw[PU,ae];refine av λm3 E1 C0 j1=>?_;refine aC og C0 rfl rfl rfl λm4 F1 D0 l1=>?_;have gz:m4.get m.n=.cells (Tk.z.c aeQ) 62 none:=by grind
 have ga:m4.get m1.n=.cells (Tk.c ⟨k,.z,0,0,0,0⟩ aeQ) 62 none:=D0;have d0:Ext m m4:=⟨by omega,by grind⟩
 obtain⟨A,hA⟩:∃A,A=m1.n:=⟨_,rfl⟩
 rw[<-hA]at ga⊢;have o1:m.n < A:=by omega
 have G1:A < m4.n:=by omega
 clear h1 i1 C0 j1 D0 l1;unfold ptrTo;simp only[dI,ck,cG,cF,dk,bH,ae,aS,aj]
 have fin:∀{mm:M} {t:Tk} {w:aeM} {lo:Nat} {Q:Prop},Q->mm.get A=.cells (t.c w) 62 none->mm.get m.n=.cells (Tk.z.c aeQ) 62 none->Sl mm t.un.shape w->xI k l=some t->m.n<=mm.n->(∀c,c < m.n->mm.get c=m.get c)->m.n<=lo->
   ai (ah TE mm 62 (aeK A 0)) λv=>aP (aD TE mm 62 (aeK m.n 0) v) λm' b=>ai (ah TE m' 62 (aeK m.n 0)) λv'=>
    (bB (bC [v',aeR])/\m.n<=min lo b/\(Q/\Ext m m/\Fg (xI k l) m (bC [v',aeR])))\/((bB (bC [v',aeR])=false\/min lo b < m.n)/\(min m.n (min lo b)=m.n/\Ext m m'/\Fg (xI k l) m' (bC [v',aeR]))):=by
  intro mm t w lo Q hQ ga gz hs ho hn hk H
  rw[gQ ga,ae]
  refine aC og gz rfl rfl (Tk.cR hs.one) λm' r1 e0 E0=>?_
  have e0:m'.get m.n=.cells (t.c w) 62 none:=e0
  rw[gQ e0,ae]
  have u1:Sl m' t.un.shape w:=hs.aY λc cs ty g hc ht=>by rw[E0 c (λe=>by subst e;rw[gz]at hc;cases hc;simp[aZ.ty,aZ.eB]at ht),hc]
  have hr:Fg (xI k l) m' (.tuple #[t.v w,aeR]):=by unfold Fg;rw[ho];exact⟨w,rfl,u1⟩
  show(bB (.tuple #[t.v w,aeR])/\_/\(Q/\Ext m m/\Fg _ m (.tuple #[t.v w,aeR])))\/((bB (.tuple #[t.v w,aeR])=false\/_)/\(_/\Ext m m'/\Fg _ m' (.tuple #[t.v w,aeR])))
  cases hf:bB (.tuple #[t.v w,aeR])
  ·exact .inr ⟨.inl rfl,by omega,⟨by omega,by grind⟩,hr⟩
  ·exact .inl ⟨rfl,by omega,hQ,.refl,hr.flat hf m⟩
 have bad:∀{mm:M} {lo:Nat} {Q:Prop},Q->mm.get m.n=.cells (Tk.z.c aeQ) 62 none->xI k l=none->m.n<=lo->
   ai (aJ TE 62 []) λv=>aP (aD TE mm 62 (aeK m.n 0) v) λm' b=>ai (ah TE m' 62 (aeK m.n 0)) λv'=>
    (bB (bC [v',aeS])/\m.n<=min lo b/\(Q/\Ext m m/\Fg (xI k l) m (bC [v',aeS])))\/((bB (bC [v',aeS])=false\/min lo b < m.n)/\(min m.n (min lo b)=m.n/\Ext m m'/\Fg (xI k l) m' (bC [v',aeS]))):=by
  intro mm lo Q hQ gz ho H
  rw[Lh,ae]
  refine aC og gz rfl rfl rfl λm' r1 e0 E0=>?_
  have e0:m'.get m.n=.cells (Tk.z.c aeQ) 62 none:=e0
  rw[gQ e0,ae]
  exact .inl ⟨rfl,by omega,hQ,.refl,by unfold Fg;rw[ho];rfl⟩
 have b0:∀{mm:M} {i:Nat},Ext m mm->i < l.length->∃a,an TE 26 v (aeP i)=some a/\ah TE mm 3 a=some (aeP (l.getD i 0)):=by
  intro mm i hx hi
  have:=(hv.aF hx).P3 (k:=.i64) (show l[i]?=some (l.getD i 0) by grind)
  grind
 refine ak (λc=>?_) (λc=>?_)
 ·have k1:k=1:=aba c;have ho:xI k l=if 11<=l.length/\l.length<=21/\l.length%2=1 then some ⟨1,⟨l.getD 0 0,l.getD 1 0,l.getD 2 0,hU (l.drop 5),l.getD 3 0,l.getD 4 0⟩,0,0,0,0⟩else none:=by unfold xI;rw[abe k1]
  refine aW (λvs mm lo=>vs=[.bool (!decide (11<=l.length/\l.length<=21/\l.length%2=1))]/\m4=mm/\m.n<=lo) (λQ hQ=>?_) ?_
  ·rw[(hv.aF d0).len dV,aA,aM,ae,aj]
   refine ak (λc=>hQ _ _ _ ⟨?_,rfl,by omega⟩) (λc1=>?_)
   ·have c:=aba c;rw[abk (by omega)];rfl
   have c1:=aa6 c1
   rw[aA,bV,ae,aj]
   refine ak (λc=>hQ _ _ _ ⟨?_,rfl,by omega⟩) (λc2=>?_)
   ·have c:=aba c;rw[abk (by omega)];rfl
   have c2:=aa6 c2
   rw[aA,uc (by decide),ae,aS,ae]
   refine hQ _ _ _ ⟨?_,rfl,by omega⟩
   congr 2
   rw[<-decide_not,decide_eq_decide]
   have:(l.length:Int).tmod 2=((l.length%2:Nat):Int):=by grind
   rw[this]
   omega
  rintro _ _ lo ⟨rfl,rfl,H⟩;rw[aB,aj];refine ak (λc=>?_) (λc=>?_)
  ·rw[abz]at c;rw[abd (aa6 c)]at ho;exact bad (by grind) gz ho H
  rw[abu]at c;have hc:=aba c;rw[abe hc]at ho;obtain⟨a0,p0,q0⟩:=b0 d0 (show 0 < l.length by omega);obtain⟨a1,p1,q1⟩:=b0 d0 (show 1 < l.length by omega);obtain⟨a2,p2,q2⟩:=b0 d0 (show 2 < l.length by omega);obtain⟨a3,p3,q3⟩:=b0 d0 (show 3 < l.length by omega);obtain⟨a4,p4,q4⟩:=b0 d0 (show 4 < l.length by omega);have p0:an TE 26 v (aeP 0)=some a0:=p0;have p1:an TE 26 v (aeP 1)=some a1:=p1;have p2:an TE 26 v (aeP 2)=some a2:=p2;have p3:an TE 26 v (aeP 3)=some a3:=p3;have p4:an TE 26 v (aeP 4)=some a4:=p4;rw[p0,ae,q0,ae,p1,ae,q1,ae,p2,ae,q2,ae,p3,ae,q3,ae,p4,ae,q4,ae];rw[show aJ TE 60 [(0,aeP (l.getD 0 0)),(1,aeP (l.getD 1 0)),(2,aeP (l.getD 2 0)),(4,aeP (l.getD 3 0)),(5,aeP (l.getD 4 0))]=some (Un.v ⟨l.getD 0 0,l.getD 1 0,l.getD 2 0,[],l.getD 3 0,l.getD 4 0⟩ aeQ)from so rfl rfl rfl rfl rfl,ae]
  refine MX ga rfl λH1 A1 F0 G0=>?_;obtain⟨L,hL⟩:∃L,L=l.drop 5:=⟨_,rfl⟩
  have I1:L.length=l.length-5:=by grind
  refine Lp.intro (γ:=Nat) (λj=>L.length-j) (λj vs mm lo=>∃r,vs=[aeP ((5+2*j:Nat):Int)]/\2*j<=L.length/\m4.n<=mm.n/\m.n<=lo/\(∀c,c < A->mm.get c=m4.get c)/\mm.get A=.cells (Tk.c ⟨k,⟨l.getD 0 0,l.getD 1 0,l.getD 2 0,[],l.getD 3 0,l.getD 4 0⟩,0,0,0,0⟩ r) 62 none/\Ow (A+1) mm ((hU L).take j) r) 0 ⟨_,rfl,by omega,by omega,by omega,λc hc=>G0 c (by omega),F0,Ow.nil⟩ ?_;rintro j vs mm J1 ⟨r,rfl,hj,K1,H0,I0,J0,v0⟩;have o0:Ext m mm:=⟨by omega,λc hc=>by rw[I0 c (by omega),d0.get c hc]⟩
  rw[aB,(hv.aF o0).len dV,aA,aM,ae,aj];refine ak (λK0=>?_) (λL1=>?_)
  ·have K0:5+2*j < l.length:=by grind
   have⟨a,e1,e2⟩:=b0 o0 K0;obtain⟨a',e3,e4⟩:=b0 o0 (show 5+2*j+1 < l.length by omega);have e3:an TE 26 v (aeP (((5+2*j:Nat):Int)+1))=some a':=e3
   have hp:(hU L)[j]?=some ⟨l.getD (5+2*j) 0,l.getD (5+2*j+1) 0⟩:=by
    refine yB _ _ _ _ ?_ ?_
    ·grind
    ·grind
   have lr:ah TE mm 58 (aeK A (0+1+3))=some r:=(vM J0).2.2.2.1;rw[lr,ae,e1,ae,e2,ae,aQ,ae,wrap64 (by omega) (by omega),e3,ae,e4,ae];rw[show aJ TE 141 [(0,aeP (l.getD (5+2*j) 0)),(1,aeP (l.getD (5+2*j+1) 0))]=some (Pl.v ⟨l.getD (5+2*j) 0,l.getD (5+2*j+1) 0⟩)from mE rfl rfl,ae];have N1:((hU L).take j).length<=j:=by grind
   have pp:=nF L;refine eT (T:=58) (x:=(⟨l.getD (5+2*j) 0,l.getD (5+2*j+1) 0⟩:Pl)) zC rfl v0 (by omega) (by omega) FR (λ_=>rfl) λr' m2 w2 n2 k2 O1 l2=>?_;have L0:m2.get A=_:=(k2 A (by omega)).trans J0;refine MY L0 w2.sl.one w2.sl.cells λP1 B1 N0 O0=>?_;rw[aQ,ae,wrap64 (by omega) (by omega)];refine⟨j+1,by omega,r',by grind,by omega,by omega,by omega,by grind,N0,?_⟩;rw[abt,hp];exact w2.tH rfl λc T1 b2=>O0 c (by omega)
  have d2:2*j=L.length:=by
   grind
  have pp:=nF L;rw[aby (by omega)]at v0;have Q0:mm.get A=.cells (Tk.c ⟨1,⟨l.getD 0 0,l.getD 1 0,l.getD 2 0,hU (l.drop 5),l.getD 3 0,l.getD 4 0⟩,0,0,0,0⟩ r) 62 none:=by grind
  exact fin (by grind) Q0 ((I0 _ o1).trans gz) (hL ▸ v0.sl) ho (by omega) (λc hc=>o0.get c hc) H0
 have k1:k≠1:=aa6 c;obtain⟨M,hM⟩:∃M:Nat,M=if k=4\/k=5\/k=8 then 2 else if k=9 then 3 else 1:=⟨_,rfl⟩
 have ho:xI k l=if l.length=M then some (if k=9 then⟨k,.z,l.getD 0 0,l.getD 1 0,0,l.getD 2 0⟩else if k=5\/k=8 then⟨k,.z,l.getD 0 0,0,l.getD 1 0,0⟩else if k=4 then⟨k,.z,l.getD 0 0,0,0,l.getD 1 0⟩else⟨k,.z,l.getD 0 0,0,0,0⟩)else none:=by
  unfold xI
  grind
 refine aW (λvs mm lo=>vs=[aeP (if k=4\/k=5\/k=8 then 2 else 1)]/\m4=mm/\m.n<=lo) (λQ hQ=>?_) ?_
 ·refine aW (λvs mm lo=>vs=[.bool (decide (k=4\/k=5\/k=8))]/\m4=mm/\m.n<=lo) (λR hR=>?_) ?_
  ·refine ak (λc=>hR _ _ _ ⟨by grind,rfl,by omega⟩) (λc4=>?_)
   refine ak (λc=>hR _ _ _ ⟨by grind,rfl,by omega⟩) (λc5=>hR _ _ _ ⟨?_,rfl,by omega⟩)
   have c4:=aa6 c4
   have c5:=aa6 c5
   congr 2
   rw[decide_eq_decide]
   omega
  rintro _ _ lo ⟨rfl,rfl,H⟩;rw[aB,aj];refine ak (λc=>hQ _ _ _ ⟨by grind,rfl,H⟩) (λc=>hQ _ _ _ ⟨by grind,rfl,H⟩)
 rintro _ _ lo ⟨rfl,rfl,H⟩;rw[aB];refine aW (λvs mm lo=>vs=[aeP (M:Int)]/\m4=mm/\m.n<=lo) (λQ hQ=>?_) ?_
 ·refine ak (λc=>hQ _ _ _ ⟨?_,rfl,H⟩) (λc=>hQ _ _ _ ⟨?_,rfl,H⟩)
  ·have c:=aba c;subst c;rw[hM];rfl
  have c:=aa6 c;rw[hM,abd c];split <;>rfl
 rintro _ _ lo ⟨rfl,rfl,H⟩;rw[aB,(hv.aF d0).len dV,aA,bR,ae,aj];refine ak (λc=>?_) (λc=>?_)
 ·rw[abz]at c;have c:=aa6 c;rw[abd (by omega)]at ho;exact bad (by grind) gz ho H
 rw[abu]at c;have c:=aba c;have v1:l.length=M:=by omega
 rw[abe v1]at ho;have g2:1<=M:=by grind
 obtain⟨a0,p0,q0⟩:=b0 d0 (show 0 < l.length by omega);have p0:an TE 26 v (aeP 0)=some a0:=p0;rw[p0,ae,q0,ae];refine An (j:=7) ga (by omega) (by omega) λb1 d1 i0 r0=>?_;have i0:b1.get A=.cells (Tk.c ⟨k,.z,l.getD 0 0,0,0,0⟩ aeQ) 62 none:=i0;refine aW (λvs mm lo=>vs=[]/\mm.n=m4.n/\(∀c,c≠A->mm.get c=m4.get c)/\m.n<=lo/\mm.get A=.cells (Tk.c (if k=4 then⟨k,.z,l.getD 0 0,0,0,l.getD 1 0⟩else⟨k,.z,l.getD 0 0,0,0,0⟩) aeQ) 62 none) (λQ hQ=>?_) ?_
 ·refine ak (λc=>?_) (λc=>hQ _ _ _ ⟨rfl,d1,r0,by omega,by grind⟩);have c:=aba c;have w1:M=2:=by grind
  obtain⟨a1,p1,q1⟩:=b0 (mm:=b1) ⟨by omega,λc hc=>by rw[r0 c (by omega),d0.get c hc]⟩ (show 1 < l.length by omega);have p1:an TE 26 v (aeP 1)=some a1:=p1;rw[p1,ae,q1,ae];refine An (j:=10) i0 (by omega) (by omega) λmm hn hg hk=>hQ _ _ _ ⟨rfl,by omega,by grind,by omega,by simp_all⟩
 rintro _ s0 lo ⟨rfl,y0,j0,H,k0⟩;refine aW (λvs mm lo=>vs=[]/\mm.n=m4.n/\(∀c,c≠A->mm.get c=m4.get c)/\m.n<=lo/\mm.get A=.cells (Tk.c (if k=5\/k=8 then⟨k,.z,l.getD 0 0,0,l.getD 1 0,0⟩else if k=4 then⟨k,.z,l.getD 0 0,0,0,l.getD 1 0⟩else⟨k,.z,l.getD 0 0,0,0,0⟩) aeQ) 62 none) (λQ hQ=>?_) ?_
 ·refine aW (λvs mm lo=>vs=[.bool (decide (k=5\/k=8))]/\s0=mm/\m.n<=lo) (λR hR=>?_) ?_
  ·refine ak (λc=>hR _ _ _ ⟨by grind,rfl,H⟩) (λc5=>hR _ _ _ ⟨?_,rfl,H⟩)
   have c5:=aa6 c5
   congr 2
   rw[decide_eq_decide]
   omega
  rintro _ _ lo ⟨rfl,rfl,H⟩;rw[aB,aj];refine ak (λc=>?_) (λc=>hQ _ _ _ ⟨rfl,y0,j0,H,by grind⟩);have c:=aba c;have w1:M=2:=by grind
  rw[abd (by omega)]at k0;obtain⟨a1,p1,q1⟩:=b0 (mm:=s0) ⟨by omega,λc hc=>by rw[j0 c (by omega),d0.get c hc]⟩ (show 1 < l.length by omega);have p1:an TE 26 v (aeP 1)=some a1:=p1;rw[p1,ae,q1,ae];refine An (j:=9) k0 (by omega) (by omega) λmm hn hg hk=>hQ _ _ _ ⟨rfl,by omega,by grind,by omega,by simp_all⟩
 rintro _ g1 lo ⟨rfl,z0,g0,H,l0⟩;refine aW (λvs mm lo=>vs=[]/\mm.n=m4.n/\(∀c,c≠A->mm.get c=m4.get c)/\m.n<=lo/\mm.get A=.cells (Tk.c (if k=9 then⟨k,.z,l.getD 0 0,l.getD 1 0,0,l.getD 2 0⟩else if k=5\/k=8 then⟨k,.z,l.getD 0 0,0,l.getD 1 0,0⟩else if k=4 then⟨k,.z,l.getD 0 0,0,0,l.getD 1 0⟩else⟨k,.z,l.getD 0 0,0,0,0⟩) aeQ) 62 none) (λQ hQ=>?_) ?_
 ·refine ak (λc=>?_) (λc=>hQ _ _ _ ⟨rfl,z0,g0,H,by grind⟩);have c:=aba c;have h2:M=3:=by grind
  rw[abd (by omega),abd (by omega)]at l0;obtain⟨a1,p1,q1⟩:=b0 (mm:=g1) ⟨by omega,λc hc=>by rw[g0 c (by omega),d0.get c hc]⟩ (show 1 < l.length by omega);have p1:an TE 26 v (aeP 1)=some a1:=p1;rw[p1,ae,q1,ae];refine An (j:=8) l0 (by omega) (by omega) λu0 y1 h0 A0=>?_;have h0:u0.get A=.cells (Tk.c ⟨k,.z,l.getD 0 0,l.getD 1 0,0,0⟩ aeQ) 62 none:=h0;obtain⟨a2,p2,q2⟩:=b0 (mm:=u0) ⟨by omega,λc hc=>by rw[A0 c (by omega),g0 c (by omega),d0.get c hc]⟩ (show 2 < l.length by omega);have p2:an TE 26 v (aeP 2)=some a2:=p2;rw[p2,ae,q2,ae];refine An (j:=10) h0 (by omega) (by omega) λmm hn hg hk=>hQ _ _ _ ⟨rfl,by omega,by grind,by omega,by simp_all⟩
 rintro _ C1 lo ⟨rfl,z1,n0,H,B0⟩;refine fin (by grind) B0 ((n0 _ (by omega)).trans gz) ?_ ho (by omega) (λc hc=>by rw[n0 c (by omega),d0.get c hc]) H;split;·exact .nil
 split;·exact .nil
 split <;>exact .nil
theorem Rb{k:Int}{l:List Int}{p:Tk}(h:xI k l=some p):p.un.shape.length<=l.length:=by
 unfold xI at h;split at h
 ·split at h
  ·cases h;show(hU (l.drop 5)).length<=_;rw[nF,adJ];omega
  cases h
 repeat' (split at h)
 all_goals first |(cases h;exact abh _) |cases h
theorem JM(hX:cC X){a b:Tk}{va vb:aeM}(ha:Sl m a.un.shape va)(hb:Sl m b.un.shape vb)(la:a.un.shape.length < 4611686018427387904):
  C X (.func 39) [a.v va,b.v vb] m m.n (.bool (decide (a=b))) m:=by
 refine Cl.cd (hX.no _ rfl) (aa3 func39) rfl rfl ?_;rw[F39];dsimp only[δ,ε,η,ρ,υ,χ];refine av λm1 n0 j0 o0=>?_;refine av λm2 p0 k0 l0=>?_;have d0:Ext m m2:=⟨by omega,by grind⟩
 have g1:m2.get m.n=.cells (a.c va) 62 none:=by rw[l0 _ (by omega)];exact j0
 have g2:m2.get m1.n=.cells (b.c vb) 62 none:=k0;have⟨a0,a1,a2,a3,a4⟩:=oK g1;have⟨b0,b1,b2,b3,b4⟩:=oK g2;have au:=rB g1;have bu:=rB g2;unfold ptrTo;simp only[cz,dI,ck,cG,cF,dk,ae,a0,a1,a2,a3,a4,b0,b1,b2,b3,b4,au,bu,aS,aj];have⟨k,u,id,ot,sd,ma⟩:=a;have⟨k',u',e0,g0,h0,i0⟩:=b;refine aW (λvs m' lo=>vs=[.bool (decide ((⟨k,u,id,ot,sd,ma⟩:Tk)=⟨k',u',e0,g0,h0,i0⟩))]/\m.n<=lo) (λR hR=>?_) ?_
 ·have no:∀{mm:M} {lo:Nat},¬((⟨k,u,id,ot,sd,ma⟩:Tk)=⟨k',u',e0,g0,h0,i0⟩)->m.n<=lo->R [aeS] mm lo:=λh H=>hR _ _ _ ⟨by grind,H⟩
  refine ak (λc0=>?_) (λc=>no (λe=>aa6 c (by grind)) (by omega))
  refine ak (λc1=>?_) (λc=>no (λe=>aa6 c (by grind)) (by omega))
  refine ak (λc2=>?_) (λc=>no (λe=>aa6 c (by grind)) (by omega))
  refine ak (λc3=>?_) (λc=>no (λe=>aa6 c (by grind)) (by omega))
  refine ak (λc4=>?_) (λc=>no (λe=>aa6 c (by grind)) (by omega))
  refine aE (JN hX (ha.aF d0) (hb.aF d0) la) (hR _ _ _ ⟨?_,by omega⟩)
  congr 2
  rw[decide_eq_decide,Tk.mk.injEq]
  have:=aba c0
  have:=aba c1
  have:=aba c2
  have:=aba c3
  have:=aba c4
  simp_all
 rintro _ _ lo ⟨rfl,H⟩;rw[aB];exact⟨rfl,H⟩
theorem Et(hX:cC X){t:Tk}{w:aeM}(hw:Sl m t.un.shape w)(hl:t.un.shape.length < 100000):
  C X (.func 132) [t.v w] m m.n (.bool (dS t)) m:=by
 rw[<-OG];refine Cl.cd (hX.no _ rfl) (aa3 func132) rfl rfl ?_;rw[aap];dsimp only[δ,ε,η,ι,κ,ξ,ο,ρ,ς,υ,φ,χ,Γ,ψ,ω];refine av λm1 L0 z0 A0=>?_;have g1:m1.get m.n=.cells (t.c w) 62 none:=z0;have B0:Ext m m1:=⟨by omega,A0⟩
 have l0:=hw.aF B0;obtain⟨k0, -, -, -, -⟩:=oK g1;obtain⟨-, -, -,v3, -, -⟩:=vM g1;unfold ptrTo;simp only[cz,dI,ck,cG,cF,dk,cM,bH,ae];obtain⟨B,hB⟩:∃B,B=tK t:=⟨_,rfl⟩
 rw[<-hB];unfold tK at hB;refine aW (λvs mm lo=>vs=[.bool (!(cQ t.kind 1 9 && decide (t.un.shape.length<=8)))]/\m1=mm/\m.n<=lo) (λQ H=>?_) ?_
 ·rw[k0,ae]
  refine aE (iK hX _ _ _) ?_
  rw[bj,ae,aj]
  refine ak (λc=>H _ _ _ ⟨?_,rfl,by omega⟩) (λc=>?_)
  ·rw[abz]at c;rw[c];rfl
  rw[abu]at c
  rw[v3,ae,l0.len cx,aA,bV,ae]
  refine H _ _ _ ⟨?_,rfl,by omega⟩
  rw[c,abG]
  congr 2
  rw[<-decide_not,decide_eq_decide]
  omega
 rintro _ _ lo ⟨rfl,rfl,C0⟩;rw[aB,aj];refine ak (λc=>?_) (λc=>?_)
 ·rw[abz]at c;rw[c]at hB;rw[hB];exact⟨rfl,C0⟩
 rw[abu]at c;rw[c,abG]at hB;rw[k0,ae,gQ g1,ae];have⟨N0,m23,D0,r0,E0⟩:=Ce (m:=m1) hX l0 hl;refine aE D0 ⟨aa4 _,?_⟩
 have nl:(fN t).length < 1000000:=by
  unfold fN
  split
  ·rw[abO,tM];simp only[abr,abI];omega
  grind
 have⟨rv,p0,F0,u0,g0⟩:=Rc (m:=m23) (k:=t.kind) hX E0 nl;refine aE F0 ⟨aa4 _,?_⟩;have n23:=r0.n;have n26:=u0.n
 obtain⟨p,wp,ok,rfl,sp,lp,e0⟩:∃(p:Tk) (wp:aeM) (ok:Bool),rv=.tuple #[p.v wp,.bool ok]/\Sl p0 p.un.shape wp/\p.un.shape.length < 4611686018427387904/\decide (xI t.kind (fN t)=some t)=(ok && decide (p=t)):=by
  unfold Fg at g0
  cases e:xI t.kind (fN t)with
  |none=>rw[e]at g0;exact⟨.z,_,false,g0,.nil,by decide,by simp⟩
  |some p=>
   rw[e]at g0
   have⟨wp,h1,h2⟩:=g0
   have:=Rb e
   grind
 rw[aH,aH];simp only[aa8,aa7,ae];refine av λO0 H0 v0 I0=>?_;refine aC og v0 rfl rfl (Tk.cR sp.one) λq0 J0 h0 K0=>?_;have h0:q0.get p0.n=.cells (p.c wp) 62 none:=h0;have n0:Ext p0 q0:=⟨by omega,by grind⟩
 have b0:=(r0.trans u0).trans n0;have d0:=b0.cells g1;refine aW (λvs mm lo=>vs=[.bool (!decide (xI t.kind (fN t)=some t))]/\q0=mm/\m.n<=lo) (λQ H=>?_) ?_
 ·rw[bj,ae,aj];refine ak (λc=>H _ _ _ ⟨?_,rfl,by omega⟩) (λc=>?_)
  ·rw[abz]at c;rw[e0,c];rfl
  rw[abu]at c;rw[gQ h0,ae,gQ d0,ae];refine aE (JM hX (sp.aF n0) (l0.aF b0) lp) ?_;rw[bj,ae];exact H _ _ _ ⟨by grind,rfl,by omega⟩
 rintro _ _ fS ⟨rfl,rfl,y0⟩;rw[aB,aj];refine ak (λc=>?_) (λc=>?_)
 ·rw[abz]at c;rw[c,acS]at hB;rw[hB];exact⟨rfl,y0⟩
 rw[abu]at c;rw[c,abG]at hB;have⟨k0,i0,o0,s0,a0⟩:=oK d0;obtain⟨-,ku, -, -, -, -⟩:=vM d0;have uu:=rB d0;simp only[cM,ae,k0,i0,o0,s0,a0,ku,uu,aS,bR,aM,aj];refine ak (λc1=>?_) (λc1=>?_)
 ·rw[abe (aba c1)]at hB;refine aW (λvs mm lo=>vs=[.bool B]/\m.n<=lo) (λQ H=>?_) ?_
  ·refine aE (je hX (l0.aF b0) (by omega)) ?_;rw[aj];refine ak (λc=>?_) (λc=>H _ _ _ ⟨by grind,by omega⟩);rw[ku,ae];refine aE (iK hX _ _ _) ?_;exact H _ _ _ ⟨by grind,by omega⟩
  rintro _ _ G0 ⟨rfl,j0⟩;rw[aB];exact⟨rfl,j0⟩
 rw[abd (aa6 c1)]at hB;refine aW (λvs mm lo=>vs=[.bool B]/\m.n<=lo) (λQ H=>?_) ?_
 ·refine aE (iK hX _ _ _) ?_;rw[aj];refine ak (λc=>?_) (λc=>H _ _ _ ⟨by grind,by omega⟩);rw[o0,ae];refine aE (iK hX _ _ _) ?_;rw[aj];refine ak (λd=>?_) (λd=>H _ _ _ ⟨by grind,by omega⟩);rw[s0,ae];refine aE (iK hX _ _ _) ?_;rw[aj];refine ak (λe=>?_) (λe=>H _ _ _ ⟨by grind,by omega⟩);rw[a0,ae];refine aE (iK hX _ _ _) ?_;rw[aj];refine ak (λf=>?_) (λf=>H _ _ _ ⟨by grind,by omega⟩);rw[k0,ae,bR,ae,aj,i0,ae,o0,ae,aM,ae];refine ak (λg=>H _ _ _ ⟨by grind,by omega⟩) (λg=>H _ _ _ ⟨by grind,by omega⟩)
 rintro _ _ G0 ⟨rfl,j0⟩;rw[aB];exact⟨rfl,j0⟩
theorem Qw{u:Un}{w b:aeM}(h:bB (.tuple #[u.v w,b])):Go.D.bF w:=by
 have H:((true && (true && (true && (Go.D.bF w && (true && (true && true)))))) && (dG b && true)):=h
 grind
theorem eZ.flat{us:List Un}{id:Int}{m':M}{v b:aeM}(h:eZ us id m' (.tuple #[v,b]))(H:bB (.tuple #[v,b]))(m:M):eZ us id m (.tuple #[v,b]):=by
 unfold eZ at h⊢;split at h
 ·have⟨w,e,hs⟩:=h;cases e;exact⟨w,rfl,(oZ hs (Qw H) m).2⟩
 exact h
theorem EB{us:List Un}{id:Int}{m':M}{v b:aeM}{lo:Nat}{Q:Prop}(hQ:Q)(h:eZ us id m' (.tuple #[v,b]))(H:m.n<=lo)(hx:Ext m m'):
  (bB (bC [v,b])/\m.n<=lo/\(Q/\Ext m m/\eZ us id m (bC [v,b])))\/((bB (bC [v,b])=false\/lo < m.n)/\(min m.n lo=m.n/\Ext m m'/\eZ us id m' (bC [v,b]))):=by
 cases hf:bB (bC [v,b]);·exact .inr ⟨.inl rfl,by omega,hx,h⟩
 exact .inl ⟨rfl,H,hQ,.refl,h.flat hf m⟩
theorem jm(hX:cC X){l:List UW}{v vm:aeM}(h:dg m l v)(hl:l.length < 1000000)(h1:one vm)(id:Int):
  ∃rv m',C X (.func 71) [.agg #[v,vm],aeP id] m m.n rv m'/\Ext m m'/\eZ (bP l) id m' rv:=by
 have key:=Cl.iX (E:=TE) (X:=X) (f:=71) (args:=[.agg #[v,vm],aeP id]) (m:=m) (R:=λrv m' b=>b=m.n/\Ext m m'/\eZ (bP l) id m' rv) (hX.no _ rfl) (aa3 func71) rfl ?_
 ·obtain⟨rv,m',b,hc,rfl,h⟩:=key;exact⟨rv,m',hc,h⟩
 rw[F71];dsimp only[δ,ε,ζ,η,θ,ι,κ,ρ,ς,υ,φ];refine av λm1 B0 i0 C0=>?_;refine av λm2 D0 j0 k0=>?_;have l0:Ext m m2:=⟨by omega,by grind⟩
 have g1:m2.get m.n=.cells [v,vm] 33 none:=by rw[k0 _ (by omega)];exact i0
 have g2:m2.get m1.n=.cells Un.zc 60 none:=j0;have hF:=h.aF l0;obtain⟨-,n0, -, -⟩:=kD g1;unfold ptrTo;simp only[bZ,bO,ae];refine Lp.intro (γ:=Nat) (λi=>l.length-i) (λi vs mm lo=>∃z,vs=[z,aeP i]/\i<=l.length/\m2=mm/\m.n<=lo/\(bP (l.take i)).find? (λy=>decide (y.id=id))=none) 0 ⟨_,rfl,abh _,rfl,by omega,rfl⟩ ?_;rintro i vs mm lo ⟨z,rfl,hi,rfl,o0,b0⟩;rw[aB,aB,n0,ae,hF.sl.len dF,aA,aM,ae,aj];refine ak (λe0=>?_) (λE0=>?_)
 ·have e0:i < l.length:=by grind
  obtain⟨x,hx⟩:∃x,l[i]?=some x:=⟨_,aa5 e0⟩
  have⟨q,q0,f1,f2,f3⟩:=sy hF.sl hx;have⟨q',q1,q2,ow⟩:=hF.sl.gj (k:=.i64) hx;obtain rfl:q=q':=Option.some.inj (f1.symm.trans q1);have p0:=abb hx;rw[ae,f1,ae,f2,ae,f3,ae,aS,ae,aj];have r0:bP (l.take (i+1))=bP (l.take i)++ [x.u]:=by unfold bP;rw[abt,hx,abM];rfl
  refine ak (λc=>?_) (λc=>?_)
  ·rw[ae,f1,ae,q2,ae];refine aC du g2 rfl rfl (Un.cR ow) λg0 y0 H h0=>?_;have H:g0.get m1.n=.cells (x.u.c x.w) 60 none:=H;rw[bT H,ae]
   have d0:cj (bP l) id=some x.u:=by
    have e:bP l=bP (l.take (i+1))++bP (l.drop (i+1)):=by unfold bP;rw[<-abM,ab5]
    unfold cj
    grind
   refine EB (m':=g0) (by grind) ?_ (by omega) ⟨by omega,by grind⟩;unfold eZ;rw[d0];exact⟨x.w,rfl,(hF.sh x p0).aY λc cs t g hc ht=>by rw[h0 c (λe=>by subst e;rw[g2]at hc;cases hc;simp[aZ.ty,aZ.eB]at ht),hc]⟩
  rw[aQ,ae,wrap64 (by grind) (by omega)];refine⟨i+1,by omega,z,rfl,by omega,rfl,o0,?_⟩;rw[r0,List.find?_append,b0];simp[c]
 have s0:i=l.length:=by
  grind
 subst s0;rw[abR]at b0;have u0:aJ TE 60 []=some (.agg Un.zc.toArray):=ni;rw[u0,ae];refine aC du g2 rfl rfl rfl λv0 z0 a0 A0=>?_;have a0:v0.get m1.n=.cells (Un.c ⟨0,0,0,[],0,0⟩ aeQ) 60 none:=a0;rw[bT a0,ae];refine .inl ⟨rfl,by omega,by grind,.refl,?_⟩;unfold eZ cj;rw[b0];rfl
theorem AO{l:List KW}{st:aeM}(h:Sl m l st){i:Nat}{x:KW}(hx:l[i]?=some x):∃b o,an TE 34 st (aeP i)=some (aeK b o)/\ah TE m 3 (aeK b (o+0+0))=some (aeP x.u.id)/\ah TE m 113 (aeK b o)=some x.v/\one x.w/\one x.mv:=by
 have⟨b,o,bc,g,cs,e1,hb,hr,hle,hj⟩:=h.gM gZ (k:=.i64) hx;obtain⟨rfl,h1,h2⟩:cs=x.c/\one x.w/\one x.mv:=hr;have hle:o+7<=bc.length:=hle;refine⟨b,o,e1,?_,?_,h1,h2⟩
 ·rw[bI,aI hb];exact hj 0 (by show 0 < 7;decide)
 have⟨p,H,e2,e3,e4⟩:=h.index gZ (k:=.i64) hx;obtain rfl:p=aeK b o:=Option.some.inj (e2.symm.trans e1);obtain⟨rfl,_⟩:H=x.c/\_:=e4;exact e3
theorem vO(hX:cC X){y:Yd}{r r2 st rc mo:aeM}{H:List KW}(hk:Sl m H st)(hl:H.length < 1000000)(h1:(yc r r2 st rc mo).all one)(id:Int):
  C X (.func 180) [yv r r2 st rc mo,aeP id] m m.n (aeP (idx (λx:KW=>decide (x.u.id=id)) H)) m:=by
 refine Cl.cd (hX.no _ rfl) (aa3 func180) rfl rfl ?_;rw[Z0];dsimp only[δ,ε,ζ,η,κ,ρ,υ,φ];refine av λm1 i0 g0 h0=>?_;have g1:m1.get m.n=.cells (yc r r2 st rc mo) 38 none:=g0;have a0:=hk.aF (m':=m1) ⟨by omega,h0⟩;obtain⟨-,l1, -, -, -⟩:=fF g1;unfold ptrTo;simp only[eW,cq,bs,ae];refine Lp.intro (γ:=Nat) (λi=>H.length-i) (λi vs mm lo=>∃z,vs=[z,aeP i]/\i<=H.length/\m1=mm/\m.n<=lo/\∀j x,j < i->H[j]?=some x->x.u.id≠id) 0 ⟨_,rfl,abh _,rfl,by omega,λj x hj=>by omega⟩ ?_;rintro i vs mm lo ⟨z,rfl,hi,rfl,b0,d0⟩;rw[aB,aB,l1,ae,a0.len gZ,aA,aM,ae,aj];refine ak (λe0=>?_) (λj0=>?_)
 ·have e0:i < H.length:=by grind
  obtain⟨x,hx⟩:∃x,H[i]?=some x:=⟨_,aa5 e0⟩
  obtain⟨b,o,e1,e2, -⟩:=AO a0 hx;rw[ae,e1,ae,cq,ae,bs,ae,e2,ae,aS,ae,aj];refine ak (λc=>⟨?_,b0⟩) (λc=>?_);·rw[Cz (i:=i) hx (by exact c) λj y hj hy=>by grind];rfl
  rw[aQ,ae,wrap64 (by omega) (by omega)];refine⟨i+1,by omega,z,rfl,by omega,rfl,b0,λj y hj hy=>?_⟩;by_cases e:j=i
  ·subst e;rw[hx]at hy;cases hy;exact aa6 c
  exact d0 j y (by omega) hy
 have k0:i=H.length:=by
  grind
 refine⟨?_,b0⟩;rw[tI λy hy=>?_];rfl;have⟨j,hj⟩:=abx hy;simpa using d0 j y (by grind) hj
theorem wC(hX:cC X)(a b:Fc):C X (.func 73) [a.v,b.v] m m.n (.bool (decide (ik a b))) m:=by
 refine Cl.cd (hX.no _ rfl) (aa3 func73) rfl rfl ?_;rw[F73];dsimp only[δ,ε,η,ρ,υ];refine av λm1 j0 H k0=>?_;refine av λm2 l0 a0 b0=>?_;have g1:m2.get m.n=.cells a.c 53 none:=by rw[b0 _ (by omega)];exact H
 have g2:m2.get m1.n=.cells b.c 53 none:=a0;have d0:ah TE m2 3 (aeK m.n (0+0))=some (aeP a.un):=by rw[bI,aI g1];rfl
 have e0:ah TE m2 3 (aeK m.n (0+1))=some (aeP a.side):=by rw[bI,aI g1];rfl
 have g0:ah TE m2 3 (aeK m1.n (0+0))=some (aeP b.un):=by rw[bI,aI g2];rfl
 have h0:ah TE m2 3 (aeK m1.n (0+1))=some (aeP b.side):=by rw[bI,aI g2];rfl
 unfold ptrTo;refine aW (λvs mm lo=>vs=[.bool (decide (ik a b))]/\m.n<=lo) (λR hR=>?_) ?_
 ·simp only[cW,dm,ae,d0,e0,g0,h0,aM,aS,aj];refine ak (λc=>hR _ _ _ ⟨by rw[abl (show ik a b from .inl (aba c))],by omega⟩) (λc1=>?_);have c1:=aa6 c1;refine ak (λc=>hR _ _ _ ⟨?_,by omega⟩) (λc=>hR _ _ _ ⟨?_,by omega⟩)
  ·have c:=aba c
   congr 2
   rw[decide_eq_decide]
   unfold ik
   omega
  have c:=aa6 c;rw[abk];unfold ik;omega
 rintro _ _ lo ⟨rfl,i0⟩;rw[aB];exact⟨rfl,i0⟩
theorem tQ{l:List Fc}{v:aeM}(h:Sl m l v){i:Nat}{x:Fc}(H:l[i]?=some x):∃p,an TE 35 v (aeP i)=some p/\ah TE m 53 p=some x.v:=by have⟨p,cs,e1,e2,e3⟩:=h.index gH (k:=.i64) H;obtain rfl:cs=x.c:=e3;exact⟨p,e1,e2⟩
theorem PE{a b:Fc}:az TE .eql 53 a.v b.v=some (.bool (decide (a=b))):=by
 have h:az TE .eql 53 a.v b.v=some (.bool ((a.un==b.un) && ((a.side==b.side) && true))):=by kernel_rfl
 rw[h]
 have⟨H,a2⟩:=a
 have⟨b1,b2⟩:=b
 congr 2
 grind
theorem qV(hX:cC X){l:List Fc}{r r2 st rc mo:aeM}(hr:Sl m l rc)(hl:l.length < 1000000)(f:Fc):
  C X (.func 72) [yv r r2 st rc mo,f.v] m m.n (.bool (decide (f∈l))) m:=by
 refine Cl.cd (hX.no _ rfl) (aa3 func72) rfl rfl ?_;rw[F72];dsimp only[δ,ε,ζ,η,κ,ρ,υ,φ];refine av λm1 j0 e0 k0=>?_;refine av λm2 l0 g0 h0=>?_;have g1:m2.get m.n=.cells (yc r r2 st rc mo) 38 none:=by rw[h0 _ (by omega)];exact e0
 have g2:m2.get m1.n=.cells f.c 53 none:=g0;have b0:=hr.aF (m':=m2) ⟨by omega,by grind⟩;obtain⟨-, -,l2, -, -⟩:=fF g1;have lf:ah TE m2 53 (aeK m1.n 0)=some f.v:=by rw[xJ,aN (n:=2) g2 (by grind)];rfl
 unfold ptrTo;simp only[eh,ae];refine Lp.intro (γ:=Nat) (λi=>l.length-i) (λi vs mm lo=>∃z,vs=[z,aeP i]/\i<=l.length/\m2=mm/\m.n<=lo/\f∉l.take i) 0 ⟨_,rfl,abh _,rfl,by omega,by simp⟩ ?_;rintro i vs mm lo ⟨z,rfl,hi,rfl,H,a0⟩;rw[aB,aB,l2,ae,b0.len gH,aA,aM,ae,aj];refine ak (λd0=>?_) (λn0=>?_)
 ·have d0:i < l.length:=by grind
  obtain⟨x,hx⟩:∃x,l[i]?=some x:=⟨_,aa5 d0⟩
  have⟨p,e1,e2⟩:=tQ b0 hx;rw[ae,e1,ae,e2,ae,lf,ae,PE,ae,aj];refine ak (λc=>⟨?_,H⟩) (λc=>?_)
  ·have c:=aba c;subst c;rw[abl (abb hx)];rfl
  rw[aQ,ae,wrap64 (by omega) (by omega)];refine⟨i+1,by omega,z,rfl,by omega,rfl,H,?_⟩;rw[abt,hx];simp only[ab9,abC,abE,not_or];exact⟨a0,λe=>aa6 c e.symm⟩
 have i0:i=l.length:=by
  grind
 subst i0;rw[abR]at a0;exact⟨by rw[abk a0];rfl,H⟩
theorem Bc(hX:cC X){l:List UW}{v vm:aeM}(h:dg m l v)(hl:l.length < 1000000)(h1:one vm)(id side:Int):
  C X (.func 182) [.agg #[v,vm],aeP id,aeP side] m m.n (.bool (ze (bP l) id side)) m:=by
 refine Cl.cd (hX.no _ rfl) (aa3 func182) rfl rfl ?_;rw[ZY];dsimp only[δ,ε,η,ι,κ,ξ,ρ,ς,υ,φ,χ,ψ];refine av λm1 i0 a0 b0=>?_;have g1:m1.get m.n=.cells [v,vm] 33 none:=a0;have d0:Ext m m1:=⟨by omega,b0⟩
 unfold ptrTo;rw[(kD g1).2.2.2,ae];have⟨rv,m4,c4,x4,fr⟩:=jm (m:=m1) hX (h.aF d0) hl h1 id;refine aE c4 ?_;have n4:=x4.n
 obtain⟨u,w,ok,rfl,hs,hB⟩:∃(u:Un) (w:aeM) (ok:Bool),rv=.tuple #[u.v w,.bool ok]/\Sl m4 u.shape w/\ze (bP l) id side=(ok && (decide (side= -1) ||decide (side= -2) ||decide (0<=side) && decide (side < (u.shape.length:Int)))):=by
  unfold eZ at fr
  unfold ze
  cases e:cj (bP l) id with
  |none=>rw[e]at fr;exact⟨.z,aeQ,false,fr,.nil,rfl⟩
  |some u=>rw[e]at fr;have⟨w,h1,h2⟩:=fr;exact⟨u,w,true,h1,h2,by simp⟩
 rw[aH,aH];simp only[aa8,aa7,ae];refine av λm8 j0 e0 k0=>?_;refine aC du e0 rfl rfl (Un.cR hs.one) λm9 l0 H n0=>?_;have H:m9.get m4.n=.cells (u.c w) 60 none:=H;have g0:=hs.aF (m':=m9) ⟨by omega,by grind⟩;obtain⟨-, -, -,l3, -, -⟩:=kU H;refine aW (λvs mm lo=>vs=[.bool (ze (bP l) id side)]/\m.n<=lo) (λR hR=>?_) ?_
 ·rw[aj];refine ak (λc=>?_) (λc=>hR _ _ _ ⟨by grind,by omega⟩);rw[aS,ae,aj];refine ak (λc1=>hR _ _ _ ⟨by grind,by omega⟩) (λc1=>?_);rw[aS,ae,aj];refine ak (λc2=>hR _ _ _ ⟨by grind,by omega⟩) (λc2=>?_);rw[cB,ae,aj];refine ak (λc3=>?_) (λc3=>hR _ _ _ ⟨by grind,by omega⟩);rw[bH,ae,l3,ae,g0.len cx,aA,aM,ae];exact hR _ _ _ ⟨by grind,by omega⟩
 rintro _ _ lo ⟨rfl,h0⟩;rw[aB];exact⟨rfl,h0⟩
structure Sf where
 de:Int
 gr:Int
 st:Int
 po:Int
 sa:Int
abbrev Sf.c(x:Sf):aeN:=[.int .i64 x.de,.int .i64 x.gr,.int .i64 x.st,.int .i64 x.po,.int .i64 x.sa]
abbrev Sf.v(x:Sf):aeM:=.agg (x.c).toArray
instance:aZ Sf where
 ty:=298
 sz:=5
 agg:=true
 eB:=[]
 rep _ x cs:=cs=x.c
 pos:=by decide
 one:=by grind
 len:=by simp_all
 fB:=by rintro _ _ _ rfl;rfl
 aY:=by grind
theorem TA:oP TE 344 298 Sf:=⟨ag.t344,ag.t298,by kernel_rfl,⟨_,rfl⟩,rfl,by kernel_rfl,rfl,rfl⟩
def rD:List Sf:=[⟨9,3,9,1,0⟩,⟨8,3,6,4,1⟩,⟨7,3,5,5,1⟩,⟨6,3,4,6,3⟩,⟨3,2,5,3,0⟩,⟨5,2,2,7,1⟩,⟨8,3,8,1,4⟩,⟨10,1,9,0,0⟩]
def jQ(a:Int):Option Sf:=if 0<=a/\a<=7 then rD[a.toNat]? else none
def dq(a b:Int):Bool:=match jQ a,jQ b with
 |some x,some y=>decide (x.st<=y.st+1) && decide (y.po<=x.po+1) && decide (x.sa<=y.sa+1)
 |_,_=>false
def cT(a b:Int):Bool:=match jQ a,jQ b with
 |some x,some y=>decide (x.st<=y.st) && decide (y.po<=x.po) && decide (x.sa<=y.sa+1)
 |_,_=>false
def mL(a:Int):aeM:=match jQ a with
 |some x=> .tuple #[x.v,.int .i64 0]
 |none=> .tuple #[Sf.v ⟨0,0,0,0,0⟩,.int .i64 80]
theorem JA:∃m',aG TE m 344 8 [(0,Sf.v ⟨9,3,9,1,0⟩),(1,Sf.v ⟨8,3,6,4,1⟩),(2,Sf.v ⟨7,3,5,5,1⟩),(3,Sf.v ⟨6,3,4,6,3⟩),(4,Sf.v ⟨3,2,5,3,0⟩),(5,Sf.v ⟨5,2,2,7,1⟩),(6,Sf.v ⟨8,3,8,1,4⟩),(7,Sf.v ⟨10,1,9,0,0⟩)]=some (aeL m.n 0 8 8,m')/\m'=m.push (.cells (rD.flatMap Sf.c) 298 none):=⟨_,by kernel_rfl,rfl⟩
theorem Na{b:Nat}{g:Option Nat}(h:m.get b=.cells (rD.flatMap Sf.c) 298 g):Sl m rD (aeL b 0 8 8):=
 .inr ⟨b,0,8,_,g,rfl,h,by decide,λi x hi=>by
  have:i < 8:=(aa9.1 hi).1
  match i,hi with
  |0,hi=>cases hi;rfl
  |1,hi=>cases hi;rfl
  |2,hi=>cases hi;rfl
  |3,hi=>cases hi;rfl
  |4,hi=>cases hi;rfl
  |5,hi=>cases hi;rfl
  |6,hi=>cases hi;rfl
  |7,hi=>cases hi;rfl
  |i+8,_=>omega⟩
theorem nv(hX:cC X)(a:Int):C X (.func 225) [aeP a] m m.n (mL a) m:=by
 refine Cl.cd (hX.no _ rfl) (aa3 func225) rfl (by unfold mL;split <;>rfl) ?_;rw[ZD];dsimp only[δ,ζ,η,θ,ι,ν,ς,υ,φ];refine av λm1 o0 h0 p0=>?_;rw[show aJ TE 298 [(0,aeP 9),(1,aeP 3),(2,aeP 9),(3,aeP 1)]=some (Sf.v ⟨9,3,9,1,0⟩) by kernel_rfl,ae];rw[show aJ TE 298 [(0,aeP 8),(1,aeP 3),(2,aeP 6),(3,aeP 4),(4,aeP 1)]=some (Sf.v ⟨8,3,6,4,1⟩) by kernel_rfl,ae];rw[show aJ TE 298 [(0,aeP 7),(1,aeP 3),(2,aeP 5),(3,aeP 5),(4,aeP 1)]=some (Sf.v ⟨7,3,5,5,1⟩) by kernel_rfl,ae];rw[show aJ TE 298 [(0,aeP 6),(1,aeP 3),(2,aeP 4),(3,aeP 6),(4,aeP 3)]=some (Sf.v ⟨6,3,4,6,3⟩) by kernel_rfl,ae];rw[show aJ TE 298 [(0,aeP 3),(1,aeP 2),(2,aeP 5),(3,aeP 3)]=some (Sf.v ⟨3,2,5,3,0⟩) by kernel_rfl,ae];rw[show aJ TE 298 [(0,aeP 5),(1,aeP 2),(2,aeP 2),(3,aeP 7),(4,aeP 1)]=some (Sf.v ⟨5,2,2,7,1⟩) by kernel_rfl,ae]
 rw[show aJ TE 298 [(0,aeP 8),(1,aeP 3),(2,aeP 8),(3,aeP 1),(4,aeP 4)]=some (Sf.v ⟨8,3,8,1,4⟩) by kernel_rfl,ae];rw[show aJ TE 298 [(0,aeP 10),(1,aeP 1),(2,aeP 9)]=some (Sf.v ⟨10,1,9,0,0⟩) by kernel_rfl,ae];have⟨m11,a0,H⟩:=JA (m:=m1);rw[a0,aA];have b0:m11.get m1.n=.cells (rD.flatMap Sf.c) 298 none:=by rw[H];exact M.aU
 have i0:m11.n=m1.n+1:=by rw[H];exact M.mr
 have gz:m11.get m.n=.cells (Sf.c ⟨0,0,0,0,0⟩) 298 none:=by rw[H,M.cD (by omega)];exact h0
 have hs:=Na b0;have d0:∀{mm:M} {x:Sf},mm.get m.n=.cells x.c 298 none->ah TE mm 298 (aeK m.n 0)=some x.v:=λh=>by rw[Oe,aN (n:=5) h (by grind)];rfl
 clear H a0;unfold ptrTo;refine aW (λvs mm lo=>vs=[.bool (!decide (0<=a/\a<=7))]/\m11=mm/\m.n<=lo) (λR hR=>?_) ?_
 ·rw[aM,ae,aj]
  refine ak (λc=>hR _ _ _ ⟨?_,rfl,by omega⟩) (λc=>?_)
  ·have c:=aba c;rw[abk (by omega)];rfl
  have c:=aa6 c
  rw[bV,ae]
  refine hR _ _ _ ⟨?_,rfl,by omega⟩
  congr 2
  rw[<-decide_not,decide_eq_decide]
  omega
 rintro _ _ lo ⟨rfl,rfl,q0⟩;rw[aB,aj];refine ak (λc=>?_) (λc=>?_)
 ·rw[abz]at c;rw[show aJ TE 298 []=some (Sf.v ⟨0,0,0,0,0⟩) by kernel_rfl,ae];refine aC uA gz rfl rfl rfl λm21 j0 e0 k0=>?_;rw[d0 (x:=⟨0,0,0,0,0⟩) e0,ae];refine⟨?_,by omega⟩;unfold mL jQ;rw[abd (aa6 c)];rfl
 rw[abu]at c;have c:=aba c;obtain⟨x,hx⟩:∃x,rD[a.toNat]?=some x:=⟨_,aa5 (show a.toNat < 8 by omega)⟩
 have⟨p,cs,e1,e2,e3⟩:=hs.index TA (k:=.i64) hx;obtain rfl:cs=x.c:=e3;rw[show((a.toNat:Nat):Int)=a by omega]at e1;have e2:ah TE m11 298 p=some x.v:=e2;rw[e1,ae,e2,ae];refine aC uA gz rfl rfl rfl λr0 l0 g0 n0=>?_;rw[d0 (x:=x) g0,ae];refine⟨?_,by omega⟩;unfold mL jQ;rw[abe c,hx];rfl
theorem lT(a:Int):∃(x:Sf) (e:Int),mL a=.tuple #[x.v,aeP e]/\(decide (e=0)->jQ a=some x)/\(decide (e=0)=false->jQ a=none):=by
 unfold mL
 cases jQ a with
 |none=>exact⟨_,_,rfl,by grind,λ_=>rfl⟩
 |some x=>exact⟨x,0,rfl,λ_=>rfl,by grind⟩
theorem sF{a:Int}{x:Sf}(h:jQ a=some x):(0<=x.st/\x.st<=10)/\(0<=x.po/\x.po<=10)/\(0<=x.sa/\x.sa<=10):=by
 unfold jQ at h;split at h
 ·have hm:=abb h;simp only[rD,abp,ab0,or_false]at hm;rcases hm with rfl |rfl |rfl |rfl |rfl |rfl |rfl |rfl <;>decide
 cases h
theorem YL{b:Nat}{x:Sf}{g:Option Nat}(h:m.get b=.cells x.c 298 g):ah TE m 3 (aeK b (0+2))=some (aeP x.st)/\ah TE m 3 (aeK b (0+3))=some (aeP x.po)/\ah TE m 3 (aeK b (0+4))=some (aeP x.sa):=by refine⟨?_,?_,?_⟩ <;>(rw[bI,aI h];rfl)
theorem Fs(hX:cC X)(a b:Int):C X (.func 181) [aeP a,aeP b] m m.n (.bool (dq a b)) m:=by
 refine Cl.cd (hX.no _ rfl) (aa3 func181) rfl rfl ?_;rw[ZZ];dsimp only[δ,ε,η,ι,ξ,ς,υ,φ,χ,Γ];have⟨x,e,h1,H,h0⟩:=lT a;have⟨y,f,h2,a0,i0⟩:=lT b;refine aE (nv hX a) ?_;rw[h1,aH,aH];simp only[aa8,aa7,ae];refine av λm6 p0 j0 q0=>?_;refine aC uA j0 rfl rfl rfl λm7 r0 k0 s0=>?_;refine aE (nv hX b) ?_;rw[h2,aH,aH];simp only[aa8,aa7,ae];refine av λm14 n0 b0 d0=>?_;refine aC uA b0 rfl rfl rfl λm15 o0 e0 g0=>?_;have g1:m15.get m.n=.cells x.c 298 none:=by rw[g0 _ (by omega),d0 _ (by omega)];exact k0
 have g2:m15.get m7.n=.cells y.c 298 none:=e0;have⟨x0,x1,x2⟩:=YL g1;have⟨y0,y1,y2⟩:=YL g2;unfold ptrTo;refine aW (λvs mm lo=>vs=[.bool (dq a b)]/\m.n<=lo) (λR hR=>?_) ?_
 ·simp only[oC,oB,oA,ae,x0,x1,x2,y0,y1,y2,aS,cp,cB,aQ,aj];refine ak (λc1=>?_) (λc1=>hR _ _ _ ⟨by unfold dq;rw[h0 c1],by omega⟩);refine ak (λc2=>?_) (λc2=>hR _ _ _ ⟨by unfold dq;rw[H c1,i0 c2],by omega⟩);have⟨s1,s2,s3⟩:=sF (H c1);have⟨t1,t2,t3⟩:=sF (a0 c2);have hS:dq a b=(decide (x.st<=y.st+1) && decide (y.po<=x.po+1) && decide (x.sa<=y.sa+1)):=by unfold dq;rw[H c1,a0 c2]
  rw[wrap64 (x:=y.st+1) (by omega) (by omega),wrap64 (x:=x.po+1) (by omega) (by omega),wrap64 (x:=y.sa+1) (by omega) (by omega)];refine ak (λc3=>?_) (λc3=>hR _ _ _ ⟨by grind,by omega⟩);refine ak (λc4=>?_) (λc4=>hR _ _ _ ⟨by grind,by omega⟩);exact hR _ _ _ ⟨by grind,by omega⟩
 rintro _ _ lo ⟨rfl,l0⟩;rw[aB];exact⟨rfl,l0⟩
theorem vR(hX:cC X)(a b:Int):C X (.func 183) [aeP a,aeP b] m m.n (.bool (cT a b)) m:=by
 refine Cl.cd (hX.no _ rfl) (aa3 func183) rfl rfl ?_;rw[ZX];dsimp only[δ,ε,η,ι,ξ,ς,υ,φ,χ,Γ];have⟨x,e,h1,H,h0⟩:=lT a;have⟨y,f,h2,a0,i0⟩:=lT b;refine aE (nv hX a) ?_;rw[h1,aH,aH];simp only[aa8,aa7,ae];refine av λm6 p0 j0 q0=>?_;refine aC uA j0 rfl rfl rfl λm7 r0 k0 s0=>?_;refine aE (nv hX b) ?_;rw[h2,aH,aH];simp only[aa8,aa7,ae];refine av λm14 n0 b0 d0=>?_;refine aC uA b0 rfl rfl rfl λm15 o0 e0 g0=>?_;have g1:m15.get m.n=.cells x.c 298 none:=by rw[g0 _ (by omega),d0 _ (by omega)];exact k0
 have g2:m15.get m7.n=.cells y.c 298 none:=e0;have⟨x0,x1,x2⟩:=YL g1;have⟨y0,y1,y2⟩:=YL g2;unfold ptrTo;refine aW (λvs mm lo=>vs=[.bool (cT a b)]/\m.n<=lo) (λR hR=>?_) ?_
 ·simp only[oC,oB,oA,ae,x0,x1,x2,y0,y1,y2,aS,cp,cB,aQ,aj];refine ak (λc1=>?_) (λc1=>hR _ _ _ ⟨by unfold cT;rw[h0 c1],by omega⟩);refine ak (λc2=>?_) (λc2=>hR _ _ _ ⟨by unfold cT;rw[H c1,i0 c2],by omega⟩);have⟨s1,s2,s3⟩:=sF (H c1);have⟨t1,t2,t3⟩:=sF (a0 c2);have hS:cT a b=(decide (x.st<=y.st) && decide (y.po<=x.po) && decide (x.sa<=y.sa+1)):=by unfold cT;rw[H c1,a0 c2]
  rw[wrap64 (x:=y.sa+1) (by omega) (by omega)];refine ak (λc3=>?_) (λc3=>hR _ _ _ ⟨by grind,by omega⟩);refine ak (λc4=>?_) (λc4=>hR _ _ _ ⟨by grind,by omega⟩);exact hR _ _ _ ⟨by grind,by omega⟩
 rintro _ _ lo ⟨rfl,l0⟩;rw[aB];exact⟨rfl,l0⟩
section
variable {α:Type} [aZ α] {T:TypeId}
theorem Ap.xO(hT:ur TE T α)(a0:aZ.eB α=[]){n1:Nat}{l ys:List α}{v y:aeM}(h:Ap n1 m l v)(hy:Sl m ys y)(hn:n1<=m.n)(hs:l.length+ys.length<=1000000):
  ∃v' m1,aw TE (m.wl m.n) .append [T,T] [v,y]=some (v',m1)/\Ap n1 m1 (l++ys) v'/\m.n<=m1.n/\n1<=m1.low/\∀c,c < n1->m1.get c=m.get c:=by
 by_cases H:ys=[]
 ·subst H;rcases h with h |⟨b,cs,te,rfl,h2,h3⟩
  ·obtain⟨v',m1,e1,ho,hf,hl,_⟩:=h.append hT (by grind) hy hn (by omega);exact⟨v',m1,e1,.inl ho,hf.n,hl,λc hc=>hf.get c hc⟩
  refine⟨_,m.wl m.n,append_nil hT (aa4 _) (by grind) ?_,?_,aa4 _,hn,λ_ _=>rfl⟩
  ·rcases hy with⟨rfl,_⟩ |⟨b',o,c,bc,g,rfl,_⟩
   ·grind
   ·grind
  rw[abJ];exact .inr ⟨b,cs,te,rfl,h2,h3.aF Ext.refl.wl⟩
 have⟨v',m1,e1,ho,h1,h2,h3⟩:=h.append hT a0 hy H hn hs;exact⟨v',m1,e1,.inl ho,h1,h2,h3⟩
theorem Ap.Xc{n1 b:Nat}{g:Option Nat}(h:m.get b=.cells [] (aZ.ty α) none):Ap n1 m ([]:List α) (aeL b 0 0 0):=
 .inr ⟨b,[],_,rfl,h,.inr ⟨b,0,0,[],none,rfl,h,by simp,by grind⟩⟩
end
theorem Ip{b:Nat}{x:UW}(h:m.get b=.cells x.c 60 none)(h1:one x.w)(H:Sl m x.u.shape x.w)(hl:x.u.shape.length < 1000000):dg m [x] (aeL b 0 1 1):=
 ⟨iD h ⟨rfl,h1⟩,by grind,by grind,.inr ⟨b,0,1,_,none,rfl,aa4 _,h,.inl rfl⟩⟩
section
variable {b:Nat} {x:KW} {g:Option Nat}
theorem LF(h:m.get b=.cells x.c 113 g):ah TE m 3 (aeK b (0+0+0))=some (aeP x.u.id)/\ah TE m 60 (aeK b (0+0))=some (x.u.v x.w)/\ah TE m 31 (aeK b (0+6))=some x.mv/\ah TE m 113 (aeK b 0)=some x.v:=by
 refine⟨?_,?_,?_,?_⟩;·rw[bI,aI h];rfl
 ·rw[qB,aN (n:=6) h (by simp_all)];rfl
 ·rw[nN,aI h];rfl
 rw[Eg,aN (n:=7) h (by simp_all)];rfl
end
theorem NY{l:List Mk}{v:aeM}(h:Sl m l v){i:Nat}{x:Mk}(H:l[i]?=some x):∃b o,an TE 31 v (aeP i)=some (aeK b o)/\ah TE m 3 (aeK b (o+0))=some (aeP x.id):=by have⟨b,o,bc,g,cs,e1,hb,hr,hle,hj⟩:=h.gM dU (k:=.i64) H;obtain rfl:cs=x.c:=hr;refine⟨b,o,e1,?_⟩;rw[bI,aI hb];exact hj 0 (by show 0 < 5;decide)
theorem tP{b:Nat}{x:Fc}{g:Option Nat}(h:m.get b=.cells x.c 53 g):ah TE m 3 (aeK b (0+0))=some (aeP x.un)/\ah TE m 3 (aeK b (0+1))=some (aeP x.side)/\ah TE m 53 (aeK b 0)=some x.v:=by
 refine⟨?_,?_,?_⟩;·rw[bI,aI h];rfl
 ·rw[bI,aI h];rfl
 rw[xJ,aN (n:=2) h (by grind)];rfl
theorem NX{b:Nat}{x:Mo}{g:Option Nat}(h:m.get b=.cells x.c 109 g):ah TE m 3 (aeK b (0+0))=some (aeP x.a)/\ah TE m 3 (aeK b (0+1))=some (aeP x.b)/\ah TE m 3 (aeK b (0+2))=some (aeP x.dA)/\ah TE m 109 (aeK b 0)=some x.v:=by
 refine⟨?_,?_,?_,?_⟩;·rw[bI,aI h];rfl
 ·rw[bI,aI h];rfl
 ·rw[bI,aI h];rfl
 rw[Eh,aN (n:=3) h (by grind)];rfl
theorem HN{l:List Mo}{v:aeM}(h:Sl m l v){i:Nat}{x:Mo}(hx:l[i]?=some x):∃b o,an TE 36 v (aeP i)=some (aeK b o)/\ah TE m 109 (aeK b o)=some x.v/\
  ah TE m 3 (aeK b (o+0))=some (aeP x.a)/\ah TE m 3 (aeK b (o+1))=some (aeP x.b):=by
 have⟨b,o,bc,g,cs,e1,hb,hr,hle,hj⟩:=h.gM ny (k:=.i64) hx;obtain rfl:cs=x.c:=hr;refine⟨b,o,e1,?_,?_,?_⟩
 ·have⟨p,H,e2,e3,e4⟩:=h.index ny (k:=.i64) hx;obtain rfl:p=aeK b o:=Option.some.inj (e2.symm.trans e1);obtain rfl:H=x.c:=e4;exact e3
 ·rw[bI,aI hb];exact hj 0 (by show 0 < 3;decide)
 rw[bI,aI hb];exact hj 1 (by show 1 < 3;decide)
set_option maxHeartbeats 1000000 in
theorem Fl(hX:cC X){y:Yd}{r r2 st rc mo:aeM}(hV:oO m y r r2 st rc mo)(hP:rz y):C X (.func 131) [yv r r2 st rc mo] m m.n aeR m:=by
 have F4:=hV.fB;have⟨⟨l,F1,hF⟩,h3,⟨kl,i3,hK⟩,j3,k3⟩:=hV;have g4:l.length<=12:=by have:=hP.tR.len;rwa[<-F1,cS]at this
 have h4:kl.length<=12:=by have:=hP.Tx;rwa[<-i3,tG]at this
 have l3:=hP.Lx;have j4:=hP.TJ;have k4:=hP.WQ;refine Cl.cd (hX.no _ rfl) (aa3 func131) rfl rfl ?_;rw[aaq];dsimp only[δ,ε,ζ,η,θ,ι,κ,ν,ξ,ο,ρ,ς,υ,φ,χ,Γ,ψ,ω];refine av λm1 G4 m3 n3=>?_;have g1:m1.get m.n=.cells (yc r r2 st rc mo) 38 none:=m3;have H0:Ext m m1:=⟨by omega,n3⟩
 have c2:=hF.aF H0;have I0:=h3.aF H0;have j1:=hK.aF H0;have A1:=j3.aF H0;have B1:=k3.aF H0;obtain⟨y0,y1,y2,y3, -⟩:=fF g1;unfold ptrTo;simp only[cX,eW,eh,iP,cN,ae];have l4:y.ms.length<=20:=hP.HO.len;refine aW (λvs mm lo=>vs=[aeS]/\m1=mm/\m.n<=lo) (λQ hQ=>?_) ?_
 ·rw[y0,ae];refine aE (kW hX c2 (by omega) I0 (by omega)) ?_;rw[F1,fH hP.tR,fY.2 hP.HO,bj,ae,aj];show iW false _ _;rw[aO,y1,ae,j1.sl.len gZ,aA,bV,ae,aj,abk (by omega),aO,y2,ae,A1.len gH,aA,bV,ae,aj,abk (by omega),aO,y3,ae,B1.len ny,aA,bV,ae,abk (by omega)];exact hQ _ _ _ ⟨rfl,rfl,by omega⟩
 rintro _ _ o3 ⟨rfl,rfl,m4⟩;rw[aB,aj,aO,iQ,aA];obtain⟨m5,J0⟩:∃x,x=m1.push (.cells [] 137 none):=⟨_,rfl⟩
 rw[<-J0];have H4:m5.n=m1.n+1:=by rw[J0];exact M.mr
 have r3:m5.get m1.n=.cells [] 137 none:=by rw[J0];exact M.aU
 have G1:Ext m1 m5:=J0 ▸ Ext.refl.push;clear J0;rw[(xR (G1.cells g1)).2.2,ae];obtain⟨v31,m32,q1,q2,q3,q4,q5⟩:=(Ap.Xc (n1:=m1.n) (g:=none) r3).xO zD rfl (I0.aF G1) (by omega) (by grind);rw[q1,aA];rw[ab6]at q2;have C1:m.n<=min o3 m32.low:=by omega
 have d2:Ext m1 m32:=⟨by omega,λc hc=>by rw[q5 c hc,G1.get c hc]⟩
 clear q1 q4 q5;refine Lp.intro (γ:=Nat) (λi=>kl.length-i) (λi vs mm lo=>∃z v,vs=[z,v,.int .i64 i]/\i<=kl.length/\Ext m1 mm/\m.n<=lo/\Ap m1.n mm (y.ms++(y.st.take i).flatMap Kp.ms) v) 0 ⟨_,_,rfl,abh _,d2,C1,by grind⟩ ?_;rintro i vs mm lo ⟨z,v,rfl,hi,l0,a0,H1⟩;have nm:=l0.n;obtain⟨z0,z1,z2,z3, -⟩:=fF (l0.cells g1);have g2:=j1.aF l0;rw[aB,aB,aB,z1,ae,g2.sl.len gZ,aA,aM,ae,aj];refine ak (λd0=>?_) (λI1=>?_)
 ·have d0:i < kl.length:=by grind
  obtain⟨x,hx⟩:∃x,kl[i]?=some x:=⟨_,aa5 d0⟩
  have F0:=abb hx;have K0:y.st[i]?=some x.k:=by grind
  have L0:=abb K0;have⟨b,o,e1,e2,e3,o1,o2⟩:=AO g2.sl hx;rw[ae,e1,ae,e3,ae];refine av λJ4 n4 i2 o4=>?_;refine aC MT i2 rfl rfl (KW.cR o1 o2) λl1 r4 l2 u4=>?_;have r1:l1.get mm.n=.cells x.c 113 none:=l2;have g0:Ext mm l1:=⟨by omega,by grind⟩
  have n52:=g0.n;obtain⟨w0,w1,w2,w3, -⟩:=fF ((l0.trans g0).cells g1);obtain⟨k0,k1,k2, -⟩:=LF r1;rw[w0,ae,cq,ae,bs,ae,k0,ae]
  have m2:cj (bP l) x.u.id=none:=by rw[F1];exact rV λu hu=>hP.off _ L0 u hu
  have v2:=c2.aF (l0.trans g0);obtain⟨rv,K4,v3,A2,f60⟩:=jm (m:=l1) hX v2 (by omega) (I0.one) x.u.id;refine aE v3 ?_;unfold eZ at f60;rw[m2]at f60;dsimp only at f60;subst f60;rw[aH,aH];simp only[aa8,aa7,ae];have n60:=A2.n;refine av λm64 v4 B2 C2=>?_;refine aC du B2 rfl rfl rfl λe0 w4 y4 D2=>?_;have h0:Ext l1 e0:=⟨by omega,λc hc=>by rw[D2 c (by omega),C2 c (by omega),A2.get c hc]⟩
  have n0:=l0.trans (g0.trans h0);obtain⟨k0,k1,k2, -⟩:=LF (h0.cells r1);have D1:=j1.aF n0
  have r0:∀{R:aeN->M->Nat->Prop} {H:Nat},(∀G0 H,Ext e0 G0->m.n<=H->R [aeS] G0 H)->m.n<=H->
    ai (ah TE e0 60 (.pointer (some ⟨mm.n,0+0,none⟩))) λA3=>(aP (aG TE e0 28 1 [(0,A3)]) λB3 N0=>(ai (aJ TE 30 [(0,B3)]) λC3=>(ai (af TE 113 (.pointer (some ⟨mm.n,0,none⟩)) 1) λE2=>(ai (ah TE N0 31 E2) λF2=>(ai (aJ TE 33 [(0,C3),(1,F2)]) λG2=>(bh TE X (.func 176) [G2] N0 λH2 I2 J2=>(ai (cZ .not H2) λK2=>(R [K2] I2 (min H J2))))))))):=by
   intro R H hR s0
   rw[k1,ae,show(x.u.v x.w)=UW.v ⟨x.u,x.w⟩from rfl,HD,aA]
   obtain⟨N0,O0⟩:∃q,q=e0.push (.cells (UW.c ⟨x.u,x.w⟩) 60 none):=⟨_,rfl⟩
   rw[<-O0]
   have v0:Ext e0 N0:=O0 ▸ Ext.refl.push
   have L2:N0.get e0.n=.cells (UW.c ⟨x.u,x.w⟩) 60 none:=by rw[O0];exact M.aU
   have i0:=D1.aF v0
   obtain⟨-, -,j2, -⟩:=LF ((h0.trans v0).cells r1)
   rw[zt rfl,ae,eG,ae,j2,ae]
   rw[show aJ TE 33 [(0,.agg (cells (Value.slice (some ⟨e0.n,0,none⟩) 1 1)).toArray),(1,x.mv)]=some (.agg #[.slice (some ⟨e0.n,0,none⟩) 1 1,x.mv]) by rw[nY rfl (by rw[(i0.mv x F0).cells];rfl),(i0.mv x F0).cells];rfl,ae]
   have M2:=Ip L2 o1 (i0.sh x F0) (i0.ln x F0)
   have N2:=hP.Gd _ L0
   have D3:x.ms.length<=20:=N2.len
   refine aE (kW hX M2 (by simp) (i0.mv x F0) (by omega)) ?_
   rw[show bP [(⟨x.u,x.w⟩:UW)]=[x.u]from rfl,fH (hP.Ox _ L0),fY.2 N2,bj,ae]
   exact hR _ _ v0 (by have:=v0.n;omega)
  refine aW (λvs G0 H=>vs=[aeS]/\Ext e0 G0/\m.n<=H) (λQ hQ=>?_) ?_
  ·rw[aj,aO,bV,ae,aj];simp only[cq,bs,ae];refine ak (λc=>?_) (λc=>r0 (λG0 H h1 h2=>hQ _ _ _ ⟨rfl,h1,h2⟩) (by omega));obtain⟨j,rfl⟩:∃j,i=j+1:=⟨i-1,by grind⟩
   obtain⟨x',p0⟩:∃x',kl[j]?=some x':=⟨_,aa5 (by omega)⟩
   obtain⟨b',o',q0,J1, -⟩:=AO D1.sl p0;obtain⟨u0,u1,u2,u3, -⟩:=fF (n0.cells g1)
   have z4:x'.u.id < x.u.id:=by
    have hj:y.st[j]?=some x'.k:=by grind
    have h1:=aa9.1 hj;have h2:=aa9.1 K0;have:=abF.1 hP.xN j (j+1) h1.1 h2.1 (by omega);rwa[h1.2,h2.2]at this
   rw[k0,ae,u1,ae,dD,ae,wrap64 (by omega) (by omega),show((j+1:Nat):Int)-1=(j:Int) by omega,q0,ae,cq,ae,bs,ae,J1,ae,cp,ae,aj,abk (by omega),aO];exact r0 (λG0 H h1 h2=>hQ _ _ _ ⟨rfl,h1,h2⟩) (by omega)
  rintro _ L4 A4 ⟨rfl,A0,E3⟩;have n69:=A0.n;rw[aB,aj,aO,eG,ae];obtain⟨-, -,j2, -⟩:=LF ((h0.trans A0).cells r1);rw[j2,ae];have Q0:=n0.trans A0;have O2:=j1.aF Q0
  have P2:(y.ms++(y.st.take i).flatMap Kp.ms).length+x.ms.length<=20:=by
   have e:allM y.ms y.st=(y.ms++(y.st.take i).flatMap Kp.ms)++(x.ms++(y.st.drop (i+1)).flatMap Kp.ms):=by
    unfold allM;conv=>lhs;rw[<-ab5 i y.st]
    rw[acG,ab1 (aa9.1 K0).1,acw,(aa9.1 K0).2];simp
   grind
  obtain⟨Q2,B4,p1,p2,p3,p4,p5⟩:=(H1.aF ((g0.trans h0).trans A0)).xO zD rfl (O2.mv x F0) (by omega) (by omega);rw[p1,aA,aQ,ae,wrap64 (by omega) (by omega)];refine⟨i+1,by omega,z,Q2,rfl,by omega,⟨by omega,λc hc=>by rw[p5 c hc,Q0.get c hc]⟩,by omega,?_⟩;rw[abt,K0,acG,<-abL];simpa using p2
 have F3:i=y.st.length:=by
  grind
 subst F3;rw[abR]at H1;have v1:=H1.sl;obtain⟨A,hA⟩:∃A,A=y.ms++y.st.flatMap Kp.ms:=⟨_,rfl⟩
 rw[<-hA]at v1;have P2:A.length<=20:=by rw[hA];exact l3
 have G3:∀{i j:Nat} {a b:Mk},j < i->A[i]?=some a->A[j]?=some b->a.id≠b.id:=by
  intro i j a b H3 ha hb e
  have h1:=aa9.1 ha
  have h2:=aa9.1 hb
  have hn:=hP.Qm
  unfold allM at hn
  rw[<-hA,List.Nodup,adm]at hn
  have:=abF.1 hn j i h2.1 h1.1 H3
  grind
 refine Lp.intro (γ:=Nat) (λi=>A.length-i) (λi vs m' lo=>∃z,vs=[z,.int .i64 i]/\i<=A.length/\mm=m'/\m.n<=lo) 0 ⟨_,rfl,abh _,rfl,a0⟩ ?_;rintro i _ _ lo ⟨z,rfl,hi,rfl,a0⟩;rw[aB,aB,v1.len dU,aA,aM,ae,aj];refine ak (λd0=>?_) (λI1=>?_)
 ·have d0:i < A.length:=by grind
  obtain⟨a,ha⟩:∃a,A[i]?=some a:=⟨_,aa5 d0⟩
  have⟨b0,o0,ea,la⟩:=NY v1 ha;refine Lp.intro (γ:=Nat) (λk=>i-k) (λk vs m' lo=>∃z,vs=[z,.int .i64 k]/\k<=i/\mm=m'/\m.n<=lo) 0 ⟨_,rfl,abh _,rfl,a0⟩ ?_;rintro k _ _ lo ⟨z,rfl,hk,rfl,a0⟩;rw[aB,aB,aM,ae,aj];refine ak (λE1=>?_) (λC4=>?_)
  ·have E1:k < i:=by grind
   obtain⟨c,hc⟩:∃c,A[k]?=some c:=⟨_,aa5 (by omega)⟩
   have⟨b1,o1,ec,lc⟩:=NY v1 hc;rw[ea,ae,bW,ae,la,ae,ec,ae,bW,ae,lc,ae,aS,ae,aj,abk (G3 E1 ha hc),aO,aQ,ae,wrap64 (by omega) (by omega)];exact⟨k+1,by omega,z,by grind,by omega,rfl,a0⟩
  rw[aQ,ae,wrap64 (by omega) (by omega)];exact⟨i+1,by omega,z,by grind,by omega,rfl,a0⟩
 rw[aA,bV,ae,aj,abk (by omega),aO];refine Lp.intro (γ:=Nat) (λi=>y.rc.length-i) (λi vs m' lo=>∃z,vs=[z,.int .i64 i]/\i<=y.rc.length/\Ext m1 m'/\m.n<=lo) 0 ⟨_,rfl,abh _,l0,a0⟩ ?_;rintro j _ T2 lo ⟨z,rfl,hj,j0,a0⟩;have K1:=A1.aF j0;obtain⟨-, -,u2, -, -⟩:=fF (j0.cells g1);have N4:=j0.n;rw[aB,aB,u2,ae,K1.len gH,aA,aM,ae,aj];refine ak (λd0=>?_) (λI1=>?_)
 ·have d0:j < y.rc.length:=by grind
  obtain⟨x,hx⟩:∃x,y.rc[j]?=some x:=⟨_,aa5 d0⟩
  have⟨p,e1,e2⟩:=tQ K1 hx;have⟨⟨b1,b2⟩,b3,b4⟩:=hP.Ns x (abb hx);rw[ae,e1,ae,e2,ae];refine av λD4 I3 L1 J3=>?_;refine aC sA L1 rfl rfl rfl λa1 K3 N1 L3=>?_;have a3:a1.get T2.n=.cells x.c 53 none:=N1;have c1:Ext T2 a1:=⟨by omega,by grind⟩
  have⟨f0,f1,fv⟩:=tP a3;have B0:=j0.trans c1;simp only[cW,dm,ae];refine aW (λvs m' H=>vs=[aeS]/\a1=m'/\m.n<=H) (λQ hQ=>?_) ?_
  ·rw[f0,ae];refine aE (iK hX _ _ _) ?_;rw[show cQ x.un 0 99=true by unfold cQ;simp;omega,bj,ae,aj];show iW false _ _;rw[aO,f1,ae];refine aE (iK hX _ _ _) ?_;rw[show cQ x.side (-2) 7=true by unfold cQ;simp;omega,bj,ae,aj];show iW false _ _;rw[aO,bV,ae,aj];refine ak (λc=>?_) (λc=>hQ _ _ _ ⟨rfl,rfl,by omega⟩);obtain⟨q,rfl⟩:∃q,j=q+1:=⟨j-1,by grind⟩
   obtain⟨x',p0⟩:∃x',y.rc[q]?=some x':=⟨_,aa5 (by omega)⟩
   have O1:=K1.aF c1;have⟨p',q0,J1⟩:=tQ O1 p0;obtain⟨-, -,N3, -, -⟩:=fF (B0.cells g1)
   have d1:ik x' x:=by have h1:=aa9.1 p0;have h2:=aa9.1 hx;have:=abF.1 hP.DH q (q+1) h1.1 h2.1 (by omega);rwa[h1.2,h2.2]at this
   rw[N3,ae,dD,ae,wrap64 (by omega) (by omega),show((q+1:Nat):Int)-1=(q:Int) by omega,q0,ae,J1,ae,fv,ae];refine aE (wC hX _ _) ?_;rw[abl d1,bj,ae];exact hQ _ _ _ ⟨rfl,rfl,by omega⟩
  rintro _ _ H ⟨rfl,rfl,s0⟩;rw[aB,aj,aO,aQ,ae,wrap64 (by omega) (by omega)];exact⟨j+1,by omega,z,by grind,by omega,B0,s0⟩
 refine Lp.intro (γ:=Nat) (λi=>y.mo.length-i) (λi vs m' lo=>∃z,vs=[z,.int .i64 i]/\i<=y.mo.length/\Ext m1 m'/\m.n<=lo) 0 ⟨_,rfl,abh _,j0,a0⟩ ?_;rintro j _ c3 lo ⟨z,rfl,hj,C0,a0⟩;have P1:=B1.aF C0;obtain⟨-, -, -,u3, -⟩:=fF (C0.cells g1);have O4:=C0.n;rw[aB,aB,u3,ae,P1.len ny,aA,aM,ae,aj];refine ak (λd0=>?_) (λI1=>⟨rfl,a0⟩);have d0:j < y.mo.length:=by grind
 obtain⟨x,hx⟩:∃x,y.mo[j]?=some x:=⟨_,aa5 d0⟩
 obtain⟨p,o,e1,e2, -, -⟩:=HN P1 hx;have⟨b1,b2,b3,b4,b5⟩:=hP.NW x (abb hx);rw[ae,e1,ae,e2,ae];refine av λE4 O3 T1 a4=>?_;refine aC BD T1 rfl rfl rfl λD0 c4 a2 d4=>?_;have d3:D0.get c3.n=.cells x.c 109 none:=a2;have i1:Ext c3 D0:=⟨by omega,by grind⟩
 obtain⟨f0,f1,f2, -⟩:=NX d3;have E0:=C0.trans i1;obtain⟨-, -, -,e4, -⟩:=fF (E0.cells g1);simp only[dQ,eH,oG,ae];refine aW (λvs m' H=>vs=[aeS]/\D0=m'/\m.n<=H) (λQ hQ=>?_) ?_
 ·rw[f0,ae];refine aE (iK hX _ _ _) ?_;rw[show cQ x.a 0 99=true by unfold cQ;simp;omega,bj,ae,aj];show iW false _ _;rw[aO,f1,ae];refine aE (iK hX _ _ _) ?_;rw[show cQ x.b 0 99=true by unfold cQ;simp;omega,bj,ae,aj];show iW false _ _;rw[aO,f0,ae,f1,ae,cB,ae,aj,abk (by omega),aO,f2,ae];refine aE (iK hX _ _ _) ?_;rw[show cQ x.dA 0 7=true by unfold cQ;simp;omega,bj,ae];exact hQ _ _ _ ⟨rfl,rfl,by omega⟩
 rintro _ _ R4 ⟨rfl,rfl,C1⟩;rw[aB,aj,aO];refine aW (λvs m' H=>vs=[aeS]/\D0=m'/\m.n<=H) (λQ hQ=>?_) ?_
 ·rw[bV,ae,aj];refine ak (λc=>?_) (λc=>hQ _ _ _ ⟨rfl,rfl,by omega⟩);obtain⟨q,rfl⟩:∃q,j=q+1:=⟨j-1,by grind⟩
  obtain⟨x',p0⟩:∃x',y.mo[q]?=some x':=⟨_,aa5 (by omega)⟩
  obtain⟨b',o',q0, -,g3,f4⟩:=HN (P1.aF i1) p0
  have d1:lP x' x:=by have h1:=aa9.1 p0;have h2:=aa9.1 hx;have:=abF.1 hP.DX q (q+1) h1.1 h2.1 (by omega);rwa[h1.2,h2.2]at this
  unfold lP at d1;rw[f0,ae,e4,ae,dD,ae,wrap64 (by omega) (by omega),show((q+1:Nat):Int)-1=(q:Int) by omega,q0,ae,dQ,ae,g3,ae,aM,ae,aj,abk (by omega),aO];rw[ae,ae,ae,q0,ae,dQ,ae,g3,ae,aS,ae,aj];refine ak (λc=>?_) (λc=>hQ _ _ _ ⟨rfl,rfl,by omega⟩);have c:=aba c;rw[f1,ae,ae,ae,q0,ae,eH,ae,f4,ae,cp,ae,abk (by omega)];exact hQ _ _ _ ⟨rfl,rfl,by omega⟩
 rintro _ _ H ⟨rfl,rfl,s0⟩;rw[aB,aj,aO,aQ,ae,wrap64 (by omega) (by omega)];exact⟨j+1,by omega,z,by grind,by omega,E0,s0⟩
end
section
section
variable {X:aK}{x0 x1:aeM}{m:M}{R:aeN->M->Nat->Prop}{W:Words}
theorem aan:dE TE (aL TE X) f134 [x0,x1] m R=ρ m x0 33 λa=>ς a [aeQ,aeQ] 33 λb=>δ b 33 (υ m) λc=>χ X 176 [c] b λb c d=>ο .not b λb=>aR b (θ 33 [] λb=>ι c 33 (υ a) b λb c=>ai (ah TE b 33 (υ a)) λa=>R [a,φ 0,φ 170] b (ψ m.n d c)) (δ c 33 (υ m) λb=>χ X 184 [b] c λb c f=>ς c [aeQ,aeQ] 33 λg=>ι g 33 (υ c) b λb g=>Lp (λb d f g=>un d λd h=>un h λh i=>un i λi _=>κ f .len [146] [x1] λj _=>η .lss 3 i j λj=>aR j (η .geq 3 i (φ 40) λj=>aR j (θ 33 [] λb=>ι f 33 (υ a) b λb c=>ai (ah TE b 33 (υ a)) λa=>R [a,i,φ 170] b (min g c)) (δ f 33 (υ c) λj=>ζ 146 x1 i λk=>δ f 184 k λk=>χ X 185 [j,k] f λj k l=>(f.n<=l)/\(ξ j 0 λf=>ξ j 1 λj=>ς k [aeQ,aeQ] 33 λn=>ι n 33 (υ k) f λf n=>η .neq 46 j (φ 0) λj=>aR j (θ 33 [] λb=>ι f 33 (υ a) b λb c=>ai (ah TE b 33 (υ a)) λa=>R [a,i,φ 170] b (ω g l n c)) (δ f 33 (υ k) λa=>ι f 33 (υ c) a λa c=>η .add 3 i (φ 1) λf=>b [d,h,f] a (ω g l n c))))) (δ f 33 (υ c) λb=>κ f .len [146] [x1] λc _=>ι f 33 (υ a) b λb d=>ai (ah TE b 33 (υ a)) λa=>R [a,c,φ 0] b (min g d))) [φ 0,φ 0,φ 0] b (ω m.n d f g)):=by kernel_rfl
theorem aao:dE TE W f133 [x0,x1] m R=aaY W m x0 38 λa=>aaY W a x1 62 λb=>aaP W 38 (aa0 m) 0 λc=>aaO W b 33 c λc=>aaP W 62 (aa0 a) 2 λd=>aaO W b 3 d λd=>aa2 W 71 [c,d] b λb c d=>aaW W b 0 λf=>aaW W b 1 λb=>aaZ W c [aa1 0,aa1 0,aa1 0,aeQ,aa1 0,aa1 0] 60 λg=>aaT W g 60 (aa0 c) f λf g=>aaP W 62 (aa0 a) 0 λh=>aaO W f 3 h λh=>aaR W .eql 3 h (aa1 1) λi=>aR i (aaP W 62 (aa0 a) 1 λb=>aaO W f 60 b λb=>aaS W 184 [(0,(aa1 1)),(1,b)] λb=>aaV W f 146 1 [(0,b)] λb c=>aaO W c 38 (aa0 m) λf=>aaP W 62 (aa0 a) 1 λa=>aaP W 60 a 0 λa=>aaO W c 3 a λa=>aa2 W 180 [f,a] c λa f h=>(c.n<=h)/\(aaR W .lss 3 a (aa1 0) λa=>R [b,a] f (ω m.n d g h))) (aaR W .eql 3 h (aa1 2) λi=>aR i (W.jn (λc=>aaP W 62 (aa0 a) 2 λa=>aaO W f 3 a λa=>aaS W 184 [(0,(aa1 2)),(2,a)] λa=>aaV W f 146 1 [(0,a)] λa f=>aR b (aaP W 38 (aa0 m) 1 λb=>aaO W f 34 b λb=>aaU W f .len [34] [b] λb _=>aaR W .lss 3 b (aa1 12) λb=>c [a,b] f (ψ m.n d g)) (c [a,aeS] f (ψ m.n d g))) (λa b c=>W.un a λa d=>W.un d λd _=>R [a,d] b c)) (aaR W .eql 3 h (aa1 3) λi=>aR i (aaO W f 38 (aa0 m) λb=>aaP W 62 (aa0 a) 2 λa=>aaO W f 3 a λa=>aa2 W 180 [b,a] f λa b c=>aaR W .lss 3 a (aa1 0) λf=>aR f (R [aeQ,aeS] b (ω m.n d g c)) (aaP W 38 (aa0 m) 1 λf=>aaO W b 34 f λf=>aaQ W 34 f a λf=>aaP W 113 f 0 λf=>aaO W b 60 f λf=>aaS W 184 [(0,(aa1 1)),(1,f)] λf=>aaV W b 146 1 [(0,f)] λb f=>W.Lp (λb c d f=>W.un c λc g=>W.un g λg _=>aaP W 38 (aa0 m) 1 λh=>aaO W d 34 h λh=>aaQ W 34 h a λh=>aaP W 113 h 1 λh=>aaO W d 31 h λh=>aaU W d .len [31] [h] λh _=>aaR W .lss 3 g h λh=>aR h (aaP W 38 (aa0 m) 1 λh=>aaO W d 34 h λh=>aaQ W 34 h a λa=>aaP W 113 a 1 λa=>aaO W d 31 a λa=>aaQ W 31 a g λa=>aaO W d 137 a λa=>aaS W 184 [(0,(aa1 5)),(5,a)] λa=>aaV W d 146 1 [(0,a)] λa d=>aaU W (M.wl d d.n) .append [146,146] [c,a] λa c=>aaR W .add 3 g (aa1 1) λd=>b [a,d] c (min f (M.low c))) (R [c,aeR] d f)) [b,aa1 0] f (ω m.n d g c))) (aaR W .eql 3 h (aa1 4) λi=>aR i (W.Lp (λd f g h=>W.un f λf i=>W.un i λi j=>W.un j λj _=>aaP W 38 (aa0 m) 0 λk=>aaP W 33 k 0 λk=>aaP W 30 k 0 λk=>aaO W g 28 k λk=>aaU W g .len [28] [k] λk _=>aaR W .lss 3 j k λk=>aR k (aaP W 38 (aa0 m) 0 λk=>aaP W 33 k 0 λk=>aaP W 30 k 0 λk=>aaO W g 28 k λk=>aaQ W 28 k j λk=>aaO W g 60 k λk=>aaZ W g [aa1 0,aa1 0,aa1 0,aeQ,aa1 0,aa1 0] 60 λl=>aaT W l 60 (aa0 g) k λk l=>aaO W k 60 (aa0 c) λc=>aaO W k 60 (aa0 g) λn=>aa2 W 130 [c,n] k λc k n=>aaW W c 0 λo=>aaW W c 1 λc=>aaZ W k [aa1 0,aa1 0,aa1 0,aa1 0,aa1 0,aa1 0,aa1 0,aa1 0] 145 λp=>aaT W p 145 (aa0 k) o λk o=>W.jn (λd=>aR b (aR c (aaP W 62 (aa0 a) 5 λa=>aaO W k 3 a λa=>aaP W 60 (aa0 g) 2 λb=>aaO W k 3 b λb=>aa2 W 181 [a,b] k λa b c=>aaX W .not a λa=>d [a] b (Γ h l n o c)) (d [aeS] k (ω h l n o))) (d [aeS] k (ω h l n o))) (λa b c=>W.un a λa _=>aR a (R [aeQ,aeS] b c) (aaR W .add 3 j (aa1 1) λa=>d [f,i,a] b c))) (aaP W 62 (aa0 a) 5 λd=>aaO W g 3 d λd=>aaP W 60 (aa0 c) 2 λf=>aaT W g 3 f d λd f=>aaP W 62 (aa0 a) 2 λa=>aaO W d 3 a λa=>aaS W 184 [(0,(aa1 2)),(2,a)] λa=>aaO W d 60 (aa0 c) λc=>aaS W 184 [(0,(aa1 1)),(1,c)] λc=>aaV W d 146 2 [(0,a),(1,c)] λa c=>R [a,b] c (min h f))) [aeQ,aeS,aa1 0] f (ψ m.n d g)) (aaR W .eql 3 h (aa1 5) λi=>aR i (W.Lp (λb c d f=>W.un c λc g=>W.un g λg _=>aaP W 38 (aa0 m) 0 λh=>aaP W 33 h 1 λh=>aaO W d 31 h λh=>aaU W d .len [31] [h] λh _=>aaR W .lss 3 g h λh=>aR h (W.jn (λb=>aaP W 38 (aa0 m) 0 λh=>aaP W 33 h 1 λh=>aaO W d 31 h λh=>aaQ W 31 h g λg=>aaO W d 137 g λg=>aaZ W d [aa1 0,aa1 0,aa1 0,aa1 0,aeS] 137 λh=>aaT W h 137 (aa0 d) g λg h=>W.jn (λb=>aaP W 137 (aa0 d) 1 λc=>aaO W g 3 c λc=>aaP W 62 (aa0 a) 2 λi=>aaO W g 3 i λi=>aaR W .eql 3 c i λc=>aR c (aaP W 137 (aa0 d) 2 λc=>aaO W g 3 c λc=>aaP W 62 (aa0 a) 4 λa=>aaO W g 3 a λa=>aaR W .eql 3 c a λa=>aR a (aaP W 137 (aa0 d) 4 λa=>aaO W g 4 a λa=>aR a (aaP W 137 (aa0 d) 3 λa=>aaO W g 3 a λa=>aaR W .eql 3 a (aa1 1) λa=>aR a (b [aeR] g (min f h)) (aaP W 137 (aa0 d) 3 λa=>aaO W g 3 a λa=>aaR W .eql 3 a (aa1 4) λa=>aR a (b [aeR] g (min f h)) (aaP W 137 (aa0 d) 3 λa=>aaO W g 3 a λa=>aaR W .eql 3 a (aa1 5) λa=>b [a] g (min f h)))) (b [aeS] g (min f h))) (b [aeS] g (min f h))) (b [aeS] g (min f h))) (λa f g=>W.un a λa _=>aR a (aaP W 137 (aa0 d) 0 λa=>aaO W f 3 a λa=>aaS W 184 [(0,(aa1 6)),(2,a)] λa=>aaV W f 146 1 [(0,a)] λa d=>aaU W (M.wl d d.n) .append [146,146] [c,a] λa c=>b [a] c (min g (M.low c))) (b [c] f g))) (λa c d=>W.un a λa _=>aaR W .add 3 g (aa1 1) λf=>b [a,f] c d)) (aaP W 38 (aa0 m) 0 λb=>aaO W d 33 b λb=>aaP W 62 (aa0 a) 2 λg=>aaO W d 3 g λg=>aaP W 62 (aa0 a) 4 λa=>aaO W d 3 a λa=>aa2 W 182 [b,g,a] d λa b d=>R [c,a] b (min f d))) [aeQ,aa1 0] f (ψ m.n d g)) (aaR W .eql 3 h (aa1 6) λi=>aR i (aaP W 62 (aa0 a) 2 λa=>aaO W f 3 a λa=>aaS W 184 [(0,(aa1 7)),(2,a)] λa=>aaV W f 146 1 [(0,a)] λa b=>R [a,aeR] b (ψ m.n d g)) (aaR W .eql 3 h (aa1 7) λi=>aR i (aaP W 62 (aa0 a) 2 λa=>aaO W f 3 a λa=>aaS W 184 [(0,(aa1 6)),(2,a)] λa=>aaV W f 146 1 [(0,a)] λa b=>R [a,aeR] b (ψ m.n d g)) (aaR W .eql 3 h (aa1 8) λh=>aR h (aaP W 62 (aa0 a) 2 λb=>aaO W f 3 b λb=>aaP W 62 (aa0 a) 4 λc=>aaO W f 3 c λc=>aaS W 53 [(0,b),(1,c)] λb=>aaZ W f [aa1 0,aa1 0] 53 λc=>aaT W c 53 (aa0 f) b λb c=>W.jn (λh=>aaP W 38 (aa0 m) 0 λi=>aaO W b 33 i λi=>aaP W 62 (aa0 a) 2 λj=>aaO W b 3 j λj=>aaP W 62 (aa0 a) 4 λa=>aaO W b 3 a λa=>aa2 W 182 [i,j,a] b λa b i=>aR a (aaP W 38 (aa0 m) 2 λa=>aaO W b 35 a λa=>aaU W b .len [35] [a] λa _=>aaR W .lss 3 a (aa1 60) λa=>aR a (h [aeQ,aeR] b (Γ m.n d g c i)) (aaO W b 38 (aa0 m) λa=>aaO W b 53 (aa0 f) λf=>aa2 W 72 [a,f] b λa b f=>h [aeQ,a] b (Δ m.n d g c i f))) (h [aeQ,aeS] b (Γ m.n d g c i))) (λa b c=>W.un a λa d=>W.un d λd _=>R [a,d] b c)) (aaP W 38 (aa0 m) 0 λh=>aaO W f 33 h λh=>aaP W 62 (aa0 a) 3 λi=>aaO W f 3 i λi=>aa2 W 71 [h,i] f λf h i=>aaW W f 0 λj=>aaW W f 1 λf=>aaZ W h [aa1 0,aa1 0,aa1 0,aeQ,aa1 0,aa1 0] 60 λk=>aaT W k 60 (aa0 h) j λj k=>aaO W j 60 (aa0 c) λl=>aaO W j 60 (aa0 h) λn=>aa2 W 130 [l,n] j λj l n=>aaW W j 0 λo=>aaW W j 1 λj=>aaZ W l [aa1 0,aa1 0,aa1 0,aa1 0,aa1 0,aa1 0,aa1 0,aa1 0] 145 λp=>aaT W p 145 (aa0 l) o λl o=>W.Lp (λd g i k=>W.un g λg l=>W.un l λl _=>aaP W 38 (aa0 m) 3 λn=>aaO W i 36 n λn=>aaU W i .len [36] [n] λn _=>aaR W .lss 3 l n λn=>aR n (aR g (aaR W .add 3 l (aa1 1) λa=>d [aeR,a] i k) (aaP W 38 (aa0 m) 3 λb=>aaO W i 36 b λb=>aaQ W 36 b l λb=>aaP W 109 b 0 λb=>aaO W i 3 b λb=>aaP W 62 (aa0 a) 2 λc=>aaO W i 3 c λc=>aaR W .eql 3 b c λb=>aR b (aaP W 38 (aa0 m) 3 λb=>aaO W i 36 b λb=>aaQ W 36 b l λb=>aaP W 109 b 1 λb=>aaO W i 3 b λb=>aaP W 62 (aa0 a) 3 λa=>aaO W i 3 a λa=>aaR W .eql 3 b a λa=>aaR W .add 3 l (aa1 1) λb=>d [a,b] i k) (aaR W .add 3 l (aa1 1) λa=>d [aeS,a] i k))) (W.jn (λd=>aR b (aR f (aR j (aaP W 62 (aa0 a) 5 λb=>aaO W i 3 b λb=>aaP W 60 (aa0 c) 2 λc=>aaO W i 3 c λc=>aa2 W 183 [b,c] i λb c f=>aR b (aaP W 62 (aa0 a) 5 λa=>aaO W c 3 a λa=>aaP W 60 (aa0 h) 2 λb=>aaO W c 3 b λb=>aa2 W 183 [a,b] c λa b c=>aR a (aaP W 38 (aa0 m) 3 λa=>aaO W b 36 a λa=>aaU W b .len [36] [a] λa _=>aaR W .lss 3 a (aa1 20) λa=>aR a (d [aeQ,aeR] b (ψ k f c)) (d [aeQ,g] b (ψ k f c))) (d [aeQ,aeS] b (ψ k f c))) (d [aeQ,aeS] c (min k f))) (d [aeQ,aeS] i k)) (d [aeQ,aeS] i k)) (d [aeQ,aeS] i k)) (λa b c=>W.un a λa d=>W.un d λd _=>R [a,d] b c))) [aeS,aa1 0] l (Θ m.n d g i k n o))))))))):=by kernel_rfl
theorem F70:dE TE (aL TE X) f70 [x0,x1] m R=ρ m x0 38 λa=>ρ a x1 62 λb=>ς b [aeQ,aeQ] 33 λc=>jn (λb=>δ c 38 (υ m) λd=>χ X 131 [d] c λc d f=>ο .not c λc=>aR c (b [aeR] d (min m.n f)) (δ d 62 (υ a) λa=>χ X 132 [a] d λa c d=>ο .not a λa=>b [a] c (ψ m.n f d))) (λc d f=>un c λc _=>aR c (θ 33 [] λa=>ι d 33 (υ b) a λa c=>ai (ah TE a 33 (υ b)) λb=>R [aeQ,b,aeS] a (min f c)) (δ d 38 (υ m) λc=>δ d 62 (υ a) λa=>χ X 133 [c,a] d λa c d=>ξ a 0 λg=>ξ a 1 λa=>ο .not a λa=>aR a (θ 33 [] λa=>ι c 33 (υ b) a λa c=>ai (ah TE a 33 (υ b)) λb=>R [aeQ,b,aeS] a (ψ f d c)) (ε 38 (υ m) 0 λa=>δ c 33 a λa=>χ X 134 [a,g] c λa c h=>ξ a 0 λi=>ξ a 1 λ_=>ξ a 2 λa=>ς c [aeQ,aeQ] 33 λj=>ι j 33 (υ c) i λi j=>δ i 33 (υ c) λc=>η .eql 46 a (φ 0) λa=>ι i 33 (υ b) c λc i=>ai (ah TE c 33 (υ b)) λb=>R [g,b,a] c (Γ f d h j i)))):=by kernel_rfl
theorem F27:dE TE W f27 [x0,x1] m R=aaY W m x0 38 λa=>aaY W a x1 62 λb=>aaZ W b [aeQ,aeQ,aeQ,aeQ,aeQ] 38 λc=>aaO W c 38 (aa0 m) λd=>aaO W c 62 (aa0 a) λf=>aa2 W 70 [d,f] c λc d f=>aaW W c 0 λ_=>aaW W c 1 λg=>aaW W c 2 λc=>aaZ W d [aeQ,aeQ] 33 λh=>aaT W h 33 (aa0 d) g λg h=>aaX W .not c λc=>aR c (aaS W 38 [] λa=>aaT W g 38 (aa0 b) a λa c=>ai (ah TE a 38 (aa0 b)) λb=>R [b,aa1 270] a (ω m.n f h c)) (aaO W g 33 (aa0 d) λc=>aaS W 38 [(0,c)] λc=>aaZ W g [aeQ,aeQ,aeQ,aeQ,aeQ] 38 λd=>aaT W d 38 (aa0 g) c λc d=>W.jn (λb=>aaP W 62 (aa0 a) 0 λi=>aaO W c 3 i λi=>aaR W .eql 3 i (aa1 2) λi=>aR i (aaP W 38 (aa0 m) 0 λi=>aaO W c 33 i λi=>aaP W 62 (aa0 a) 2 λj=>aaO W c 3 j λj=>aa2 W 71 [i,j] c λc i j=>aaW W c 0 λk=>aaW W c 1 λ_=>aaZ W i [aa1 0,aa1 0,aa1 0,aeQ,aa1 0,aa1 0] 60 λc=>aaT W c 60 (aa0 i) k λc k=>aaO W c 60 (aa0 i) λi=>aaS W 113 [(0,i)] λi=>aaZ W c [aa1 0,aa1 0,aa1 0,aeQ,aa1 0,aa1 0,aeQ] 113 λl=>aaT W l 113 (aa0 c) i λi l=>W.Lp (λd f h i=>W.un f λf _=>aaP W 38 (aa0 m) 0 λj=>aaP W 33 j 1 λj=>aaO W h 31 j λj=>aaU W h .len [31] [j] λj _=>aaR W .lss 3 f j λj=>aR j (W.jn (λb=>aaP W 38 (aa0 m) 0 λd=>aaP W 33 d 1 λd=>aaO W h 31 d λd=>aaQ W 31 d f λd=>aaP W 137 d 1 λd=>aaO W h 3 d λd=>aaP W 62 (aa0 a) 2 λa=>aaO W h 3 a λa=>aaR W .eql 3 d a λa=>aR a (aaP W 113 (aa0 c) 1 λa=>aaO W h 31 a λa=>aaP W 38 (aa0 m) 0 λd=>aaP W 33 d 1 λd=>aaO W h 31 d λd=>aaQ W 31 d f λd=>aaO W h 137 d λd=>aaV W h 31 1 [(0,d)] λd f=>aaU W (M.wl f f.n) .append [31,31] [a,d] λa d=>aaP W 113 (aa0 c) 1 λc=>aaT W d 31 c a λa c=>b [] a (ψ i (M.low d) c)) (b [] h i)) (λ_ a b=>aaR W .add 3 f (aa1 1) λc=>d [c] a b)) (W.Lp (λd f h i=>W.un f λf _=>W.jn (λb=>aaP W 38 (aa0 m) 1 λc=>aaO W h 34 c λc=>aaU W h .len [34] [c] λc _=>aaR W .lss 3 f c λc=>aR c (aaP W 38 (aa0 m) 1 λc=>aaO W h 34 c λc=>aaQ W 34 c f λc=>aaP W 113 c 0 λc=>aaP W 60 c 0 λc=>aaO W h 3 c λc=>aaP W 62 (aa0 a) 2 λa=>aaO W h 3 a λa=>aaR W .lss 3 c a λa=>b [a] h i) (b [aeS] h i)) (λa h i=>W.un a λa _=>aR a (aaR W .add 3 f (aa1 1) λa=>d [a] h i) (aaP W 38 (aa0 g) 1 λa=>aaO W h 34 a λa=>aaP W 38 (aa0 m) 1 λd=>aaO W h 34 d λd=>W.ai (slice? TE h 34 d none (some f) none) λd=>aaU W (M.wl h h.n) .append [34,34] [a,d] λa d=>aaP W 38 (aa0 g) 1 λh=>aaT W d 34 h a λa h=>aaP W 38 (aa0 g) 1 λj=>aaO W a 34 j λj=>aaO W a 113 (aa0 c) λc=>aaV W a 34 1 [(0,c)] λa c=>aaU W (M.wl c c.n) .append [34,34] [j,a] λa c=>aaP W 38 (aa0 g) 1 λj=>aaT W c 34 j a λa j=>aaP W 38 (aa0 g) 1 λk=>aaO W a 34 k λk=>aaP W 38 (aa0 m) 1 λl=>aaO W a 34 l λl=>W.ai (slice? TE a 34 l (some f) none none) λf=>aaU W (M.wl a a.n) .append [34,34] [k,f] λa f=>aaP W 38 (aa0 g) 1 λg=>aaT W f 34 g a λa g=>b [] a (Θ i (M.low d) h (M.low c) j (M.low f) g)))) [aa1 0] h i)) [aa1 0] i (Θ m.n f h d j k l)) (W.Lp (λc d f h=>W.un d λd _=>aaP W 38 (aa0 m) 1 λi=>aaO W f 34 i λi=>aaU W f .len [34] [i] λi _=>aaR W .lss 3 d i λi=>aR i (W.jn (λb=>W.jn (λb=>aaP W 62 (aa0 a) 0 λc=>aaO W f 3 c λc=>aaR W .neq 3 c (aa1 3) λc=>aR c (b [aeR] f h) (aaP W 38 (aa0 m) 1 λc=>aaO W f 34 c λc=>aaQ W 34 c d λc=>aaP W 113 c 0 λc=>aaP W 60 c 0 λc=>aaO W f 3 c λc=>aaP W 62 (aa0 a) 2 λa=>aaO W f 3 a λa=>aaR W .neq 3 c a λa=>b [a] f h)) (λa c f=>W.un a λa _=>aR a (aaP W 38 (aa0 g) 1 λa=>aaO W c 34 a λa=>aaP W 38 (aa0 m) 1 λh=>aaO W c 34 h λh=>aaQ W 34 h d λd=>aaO W c 113 d λd=>aaV W c 34 1 [(0,d)] λc d=>aaU W (M.wl d d.n) .append [34,34] [a,c] λa c=>aaP W 38 (aa0 g) 1 λd=>aaT W c 34 d a λa d=>b [] a (ψ f (M.low c) d)) (b [] c f))) (λ_ a b=>aaR W .add 3 d (aa1 1) λd=>c [d] a b)) (b [] f h)) [aa1 0] c (ω m.n f h d))) (λ_ c d=>aaP W 62 (aa0 a) 2 λf=>aaO W c 3 f λf=>aaP W 62 (aa0 a) 4 λh=>aaO W c 3 h λh=>aaS W 53 [(0,f),(1,h)] λf=>aaZ W c [aa1 0,aa1 0] 53 λh=>aaT W h 53 (aa0 c) f λf h=>W.jn (λb=>aaP W 62 (aa0 a) 0 λa=>aaO W f 3 a λa=>aaR W .eql 3 a (aa1 8) λa=>aR a (aaO W f 38 (aa0 m) λa=>aaO W f 53 (aa0 c) λc=>aa2 W 72 [a,c] f λa c f=>aaX W .not a λa=>b [a] c (ψ d h f)) (b [aeS] f (min d h))) (λd f h=>W.un d λd _=>W.Lp (λd f h i=>W.un f λf j=>W.un j λj _=>aaP W 38 (aa0 m) 2 λk=>aaO W h 35 k λk=>aaU W h .len [35] [k] λk _=>aaR W .lss 3 j k λk=>aR k (W.jn (λa=>W.jn (λa=>aR f (aaO W h 53 (aa0 c) λb=>aaP W 38 (aa0 m) 2 λc=>aaO W h 35 c λc=>aaQ W 35 c j λc=>aaO W h 53 c λc=>aa2 W 73 [b,c] h λb c d=>a [b] c (min i d)) (a [aeS] h i)) (λb d h=>W.un b λb _=>aR b (aaP W 38 (aa0 g) 2 λb=>aaO W d 35 b λb=>aaO W d 53 (aa0 c) λc=>aaV W d 35 1 [(0,c)] λc d=>aaU W (M.wl d d.n) .append [35,35] [b,c] λb c=>aaP W 38 (aa0 g) 2 λd=>aaT W c 35 d b λb d=>a [aeS] b (ψ h (M.low c) d)) (a [f] d h))) (λa b c=>W.un a λa _=>aaP W 38 (aa0 g) 2 λf=>aaO W b 35 f λf=>aaP W 38 (aa0 m) 2 λh=>aaO W b 35 h λh=>aaQ W 35 h j λh=>aaO W b 53 h λh=>aaV W b 35 1 [(0,h)] λb h=>aaU W (M.wl h h.n) .append [35,35] [f,b] λb f=>aaP W 38 (aa0 g) 2 λg=>aaT W f 35 g b λb g=>aaR W .add 3 j (aa1 1) λh=>d [a,h] b (ψ c (M.low f) g))) (W.jn (λa=>aR f (aaP W 38 (aa0 g) 2 λb=>aaO W h 35 b λb=>aaO W h 53 (aa0 c) λc=>aaV W h 35 1 [(0,c)] λc d=>aaU W (M.wl d d.n) .append [35,35] [b,c] λb c=>aaP W 38 (aa0 g) 2 λd=>aaT W c 35 d b λb d=>a [] b (ψ i (M.low c) d)) (a [] h i)) (λ_ c d=>aaP W 62 (aa0 a) 2 λf=>aaO W c 3 f λf=>aaP W 62 (aa0 a) 3 λh=>aaO W c 3 h λh=>aaP W 62 (aa0 a) 5 λi=>aaO W c 3 i λi=>aaS W 109 [(0,f),(1,h),(2,i)] λf=>aaZ W c [aa1 0,aa1 0,aa1 0] 109 λh=>aaT W h 109 (aa0 c) f λf h=>aaP W 62 (aa0 a) 0 λi=>aaO W f 3 i λi=>aaR W .eql 3 i (aa1 9) λi=>W.Lp (λd f h i=>W.un f λf j=>W.un j λj _=>aaP W 38 (aa0 m) 3 λk=>aaO W h 36 k λk=>aaU W h .len [36] [k] λk _=>aaR W .lss 3 j k λk=>aR k (W.jn (λb=>aaP W 38 (aa0 m) 3 λd=>aaO W h 36 d λd=>aaQ W 36 d j λd=>aaO W h 109 d λd=>aaZ W h [aa1 0,aa1 0,aa1 0] 109 λj=>aaT W j 109 (aa0 h) d λd j=>W.jn (λa=>W.jn (λa=>aR f (aaP W 109 (aa0 c) 0 λb=>aaO W d 3 b λb=>aaP W 109 (aa0 h) 0 λf=>aaO W d 3 f λf=>aaR W .lss 3 b f λb=>aR b (a [aeR] d (min i j)) (aaP W 109 (aa0 c) 0 λb=>aaO W d 3 b λb=>aaP W 109 (aa0 h) 0 λf=>aaO W d 3 f λf=>aaR W .eql 3 b f λb=>aR b (aaP W 109 (aa0 c) 1 λb=>aaO W d 3 b λb=>aaP W 109 (aa0 h) 1 λc=>aaO W d 3 c λc=>aaR W .leq 3 b c λb=>a [b] d (min i j)) (a [aeS] d (min i j)))) (a [aeS] d (min i j))) (λb d h=>W.un b λb _=>aR b (aaP W 38 (aa0 g) 3 λb=>aaO W d 36 b λb=>aaO W d 109 (aa0 c) λc=>aaV W d 36 1 [(0,c)] λc d=>aaU W (M.wl d d.n) .append [36,36] [b,c] λb c=>aaP W 38 (aa0 g) 3 λd=>aaT W c 36 d b λb d=>a [aeS] b (ψ h (M.low c) d)) (a [f] d h))) (λd f i=>W.un d λd _=>W.jn (λb=>aaP W 62 (aa0 a) 0 λa=>aaO W f 3 a λa=>aaR W .neq 3 a (aa1 9) λa=>aR a (b [aeR] f i) (aaP W 109 (aa0 c) 0 λa=>aaO W f 3 a λa=>aaP W 109 (aa0 h) 0 λd=>aaO W f 3 d λd=>aaR W .neq 3 a d λa=>aR a (b [aeR] f i) (aaP W 109 (aa0 c) 1 λa=>aaO W f 3 a λa=>aaP W 109 (aa0 h) 1 λc=>aaO W f 3 c λc=>aaR W .neq 3 a c λa=>b [a] f i))) (λa c f=>W.un a λa _=>aR a (aaP W 38 (aa0 g) 3 λa=>aaO W c 36 a λa=>aaO W c 109 (aa0 h) λh=>aaV W c 36 1 [(0,h)] λc h=>aaU W (M.wl h h.n) .append [36,36] [a,c] λa c=>aaP W 38 (aa0 g) 3 λg=>aaT W c 36 g a λa g=>b [d] a (ψ f (M.low c) g)) (b [d] c f)))) (λa b c=>W.un a λa _=>aaR W .add 3 j (aa1 1) λf=>d [a,f] b c)) (W.jn (λa=>aR f (aaP W 38 (aa0 g) 3 λb=>aaO W h 36 b λb=>aaO W h 109 (aa0 c) λc=>aaV W h 36 1 [(0,c)] λc d=>aaU W (M.wl d d.n) .append [36,36] [b,c] λb c=>aaP W 38 (aa0 g) 3 λd=>aaT W c 36 d b λb d=>a [] b (ψ i (M.low c) d)) (a [] h i)) (λ_ a c=>aaO W a 38 (aa0 g) λd=>aaT W a 38 (aa0 b) d λa d=>ai (ah TE a 38 (aa0 b)) λb=>R [b,aa1 0] a (min c d)))) [i,aa1 0] f (min d h)))) [d,aa1 0] f h))):=by kernel_rfl
theorem F66:dE TE (aL TE X) f66 [x0,x1] m R=jn (λa=>η .lss 3 x0 (φ 0) λb=>aR b (η .add 3 x0 (φ 1) λb=>ο .neg b λb=>a [b] m m.n) (a [x0] m m.n)) (λa b c=>un a λa _=>η .rem 3 a x1 λa=>R [a] b c):=by kernel_rfl
theorem F68:dE TE (aL TE X) f68 [x0,x1] m R=ρ m x0 33 λa=>ε 33 (υ m) 0 λb=>ε 30 b 0 λb=>δ a 28 b λb=>κ a .len [28] [b] λb _=>η .eql 3 b (φ 0) λb=>aR b (χ X 66 [x1,φ 100] a λa b c=>R [a] b (min m.n c)) (ε 33 (υ m) 0 λb=>ε 30 b 0 λb=>δ a 28 b λb=>ε 33 (υ m) 0 λc=>ε 30 c 0 λc=>δ a 28 c λc=>κ a .len [28] [c] λc _=>χ X 66 [x1,c] a λc d f=>(a.n<=f)/\(ζ 28 b c λa=>ε 60 a 0 λa=>δ d 3 a λa=>R [a] d (min m.n f))):=by kernel_rfl
theorem F26:dE TE (aL TE X) f26 [x0,x1] m R=ρ m x0 38 λa=>ρ a x1 89 λb=>ς b [φ 0,φ 0,φ 0,φ 0,aeQ,φ 0,φ 0,φ 0,φ 0,φ 0,φ 0] 62 λc=>ζ 89 (υ a) (φ 0) λd=>δ c 3 d λd=>χ X 66 [d,φ 9] c λc d f=>η .add 3 (φ 1) c λc=>θ 62 [(0,c)] λc=>ς d [φ 0,φ 0,φ 0,φ 0,aeQ,φ 0,φ 0,φ 0,φ 0,φ 0,φ 0] 62 λg=>ι g 62 (υ d) c λc g=>ε 38 (υ m) 0 λh=>δ c 33 h λh=>ς c [aeQ,aeQ] 33 λi=>ι i 33 (υ c) h λh i=>jn (λb=>ε 62 (υ d) 0 λj=>δ h 3 j λj=>η .eql 3 j (φ 1) λk=>aR k (ζ 89 (υ a) (φ 1) λc=>δ h 3 c λc=>ζ 89 (υ a) (φ 2) λj=>δ h 3 j λj=>ζ 89 (υ a) (φ 3) λk=>δ h 3 k λk=>ζ 89 (υ a) (φ 4) λl=>δ h 3 l λl=>ζ 89 (υ a) (φ 4) λn=>δ h 3 n λn=>η .quo 3 n (φ 4) λn=>ζ 89 (υ a) (φ 5) λo=>δ h 3 o λo=>θ 89 [(0,j),(1,k),(2,l),(3,n),(4,(φ 0)),(5,o)] λj=>χ X 67 [c,j] h λc h j=>ε 62 (υ d) 1 λk=>ι h 60 k c λc h=>ζ 89 (υ a) (φ 5) λa=>δ c 3 a λa=>χ X 66 [a,φ 3] c λa c k=>η .add 3 (φ 6) a λa=>ε 62 (υ d) 1 λd=>ε 60 d 1 λd=>ι c 3 d a λa c=>b [] a (Λ m.n f g i j h k c)) (η .eql 3 j (φ 3) λk=>aR k (δ h 33 (υ c) λc=>ζ 89 (υ a) (φ 1) λj=>δ h 3 j λj=>χ X 68 [c,j] h λc h j=>ε 62 (υ d) 2 λk=>ι h 3 k c λc h=>ε 38 (υ m) 1 λk=>δ c 34 k λk=>κ c .len [34] [k] λk _=>η .gtr 3 k (φ 0) λk=>aR k (ε 38 (υ m) 1 λk=>δ c 34 k λk=>ζ 89 (υ a) (φ 1) λa=>δ c 3 a λa=>ε 38 (υ m) 1 λl=>δ c 34 l λl=>κ c .len [34] [l] λl _=>χ X 66 [a,l] c λa l n=>(c.n<=n)/\(ζ 34 k a λa=>ε 113 a 0 λa=>ε 60 a 0 λa=>δ l 3 a λa=>ε 62 (υ d) 2 λc=>ι l 3 c a λa c=>b [] a (Λ m.n f g i j h n c))) (b [] c (Δ m.n f g i j h))) (η .eql 3 j (φ 2) λk=>aR k (δ h 33 (υ c) λc=>ζ 89 (υ a) (φ 1) λa=>δ h 3 a λa=>χ X 68 [c,a] h λa c h=>ε 62 (υ d) 2 λd=>ι c 3 d a λa c=>b [] a (Δ m.n f g i h c)) (η .eql 3 j (φ 4) λk=>aR k (δ h 33 (υ c) λc=>ζ 89 (υ a) (φ 1) λj=>δ h 3 j λj=>χ X 68 [c,j] h λc h j=>ε 62 (υ d) 2 λk=>ι h 3 k c λc h=>ζ 89 (υ a) (φ 2) λa=>δ c 3 a λa=>χ X 66 [a,φ 8] c λa c k=>ε 62 (υ d) 5 λd=>ι c 3 d a λa c=>b [] a (Λ m.n f g i j h k c)) (jn (λa=>η .eql 3 j (φ 5) λb=>aR b (a [b] h (ω m.n f g i)) (η .eql 3 j (φ 8) λb=>a [b] h (ω m.n f g i))) (λf g h=>un f λf _=>aR f (δ g 33 (υ c) λf=>ζ 89 (υ a) (φ 1) λi=>δ g 3 i λi=>χ X 68 [f,i] g λf g i=>ε 62 (υ d) 2 λj=>ι g 3 j f λf g=>ζ 89 (υ a) (φ 2) λj=>δ f 3 j λj=>χ X 66 [j,φ 6] f λf j k=>η .sub 3 f (φ 2) λf=>ε 62 (υ d) 4 λl=>ι j 3 l f λf j=>jn (λb=>ε 33 (υ c) 1 λc=>δ f 31 c λc=>κ f .len [31] [c] λc _=>η .gtr 3 c (φ 0) λc=>aR c (ζ 89 (υ a) (φ 3) λa=>δ f 3 a λa=>χ X 66 [a,φ 2] f λa c d=>η .eql 3 a (φ 0) λa=>b [a] c (Δ h i g k j d)) (b [aeS] f (Γ h i g k j))) (λf g h=>un f λf _=>aR f (ε 33 (υ c) 1 λf=>δ g 31 f λf=>ζ 89 (υ a) (φ 2) λa=>δ g 3 a λa=>ε 33 (υ c) 1 λc=>δ g 31 c λc=>κ g .len [31] [c] λc _=>χ X 66 [a,c] g λa c i=>(g.n<=i)/\(ζ 31 f a λa=>δ c 137 a λa=>ς c [φ 0,φ 0,φ 0,φ 0,aeS] 137 λf=>ι f 137 (υ c) a λa f=>ε 137 (υ c) 1 λg=>δ a 3 g λg=>ε 62 (υ d) 2 λj=>ι a 3 j g λa g=>ε 137 (υ c) 2 λc=>δ a 3 c λc=>ε 62 (υ d) 4 λd=>ι a 3 d c λa c=>b [] a (Γ h i f g c))) (b [] g h))) (jn (λa=>η .eql 3 j (φ 6) λb=>aR b (a [b] g h) (η .eql 3 j (φ 7) λb=>a [b] g h)) (λf g h=>un f λf _=>aR f (ζ 89 (υ a) (φ 1) λf=>δ g 3 f λf=>χ X 66 [f,φ 12] g λf g i=>ε 62 (υ d) 2 λj=>ι g 3 j f λf g=>ε 33 (υ c) 1 λj=>δ f 31 j λj=>κ f .len [31] [j] λj _=>η .gtr 3 j (φ 0) λj=>aR j (ε 33 (υ c) 1 λj=>δ f 31 j λj=>ζ 89 (υ a) (φ 1) λa=>δ f 3 a λa=>ε 33 (υ c) 1 λc=>δ f 31 c λc=>κ f .len [31] [c] λc _=>χ X 66 [a,c] f λa c k=>(f.n<=k)/\(ζ 31 j a λa=>ε 137 a 0 λa=>δ c 3 a λa=>ε 62 (υ d) 2 λd=>ι c 3 d a λa c=>b [] a (Γ h i g k c))) (b [] f (ψ h i g))) (ζ 89 (υ a) (φ 3) λf=>δ g 3 f λf=>χ X 66 [f,φ 8] g λf i j=>(g.n<=j)/\(ν i 26 3 [(0,(φ 5)),(1,(φ 5)),(2,f)] λf g=>ζ 89 (υ a) (φ 2) λi=>δ g 3 i λi=>χ X 66 [i,φ 3] g λi k l=>(g.n<=l)/\(ζ 26 f i λf=>δ k 3 f λf=>ε 62 (υ d) 5 λg=>ι k 3 g f λf g=>ε 62 (υ d) 3 λi=>ι f 3 i (φ 1) λf i=>ε 33 (υ c) 0 λc=>δ f 30 c λc=>χ X 69 [c] f λc f k=>Lp (λf g h i=>un g λg _=>κ h .len [138] [c] λj _=>η .lss 3 g j λj=>aR j (jn (λb=>ζ 89 (υ a) (φ 1) λa=>δ h 3 a λa=>κ h .len [138] [c] λf _=>χ X 66 [a,f] h λa f h=>η .add 3 g a λa=>κ f .len [138] [c] λg _=>η .rem 3 a g λa=>ζ 138 c a λa=>δ f 145 a λa=>ς f [φ 0,φ 0,φ 0,φ 0,φ 0,φ 0,φ 0,φ 0] 145 λc=>ι c 145 (υ f) a λa c=>ε 145 (υ f) 1 λg=>δ a 3 g λg=>η .neq 3 g (φ (-1)) λg=>aR g (ε 145 (υ f) 0 λg=>δ a 3 g λg=>ε 62 (υ d) 2 λj=>ι a 3 j g λa g=>ε 145 (υ f) 1 λf=>δ a 3 f λf=>ε 62 (υ d) 3 λd=>ι a 3 d f λa d=>b [] a (Γ i h c g d)) (b [] a (ψ i h c))) (λ_ a b=>η .add 3 g (φ 1) λc=>f [c] a b)) (b [] h i)) [φ 0] f (Δ h j l g i k)))))))))))) (λ_ a c=>δ a 62 (υ d) λd=>ι a 62 (υ b) d λa d=>ai (ah TE a 62 (υ b)) λb=>R [b] a (min c d)):=by kernel_rfl
theorem F25:dE TE (aL TE X) f25 [x0,x1] m R=ρ m x0 25 λa=>ς a [aeQ,aeQ,aeQ,aeQ,aeQ] 38 λb=>ε 25 (υ m) 0 λc=>δ b 22 c λc=>ε 25 (υ m) 0 λd=>δ b 22 d λd=>κ b .len [22] [d] λd _=>κ b .min [3,3] [d,φ 5] λd _=>ai (slice? TE b 22 c none (some d) none) λc=>ε 25 (υ m) 0 λd=>ι b 22 d c λb c=>δ b 25 (υ m) λd=>χ X 65 [d] b λb d f=>θ 38 [(0,b)] λb=>ς d [aeQ,aeQ,aeQ,aeQ,aeQ] 38 λg=>ι g 38 (υ d) b λb g=>δ b 38 (υ d) λh=>ς b [aeQ,aeQ,aeQ,aeQ,aeQ] 38 λi=>ι i 38 (υ b) h λh i=>Lp (λc f g h=>un f λf i=>un i λi _=>jn (λa=>κ g .len [22] [x1] λb _=>η .lss 3 i b λb=>aR b (η .lss 3 i (φ 9) λb=>a [b] g h) (a [aeS] g h)) (λg h j=>un g λg _=>aR g (jn (λa=>δ h 38 (υ b) λc=>ζ 22 x1 i λg=>δ h 89 g λg=>χ X 26 [c,g] h λc g k=>(h.n<=k)/\(ς g [φ 0,φ 0,φ 0,φ 0,aeQ,φ 0,φ 0,φ 0,φ 0,φ 0,φ 0] 62 λh=>ι h 62 (υ g) c λc h=>δ c 38 (υ b) λl=>δ c 62 (υ g) λn=>χ X 27 [l,n] c λc l n=>ξ c 0 λo=>ξ c 1 λc=>ς l [aeQ,aeQ,aeQ,aeQ,aeQ] 38 λp=>ι p 38 (υ l) o λo p=>η .neq 46 c (φ 0) λc=>aR c (a [f] o (Γ j k h n p)) (δ o 38 (υ l) λc=>ι o 38 (υ b) c λb c=>η .lss 3 i (φ 3) λi=>aR i (δ b 38 (υ l) λg=>ι b 38 (υ d) g λb d=>a [f] b (Θ j k h n p c d)) (δ b 62 (υ g) λd=>ν b 39 1 [(0,d)] λb d=>κ (M.wl d d.n) .append [39,39] [f,b] λb d=>a [b] d (Θ j k h n p c (M.low d)))))) (λa b d=>un a λa _=>η .add 3 i (φ 1) λf=>c [a,f] b d)) (δ h 38 (υ d) λb=>ι h 38 (υ a) b λb c=>ai (ah TE b 38 (υ a)) λa=>R [a,f] b (min j c)))) [aeQ,φ 0] h (Γ m.n c f g i):=by kernel_rfl
end
end
section
variable {X:aK} {m:M}
structure AW where
 a:Ac
 w:aeM
abbrev AW.c(x:AW):aeN:=x.a.c x.w
abbrev AW.v(x:AW):aeM:=x.a.v x.w
theorem Ac.cR{a:Ac}{w:aeM}(h:one w):(a.c w).all one:=by show(true && (true && (true && (true && (one w && true)))))=true;rw[h];rfl
instance:aZ AW where
 ty:=184
 sz:=15
 agg:=true
 eB:=[]
 rep _ x cs:=cs=x.c/\one x.w=true
 pos:=by decide
 one:=by grind
 len:=by simp_all
 fB:=by rintro _ x _ ⟨rfl,h⟩;exact Ac.cR h
 aY:=by grind
theorem M9:oP TE 146 184 AW:=⟨ag.t146,ag.t184,by kernel_rfl,⟨_,rfl⟩,rfl,by kernel_rfl,rfl,rfl⟩
theorem P8:ur TE 146 AW:=⟨ag.t146,ag.t184,by kernel_rfl,rfl,rfl,by kernel_rfl,by decide,rfl⟩
theorem YB{l:List AW}{v:aeM}(h:Sl m l v){i:Nat}{x:AW}(H:l[i]?=some x):∃p,an TE 146 v (aeP i)=some p/\ah TE m 184 p=some x.v:=by have⟨p,cs,e1,e2,e3⟩:=h.index M9 (k:=.i64) H;obtain⟨rfl, -⟩:cs=x.c/\_:=e3;exact⟨p,e1,e2⟩
structure zK(m:M)(l:List AW)(v:aeM):Prop where
 sl:Sl m l v
 sh:∀x∈l,Sl m x.a.un.shape x.w
 ln:∀x∈l,x.a.un.shape.length < 1000000
 kd:∀x∈l,x.a.kind≠3/\x.a.kind≠4
theorem zK.aY{l:List AW}{v:aeM}{m':M}(h:zK m l v)(hk:∀c cs t g,m.get c=.cells cs t g->(t=184\/t=141)->m'.get c=.cells cs t g):zK m' l v:=
 ⟨h.sl.aY λc cs t g H ht=>hk c cs t g H (.inl (by simpa[aZ.ty,aZ.eB]using ht)),λx hx=>(h.sh x hx).aY λc cs t g H ht=>hk c cs t g H (.inr (by simpa[aZ.ty,aZ.eB]using ht)),h.ln,h.kd⟩
theorem zK.aF{l:List AW}{v:aeM}{m':M}(h:zK m l v)(H:Ext m m'):zK m' l v:=h.aY λ_ _ _ _ hc _=>H.cells hc
theorem Az{us:List Un}{ms:List Mk}{a:Ac}:∀{l:List Ac},fT us ms (l++ [a])=(fT us ms l).bind λp=>rE p.1 p.2 a
 |[]=>by
  simp only[ab6,fT]
  grind
 |b::r=>by
  rw[aci,fT,fT]
  cases rE us ms b with
  |none=>rfl
  |some p=>exact Az
theorem AA{us:List Un}{ms:List Mk}{q:List Ac}:∀{l:List Ac},fT us ms l=none->fT us ms (l++q)=none
 |[],h=>by cases h
 |b::r,h=>by
  rw[aci,fT]
  rw[fT]at h
  cases e:rE us ms b with
  |none=>rfl
  |some p=>
   rw[e]at h
   exact AA h
theorem gR.dG{vs:List Un}{H:List Mk}{m':M}{r r2:aeM}(h:gR vs H m' (.agg #[r,r2]))(hf:D.dG (.agg #[r,r2]))(m:M):gR vs H m (.agg #[r,r2]):=
 gR.flat (t:=aeR) h (by show(D.dG (.agg #[r,r2]) && (true && true))=true;rw[hf];rfl) m
def uj(D:Option (List Un×List Mk))(m':M)(H:aeM):Prop:=match D with
 |some (vs,ns)=>∃r r2 n,H=.tuple #[.agg #[r,r2],.int .i64 n,.int .i64 0]/\gR vs ns m' (.agg #[r,r2])
 |none=>∃n,H=.tuple #[.agg #[.slice none 0 0,.slice none 0 0],.int .i64 n,.int .i64 170]
theorem uj.flat{D:Option (List Un×List Mk)}{m':M}{v t u:aeM}(h:uj D m' (.tuple #[v,t,u]))(hf:bB (.tuple #[v,t,u]))(m:M):uj D m (.tuple #[v,t,u]):=by
 unfold uj at h⊢;split at h
 ·have⟨r,r2,n,e,hs⟩:=h;cases e;have H:(D.dG (.agg #[r,r2]) && (true && (true && true))):=hf;rw[abc]at H;exact⟨r,r2,n,rfl,hs.dG H.1 m⟩
 exact h
theorem QV{D:Option (List Un×List Mk)}{m':M}{v t u:aeM}{lo:Nat}{Q:Prop}(hQ:Q)(h:uj D m' (.tuple #[v,t,u]))(H:m.n<=lo)(hx:Ext m m'):
  (bB (bC [v,t,u])/\m.n<=lo/\(Q/\Ext m m/\uj D m (bC [v,t,u])))\/((bB (bC [v,t,u])=false\/lo < m.n)/\(min m.n lo=m.n/\Ext m m'/\uj D m' (bC [v,t,u]))):=by
 cases hf:bB (bC [v,t,u]);·exact .inr ⟨.inl rfl,by omega,hx,h⟩
 exact .inl ⟨rfl,H,hQ,.refl,h.flat hf m⟩
set_option maxHeartbeats 1000000 in
theorem Nk(hX:cC X){l:List UW}{ms:List Mk}{v vm va:aeM}{H:List AW}(hF:dg m l v)(hP:cn (bP l))(hm:Sl m ms vm)(hM:iV (bP l) ms)(ha:zK m H va)(O1:H.length<=40):
  ∃rv m',C X (.func 134) [.agg #[v,vm],va] m m.n rv m'/\Ext m m'/\uj (fT (bP l) ms (H.map AW.a)) m' rv:=by
 have F1:l.length<=12:=by have:=hP.len;rwa[cS]at this
 have P1:=hM.len;have key:=Cl.iX (E:=TE) (X:=X) (f:=134) (args:=[.agg #[v,vm],va]) (m:=m) (R:=λrv m' b=>b=m.n/\Ext m m'/\uj (fT (bP l) ms (H.map AW.a)) m' rv) (hX.no _ rfl) (aa3 func134) rfl ?_
 ·obtain⟨rv,m',b,hc,rfl,h⟩:=key;exact⟨rv,m',hc,h⟩
 rw[aan];dsimp only[δ,ζ,η,θ,ι,κ,ξ,ο,ρ,ς,υ,φ,χ,ψ,ω];refine av λm1 T1 b1 a2=>?_;refine av λm2 b2 c1 d1=>?_;have i0:Ext m m2:=⟨by omega,by grind⟩
 have g1:m2.get m.n=.cells [v,vm] 33 none:=by rw[d1 _ (by omega)];exact b1
 have gz:m2.get m1.n=.cells [aeQ,aeQ] 33 none:=c1;unfold ptrTo;rw[(kD g1).2.2.2,ae];refine aE (kW hX (hF.aF i0) (by omega) (hm.aF i0) (by omega)) ?_;rw[fH hP,fY.2 hM,bj,ae,aj];show iW false _ _;rw[aO,(kD g1).2.2.2,ae];obtain⟨acc,q,q2,m14,i1,A0,j1,f14,B0⟩:=Bj hX (hF.aF i0) (by omega) (hm.aF i0) (by omega);refine aE i1 ?_;have n14:=A0.n;refine av λm16 G1 C0 H1=>?_;refine aC fJ C0 rfl rfl (by show(one q && (one q2 && true))=true;rw[f14.sl.one,B0.one];rfl) λm17 I1 a0 J1=>?_;have a0:m17.get m14.n=.cells [q,q2] 33 none:=a0;obtain⟨S,hS⟩:∃S,S=m14.n:=⟨_,rfl⟩
 rw[<-hS]at a0⊢;have l0:Ext m14 m17:=⟨by omega,by grind⟩
 have c2:m2.n<=S:=by omega
 have D0:m.n<=min (min (min m.n m2.n) m2.n) m14.n:=by omega
 generalize min (min (min m.n m2.n) m2.n) m14.n=d2 at D0;have E0:gR (bP l) ms m17 (.agg #[q,q2]):=⟨acc,q,q2,rfl,j1,f14.aF l0,B0.aF l0⟩
 have k1:∀c,c < S->m17.get c=m14.get c:=λc hc=>l0.get c (by omega)
 refine Lp.intro (γ:=Nat) (λi=>H.length-i) (λi vs mm lo=>∃z1 z2 r r2 ws ns,vs=[z1,z2,.int .i64 i]/\i<=H.length/\(∀c,c < S->mm.get c=m14.get c)/\S < mm.n/\m.n<=lo/\mm.get S=.cells [r,r2] 33 none/\gR ws ns mm (.agg #[r,r2])/\fT (bP l) ms ((H.take i).map AW.a)=some (ws,ns)) 0
  ⟨_,_,q,q2,_,_,rfl,abh _,k1,by omega,by omega,a0,E0,rfl⟩ ?_
 rintro i vs mm lo ⟨z1,z2,r,r2,ws,ns,rfl,hi,hk,g2,D0,gS,v0,b0⟩;have⟨l1,p1⟩:=Hv hP hM b0;have y0:Ext m2 mm:=⟨by omega,λc hc=>by rw[hk c (by omega),A0.get c hc]⟩
 have j0:=(ha.aF i0).aF y0;have F0:=y0.cells gz
 have bad:∀{z0:M} {n0:Nat} {n:Int} {Q:Prop},Q->z0.get m1.n=.cells [aeQ,aeQ] 33 none->m.n<=n0->fT (bP l) ms (H.map AW.a)=none->
   ai (aJ TE 33 []) λv=>aP (aD TE z0 33 (.pointer (some ⟨m1.n,0,none⟩)) v) λm' b=>ai (ah TE m' 33 (.pointer (some ⟨m1.n,0,none⟩))) λv'=>
    (bB (bC [v',.int .i64 n,.int .i64 170])=true/\m.n<=min n0 b/\(Q/\Ext m m/\uj (fT (bP l) ms (H.map AW.a)) m (bC [v',.int .i64 n,.int .i64 170])))\/((bB (bC [v',.int .i64 n,.int .i64 170])=false\/min n0 b < m.n)/\(min m.n (min n0 b)=m.n/\Ext m m'/\uj (fT (bP l) ms (H.map AW.a)) m' (bC [v',.int .i64 n,.int .i64 170]))):=by
  intro z0 n0 n Q hQ g K1 e
  rw[qK,ae]
  refine aC fJ g rfl rfl rfl λm' i2 r1 j2=>?_
  rw[(kD r1).2.2.2,ae]
  exact .inl ⟨rfl,by omega,hQ,.refl,by unfold uj;rw[e];exact⟨n,rfl⟩⟩
 rw[aB,aB,aB,j0.sl.len M9,aA,aM,ae,aj];refine ak (λG0=>?_) (λu1=>?_)
 ·have G0:i < H.length:=by grind
  obtain⟨x,hx⟩:∃x,H[i]?=some x:=⟨_,aa5 G0⟩
  have d0:=abb hx
  have⟨p,e1,e2⟩:=YB j0.sl hx
  have v1:(H.take (i+1)).map AW.a=(H.take i).map AW.a++ [x.a]:=by rw[abt,hx,abM];rfl
  have q0:fT (bP l) ms ((H.take (i+1)).map AW.a)=rE ws ns x.a:=by rw[v1,Az,b0];rfl
  have H0:H.map AW.a=(H.take (i+1)).map AW.a++(H.drop (i+1)).map AW.a:=by rw[<-abM,ab5]
  rw[cB,ae,aj,abk (by omega),aO,(kD gS).2.2.2,ae,e1,ae,e2,ae]
  have⟨I0,r',k2,er,eu,ef,es⟩:=v0
  cases er
  have l2:I0.length<=12:=by have:=l1.len;rwa[<-eu,cS]at this
  have o2:=p1.len
  obtain⟨rv,w1,y1,r0,k0⟩:=JC (m:=mm) (a:=x.a) hX ef (by omega) es (by omega) (j0.sh x d0) (j0.ln x d0) (j0.kd x d0).1 (j0.kd x d0).2
  refine aE y1 ⟨aa4 _,?_⟩
  have n40:=r0.n
  rw[eu]at k0
  unfold nj at k0
  cases J0:rE ws ns x.a with
  |none=>rw[J0]at k0 q0;subst k0;rw[aH,aH];simp only[aa8,aa7,ae];refine av λA1 K0 o0 e0=>?_;refine aC fJ o0 rfl rfl rfl λs0 L0 g0 h0=>?_;rw[bR,ae,aj,abk (show¬(170:Int)=0 by decide),acx,bL];refine bad (by grind) ?_ (by omega) (by rw[H0];exact AA q0);rw[h0 _ (by omega),e0 _ (by omega),r0.get _ (by omega)];exact F0
  |some d=>
   have⟨B1,C1⟩:=d;rw[J0]at k0 q0;obtain⟨t1,t2,rfl,st⟩:=k0
   have o1:one t1=true/\one t2=true:=by have⟨_,_,_,e,_,h1,h2⟩:=st;cases e;exact⟨h1.sl.one,h2.one⟩
   rw[aH,aH];simp only[aa8,aa7,ae];refine av λA1 K0 o0 e0=>?_;refine aC fJ o0 rfl rfl (by show(one t1 && (one t2 && true))=true;rw[o1.1,o1.2];rfl) λs0 L0 g0 h0=>?_;have g0:s0.get w1.n=.cells [t1,t2] 33 none:=g0;rw[bR,ae,aj,abl (show(0:Int)=0 from rfl),ab7,aO,(kD g0).2.2.2,ae];have N0:s0.get S=.cells [r,r2] 33 none:=by rw[h0 _ (by omega),e0 _ (by omega),r0.get _ (by omega)];exact gS
   refine aC fJ N0 rfl rfl (by grind) λu2 L1 O0 u0=>?_;rw[aQ,ae,wrap64 (by omega) (by omega)];refine⟨i+1,by omega,z1,z2,t1,t2,B1,C1,by grind,by omega,λc hc=>by rw[u0 c (by omega),h0 c (by omega),e0 c (by omega),r0.get c (by omega),hk c hc],by omega,by omega,O0,?_,q0⟩;refine st.aY λc cs t g hc ht=>?_;have v2:=M.bk hc;have D1:s0.get c=.cells cs t g:=by grind
   rw[u0 c (λe=>by grind),D1]
 have E1:i=H.length:=by have:¬(i:Int)< (H.length:Int):=aa6 u1;omega
 subst E1;rw[abR]at b0;rw[(kD gS).2.2.2,ae,aA]
 have o1:one r=true/\one r2=true:=by have⟨_,_,_,e,_,h1,h2⟩:=v0;cases e;exact⟨h1.sl.one,h2.one⟩
 refine aC fJ F0 rfl rfl (by show(one r && (one r2 && true))=true;rw[o1.1,o1.2];rfl) λQ0 N1 p0 a1=>?_;have p0:Q0.get m1.n=.cells [r,r2] 33 none:=p0;rw[(kD p0).2.2.2,ae];refine QV (m':=Q0) (by grind) ?_ (by omega) ⟨by omega,λc hc=>by rw[a1 c (by omega),y0.get c (by omega),i0.get c hc]⟩;unfold uj;rw[b0];exact⟨r,r2,_,rfl,v0.aY λc cs t g hc ht=>by grind⟩
def vU(u v:Un):Bool:=(ew u v).isSome
def zL(D:Option (List Ac))(m':M)(H:aeM):Prop:=match D with
 |some L=>∃al v,H=.tuple #[v,.bool true]/\al.map AW.a=L/\zK m' al v
 |none=>∃v,H=.tuple #[v,.bool false]
theorem zK.nil{m:M}:zK m [] aeQ:=⟨.nil,λx H=>(by cases H),λx H=>(by cases H),λx H=>(by cases H)⟩
theorem zL.flat{D:Option (List Ac)}{m':M}{v t:aeM}(h:zL D m' (.tuple #[v,t]))(hf:bB (.tuple #[v,t]))(m:M):zL D m (.tuple #[v,t]):=by
 unfold zL at h⊢;split at h
 ·have⟨al,v',e,e1,hs⟩:=h
  cases e
  have h1:=hs.sl
  obtain⟨a,c,rfl⟩:=h1.form
  cases a with
  |some a=>exact absurd (show(false && (true && true))=true from hf) (by decide)
  |none=>
   have hv:Go.D.bF (.slice none al.length c):=by
    have a0:(Go.D.bF (.slice none al.length c) && (true && true)):=hf
    grind
   have⟨e2,e3⟩:=oZ h1 hv m;subst e2;exact⟨[],_,rfl,e1,⟨e3,λx H=>(by cases H),λx H=>(by cases H),λx H=>(by cases H)⟩⟩
 exact h
theorem FU{x:AW}:aG TE m 146 1 [(0,x.v)]=some (.slice (some ⟨m.n,0,none⟩) 1 1,m.push (.cells x.c 184 none)):=by kernel_rfl
theorem Tt{x y:AW}:aG TE m 146 2 [(0,x.v),(1,y.v)]=some (.slice (some ⟨m.n,0,none⟩) 2 2,m.push (.cells (x.c++y.c) 184 none)):=by kernel_rfl
theorem TG{x y:AW}{b:Nat}{g:Option Nat}(h:m.get b=.cells (x.c++y.c) 184 g)(h1:one x.w)(H:one y.w):Sl m [x,y] (aeL b 0 2 2):=
 .inr ⟨b,0,2,_,g,rfl,h,aa4 _,λi z hi=>by
  match i with
  |0=>cases hi;exact⟨rfl,h1⟩
  |1=>cases hi;exact⟨rfl,H⟩
  |i+2=>simp at hi⟩
theorem yJ{x:AW}{P:aeM->M->Prop}(h1:one x.w)(hs:Sl m x.a.un.shape x.w)(hl:x.a.un.shape.length < 1000000)(hk:x.a.kind≠3/\x.a.kind≠4)
  (hP:∀m1,Ext m m1->m1.n=m.n+1->m1.get m.n=.cells x.c 184 none->zK m1 [x] (aeL m.n 0 1 1)->P (aeL m.n 0 1 1) m1):
  aP (aG TE m 146 1 [(0,x.v)]) P:=by rw[FU,aA];have H:Ext m (m.push (.cells x.c 184 none)):=Ext.refl.push;have hg:(m.push (.cells x.c 184 none)).get m.n=.cells x.c 184 none:=M.aU;exact hP _ H M.mr hg ⟨iD hg ⟨rfl,h1⟩,λy hy=>by rw[abE.1 hy];exact hs.aF H,by grind,by grind⟩
theorem zx{k id:Int}:aJ TE 184 [(0,aeP k),(2,aeP id)]=some (AW.v ⟨lR k id,aeQ⟩):=Ab rfl rfl
theorem GR{u:Un}{w:aeM}:aJ TE 184 [(0,aeP 1),(1,u.v w)]=some (AW.v ⟨fP u,w⟩):=Ad rfl rfl
theorem Wq{x:Mk}:aJ TE 184 [(0,aeP 5),(5,x.v)]=some (AW.v ⟨kg x,aeQ⟩):=Aa rfl rfl
theorem zy{a b:Int}:aJ TE 53 [(0,aeP a),(1,aeP b)]=some (Fc.v ⟨a,b⟩):=CR rfl rfl
theorem pJ{α:Type}{p:α->Bool}:∀{l:List α} {i:Nat} {x:α},l[i]?=some x->p x->(∀j y,j < i->l[j]?=some y->p y=false)->l.find? p=some x
 |[],i,x,h,_,_=>by grind
 |a::l,0,x,h,H,_=>by grind
 |a::l,i+1,x,h,H,hn=>by
  rw[List.find?_cons,hn 0 a (by omega) rfl]
  exact pJ (by simpa using h) H λj y hj hy=>hn (j+1) y (by omega) (by grind)
structure Lw(us:List Un)(id:Int)(m':M)(u:Un)(w:aeM)(b:Bool):Prop where
 sl:Sl m' u.shape w
 ln:u.shape.length < 1000000
 eq:cj us id=if b=true then some u else none
 z:b=false->u=.z
theorem eZ.S9{us:List Un}{id:Int}{m':M}{H:aeM}(h:eZ us id m' H)(hP:cn us):∃u w b,H=.tuple #[u.v w,.bool b]/\Lw us id m' u w b:=by
 unfold eZ at h
 cases e:cj us id with
 |none=>rw[e]at h;exact⟨.z,aeQ,false,h,.nil,by decide,by grind,λ_=>rfl⟩
 |some u=>rw[e]at h;have⟨w,h1,h2⟩:=h;have:=jt (hP.val u (gd e).1);exact⟨u,w,true,h1,h2,by omega,by grind,λh=>by cases h⟩
theorem Lw.aF{us:List Un}{id:Int}{m' m'':M}{u:Un}{w:aeM}{b:Bool}(h:Lw us id m' u w b)(H:Ext m' m''):Lw us id m'' u w b:=⟨h.sl.aF H,h.ln,h.eq,h.z⟩
theorem Ry{u:Un}:(fP u).kind≠3/\(fP u).kind≠4:=⟨(by decide:(1:Int)≠3),(by decide:(1:Int)≠4)⟩
theorem Y0{x:Mk}:(kg x).kind≠3/\(kg x).kind≠4:=⟨(by decide:(5:Int)≠3),(by decide:(5:Int)≠4)⟩
theorem Oy{k id:Int}(h:k≠3/\k≠4):(lR k id).kind≠3/\(lR k id).kind≠4:=h
theorem Kj:([]:List Pl).length < 1000000:=by decide
theorem T9{b:Nat}{x:Mk}{g:Option Nat}(h:m.get b=.cells x.c 137 g):ah TE m 4 (aeK b (0+4))=some (.bool x.LB):=by rw[vg,aI h];rfl
set_option maxHeartbeats 4000000 in
theorem Lq(hX:cC X){y:Yd}{r r2 st rc mo:aeM}{t:Tk}{w:aeM}(hV:oO m y r r2 st rc mo)(hP:rz y)(hw:Sl m t.un.shape w)(o5:t.un.shape.length < 100000)(r5:1<=t.kind/\t.kind<=9):
  ∃rv m',C X (.func 133) [yv r r2 st rc mo,t.v w] m m.n rv m'/\Ext m m'/\zL (jc vU dq cT y t) m' rv:=by
 have key:=Cl.iX (E:=TE) (X:=X) (f:=133) (args:=[yv r r2 st rc mo,t.v w]) (m:=m) (R:=λrv m' b=>b=m.n/\Ext m m'/\zL (jc vU dq cT y t) m' rv) (hX.no _ rfl) (aa3 func133) rfl ?_
 ·obtain⟨rv,m',b,hc,rfl,h⟩:=key;exact⟨rv,m',hc,h⟩
 have M2:=hV.fB;have⟨⟨l,s0,hF⟩,L0,⟨kl,P1,hK⟩,N2,B3⟩:=hV;have O2:cn (bP l):=by rw[s0];exact hP.tR
 have N4:l.length<=12:=by have:=hP.tR.len;rwa[<-s0,cS]at this
 have O4:kl.length<=12:=by have:=hP.Tx;rwa[<-P1,tG]at this
 have R4:=hP.TJ;have W4:=hP.WQ;have C3:=hP.HO.len
 have H:∀R:aeN->M->Nat->Prop,(∀(v:aeM) (b:Bool) (m':M) (lo:Nat),m.n<=lo->Ext m m'->zL (jc vU dq cT y t) m' (.tuple #[v,.bool b])->R [v,.bool b] m' lo)->dE TE (aL TE X) f133 [yv r r2 st rc mo,t.v w] m R:=by
  intro R hR;rw[aao];dsimp only[aL,aaO,aaP,aaQ,aaR,aaS,aaT,aaU,aaV,aaW,aaX,aaY,aaZ,aa0,aa1,aa2,Γ,Δ,Θ,ψ,ω];refine av λm1 u5 P2 D3=>?_;refine av λm2 v5 Q2 T2=>?_;have d3:Ext m m2:=⟨by omega,by grind⟩
  have g1:m2.get m.n=.cells (yc r r2 st rc mo) 38 none:=by rw[T2 _ (by omega)];exact P2
  have g2:m2.get m1.n=.cells (t.c w) 62 none:=Q2;clear P2 D3 Q2 T2;unfold ptrTo;simp only[cX,eW,eh,iP,bZ,cN,bO,cz,dI,ck,cG,cF,dk,bs,ae];rw[(fF g1).1,ae,(oK g2).2.1,ae];obtain⟨rv,m8,c8,x8,f8⟩:=jm (m:=m2) hX (hF.aF d3) (by omega) L0.one t.id;refine aE c8 ?_;obtain⟨u,wu,is,rfl,fu⟩:=f8.S9 O2;have n8:=x8.n;rw[aH,aH];simp only[aa8,aa7,ae];refine av λm12 a5 G1 T1=>?_;refine aC du G1 rfl rfl (Un.cR fu.sl.one) λm13 b5 H1 g3=>?_;have gu:m13.get m8.n=.cells (u.c wu) 60 none:=H1;have N0:Ext m8 m13:=⟨by omega,by grind⟩
  have z0:=x8.trans N0;have d0:=d3.trans z0;have g1:=z0.cells g1;have g2:=z0.cells g2;have fu:=fu.aF N0;have n13:=N0.n;clear G1 T1 H1 g3;have⟨tk,tid,Lx,E3,w5⟩:=oK g2;rw[s0]at fu;have d2:m.n<=min (min m.n m2.n) m8.n:=by omega
  generalize min (min m.n m2.n) m8.n=F3 at d2;obtain⟨D,hD⟩:∃D,D=jc vU dq cT y t:=⟨_,rfl⟩
  rw[<-hD]at hR;unfold jc at hD;have G3:(cj y.us t.id).isSome=is:=by rw[fu.eq];cases is <;>rfl
  rw[tk,ae,aS,ae,aj];refine ak (λk1=>?_) (λk1=>?_)
  ·rw[abe (aba k1)]at hD;rw[rB g2,ae,GR,ae];refine yJ (x:=⟨fP t.un,w⟩) hw.one (hw.aF d0) (by show t.un.shape.length < 1000000;omega) Ry λm22 k0 n22 _ a22=>?_;rw[(fF (k0.cells g1)).2.2.2.2,ae,(vM (k0.cells g2)).1,ae];refine aE (vO (y:=y) hX (hK.aF (d0.trans k0)).sl (by omega) M2 _) ⟨aa4 _,?_⟩;rw[aM,ae,RD];have e:(y.st.any λk=>decide (k.un.id=t.un.id))=kl.any λx=>decide (x.u.id=t.un.id):=by rw[<-P1];unfold Qo;rw[List.any_map];rfl
   rw[e]at hD;refine hR _ _ _ _ (by omega) (d0.trans k0) ?_;cases hc:kl.any λx=>decide (x.u.id=t.un.id)
   ·rw[abd (by grind)]at hD;rw[hD];exact⟨_,_,rfl,rfl,a22⟩
   rw[abe hc]at hD;rw[hD];exact⟨_,rfl⟩
  rw[abd (aa6 k1)]at hD;rw[aS,ae,aj];refine ak (λk2=>?_) (λk2=>?_)
  ·rw[abe (aba k2),G3]at hD
   refine aW (λvs mm lo=>∃v b,vs=[v,.bool b]/\m.n<=lo/\Ext m mm/\zL D mm (.tuple #[v,.bool b])) (λQ hQ=>?_) ?_
   ·rw[tid,ae,zx,ae];refine yJ (x:=⟨lR 2 t.id,aeQ⟩) rfl .nil Kj (Oy (by decide)) λm22 k0 n22 _ a22=>?_;rw[aj];refine ak (λc=>?_) (λc=>hQ _ _ _ ⟨_,_,rfl,by omega,d0.trans k0,by rw[abd (by grind)]at hD;rw[hD];exact⟨_,rfl⟩⟩);rw[(fF (k0.cells g1)).2.1,ae,(hK.aF (d0.trans k0)).sl.len gZ,aA,aM,ae];refine hQ _ _ _ ⟨_,_,rfl,by omega,d0.trans k0,?_⟩;rw[c,abG]at hD;have e:y.st.length=kl.length:=by grind
    by_cases n0:kl.length < 12
    ·rw[abe (by grind)]at hD;rw[hD,abl (show(kl.length:Int)< 12 by omega)];exact⟨_,_,rfl,rfl,a22⟩
    rw[abd (by grind)]at hD;rw[hD,abk (show¬(kl.length:Int)< 12 by omega)];exact⟨_,rfl⟩
   rintro _ mm lo ⟨v,b,rfl,h1,h2,h3⟩
   rw[aB,aB]
   grind
  rw[abd (aa6 k2)]at hD;rw[aS,ae,aj];refine ak (λk3=>?_) (λk3=>?_)
  ·rw[abe (aba k3)]at hD;rw[(fF g1).2.2.2.2,ae,tid,ae];have u0:=hK.aF d0;refine aE (vO (y:=y) hX u0.sl (by omega) M2 _) ?_
   have e0:∀p:KW->Bool,(∀x,p x=decide (x.u.id=t.id))->(y.st.find? λk=>decide (k.un.id=t.id))=(kl.find? p).map KW.k:=λp hp=>by
    rw[<-P1];unfold Qo
    rw[List.find?_map]
    congr 2
    funext x
    exact(hp x).symm
   rcases kL (λx:KW=>decide (x.u.id=t.id)) kl with⟨e1,e2⟩ |⟨i,x,e1,e2,e3,e4⟩
   ·rw[e1,aM,ae,aj,abl (by decide),bL];have:kl.find? (λx:KW=>decide (x.u.id=t.id))=none:=adA.2 λx hx=>by grind
    rw[e0 _ λ_=>rfl,this]at hD;exact hR _ _ _ _ (by omega) d0 (by rw[hD];exact⟨_,rfl⟩)
   rw[e0 _ λ_=>rfl,pJ e2 e3 e4]at hD;have hD:D=some (fP x.u::x.ms.map kg):=hD;have J0:=abb e2;rw[e1,aM,ae,aj,abk (by omega),aO,(fF g1).2.1,ae];have⟨b0,o0,bc,g0,cs,q1,q2,q3,q4,q5⟩:=u0.sl.gM gZ (k:=.i64) e2;obtain⟨rfl,o1,o2⟩:cs=x.c/\one x.w=true/\one x.mv=true:=q3;have y5:=M.bk q2;rw[q1,ae,cq,ae];have q4:o0+7<=bc.length:=q4
   have lu:ah TE m13 60 (.pointer (some ⟨b0,o0+0,none⟩))=some (x.u.v x.w):=by
    rw[qB,aN (n:=6) q2 (by omega)]
    have:(bc.drop (o0+0)).take 6=x.u.c x.w:=by
     apply aco;intro j;rw[ad4];split
     ·rename_i hj
      rw[acz,acY,q5 j (by show j < 7;omega)]
      match j,hj with
      |0,_=>rfl
      |1,_=>rfl
      |2,_=>rfl
      |3,_=>rfl
      |4,_=>rfl
      |5,_=>rfl
      |j+6,hj=>omega
     rename_i hj;exact(ace (by grind)).symm
    rw[this];rfl
   rw[lu,ae,GR,ae];refine yJ (x:=⟨fP x.u,x.w⟩) o1 (u0.sh x J0) (u0.ln x J0) Ry λm64 H3 z5 I3 a64=>?_
   have d5:x.ms.length<=20:=by
    have hm:x.k∈y.st:=by grind
    exact(hP.Gd _ hm).len
   refine Lp.intro (γ:=Nat) (λj=>x.ms.length-j) (λj vs mm lo=>∃v,vs=[v,.int .i64 j]/\j<=x.ms.length/\Ext m13 mm/\m.n<=lo/\Ap m13.n mm (⟨fP x.u,x.w⟩::(x.ms.take j).map λk=>(⟨kg k,aeQ⟩:AW)) v) 0 ⟨_,rfl,abh _,H3,by omega,.inr ⟨_,_,_,rfl,I3,a64.sl⟩⟩ ?_;rintro j vs mm lo ⟨v,rfl,hj,h0,j0,i2⟩;have nm:=h0.n;have D1:=u0.aF h0
   have lm:ah TE mm 31 (.pointer (some ⟨b0,o0+6,none⟩))=some x.mv:=by rw[nN,aI (h0.cells q2)];exact q5 6 (by show 6 < 7;decide)
   rw[aB,aB,(fF (h0.cells g1)).2.1,ae,q1,ae,eG,ae,lm,ae,(D1.mv x J0).len dU,aA,aM,ae,aj];refine ak (λn0=>?_) (λA0=>?_)
   ·have n0:j < x.ms.length:=by grind
    obtain⟨z,hz⟩:∃z,x.ms[j]?=some z:=⟨_,aa5 n0⟩
    have⟨p,p1,p2⟩:=(D1.mv x J0).wE (k:=.i64) hz;rw[ae,q1,ae,eG,ae,lm,ae,p1,ae,p2,ae,Wq,ae,FU,aA];obtain⟨i3,O0⟩:∃q,q=mm.push (.cells (AW.c ⟨kg z,aeQ⟩) 184 none):=⟨_,rfl⟩
    rw[<-O0];have I0:Ext mm i3:=O0 ▸ Ext.refl.push;have j3:i3.get mm.n=.cells (AW.c ⟨kg z,aeQ⟩) 184 none:=by rw[O0];exact M.aU
    obtain⟨v',A5,s1,s2,s3,s4,s5⟩:=(i2.aF I0).append P8 rfl (iD (x:=(⟨kg z,aeQ⟩:AW)) j3 ⟨rfl,rfl⟩) (by simp) (by have:=I0.n;omega) (by grind);rw[s1,aA,aQ,ae,wrap64 (by omega) (by omega)];have:=I0.n;refine⟨j+1,by omega,v',by grind,by omega,⟨by omega,λc hc=>by rw[s5 c hc,I0.get c (by omega),h0.get c hc]⟩,by omega,.inl ?_⟩;rw[abt,hz,abM];exact s2
   have B0:j=x.ms.length:=by have:¬(j:Int)< (x.ms.length:Int):=aa6 A0;omega
   subst B0;rw[abR]at i2;refine hR _ _ _ _ j0 (d0.trans h0) ?_;rw[hD];refine⟨_,_,rfl,by simp_all,i2.sl,λa ha=>?_,λa ha=>?_,λa ha=>?_⟩
   ·rcases abp.1 ha with rfl |ha;·exact D1.sh x J0
    obtain⟨k,_,rfl⟩:=abQ.1 ha;exact .nil
   ·rcases abp.1 ha with rfl |ha;·exact D1.ln x J0
    obtain⟨k,_,rfl⟩:=abQ.1 ha;exact Kj
   rcases abp.1 ha with rfl |ha;·exact Ry
   obtain⟨k,_,rfl⟩:=abQ.1 ha;exact Y0
  rw[abd (aa6 k3)]at hD;rw[aS,ae,aj];refine ak (λk4=>?_) (λk4=>?_)
  ·rw[abe (aba k4),fu.eq]at hD;have l3:=hF.aF d0;refine Lp.intro (γ:=Nat) (λj=>l.length-j) (λj vs mm lo=>∃z1 z2,vs=[z1,z2,.int .i64 j]/\j<=l.length/\Ext m13 mm/\m.n<=lo/\(is=true->((bP (l.take j)).all λv=> !vU u v ||dq t.dA v.dA)=true)) 0 ⟨_,_,rfl,abh _,.refl,by omega,λ_=>rfl⟩ ?_;rintro j vs mm lo ⟨z1,z2,rfl,hj,h0,j0,q0⟩;have nm:=h0.n;have E1:=l3.aF h0;rw[aB,aB,aB,(xR (h0.cells g1)).2.1,ae,E1.sl.len dF,aA,aM,ae,aj];refine ak (λn0=>?_) (λA0=>?_)
   ·have n0:j < l.length:=by grind
    obtain⟨x,hx⟩:∃x,l[j]?=some x:=⟨_,aa5 n0⟩
    have j2:=abb hx;have⟨q,q1,q2,ow⟩:=E1.sl.gj (k:=.i64) hx;rw[ae,q1,ae,q2,ae];refine av λe5 J3 v2 K3=>?_;refine aC du v2 rfl rfl (Un.cR ow) λQ0 L3 y2 N3=>?_;have I1:Q0.get mm.n=.cells (x.u.c x.w) 60 none:=y2;have d1:Ext mm Q0:=⟨by omega,λc hc=>by grind⟩
    have C0:=h0.trans d1;rw[bT (C0.cells gu),ae,bT I1,ae];refine aE (qp hX (fu.aF C0).sl ((E1.sh x j2).aF d1) fu.ln (E1.ln x j2)) ?_;rw[aH,aH];simp only[aa8,aa7,ae];refine av λf5 O3 A2 d4=>?_;refine aC oT A2 (by rw[aT];exact eP _) (by rw[aT];exact eP _) (by rw[aT];exact nW _) λJ1 f4 g4 h4=>?_;have i1:Ext Q0 J1:=⟨by omega,λc hc=>by grind⟩
    have i0:=C0.trans i1;have j4:bP (l.take (j+1))=bP (l.take j)++ [x.u]:=by unfold bP;rw[abt,hx,abM];rfl
    refine aW (λvs m' K0=>vs=[.bool (is && (vU u x.u && !dq t.dA x.u.dA))]/\J1=m'/\m.n<=K0) (λQ hQ=>?_) ?_
    ·rw[aj];refine ak (λc=>?_) (λc=>hQ _ _ _ ⟨by grind,rfl,by omega⟩);rw[aj];refine ak (λd=>?_) (λd=>hQ _ _ _ ⟨by unfold vU;rw[d,acS,adC],rfl,by omega⟩);rw[(oK (i0.cells g2)).2.2.2.2,ae,cL,ae,(kU (i1.cells I1)).2.2.1,ae];refine aE (Fs hX _ _) ?_;rw[bj,ae];exact hQ _ _ _ ⟨by unfold vU;rw[c,d];rfl,rfl,by omega⟩
    rintro _ _ fS ⟨rfl,rfl,r0⟩;rw[aB,aj];refine ak (λc=>?_) (λc=>?_)
    ·rw[abc,abc]at c;have⟨ci,ct,cs⟩:=c;rw[ci,abe rfl,acC,abd]at hD;·exact hR _ _ _ _ r0 (d0.trans i0) (by rw[hD];exact⟨_,rfl⟩)
     intro q0;rw[<-s0,abw]at q0;have:=q0 x.u (abQ.2 ⟨x,j2,rfl⟩);rw[ct]at this;rw[abz]at cs;rw[cs]at this;cases this
    rw[aQ,ae,wrap64 (by omega) (by omega)];refine⟨j+1,by omega,z1,z2,by grind,by omega,i0,r0,λhi=>?_⟩;rw[j4,adV,q0 hi,abG];rw[hi,abG]at c;simp only[List.all_cons,List.all_nil,ad5];cases hr:vU u x.u;·rfl
    rw[hr,abG,abu]at c;rw[c];rfl
   ·have B0:j=l.length:=by
     have:¬(j:Int)< (l.length:Int):=aa6 A0
     omega
    subst B0
    rw[abR,s0]at q0
    rw[(oK (h0.cells g2)).2.2.2.2,ae,cL,ae]
    have m3:=h0.cells gu
    refine cg uz m3 rfl (by show 0+2+1<=6;decide) rfl λv0 l4 B2 D0=>?_
    have n3:v0.get m8.n=.cells (Un.c {u with dA:=t.dA} wu) 60 none:=B2
    have o3:m1.n≠m8.n:=by grind
    have r3:=(fu.aF h0).sl
    have F1:Sl v0 u.shape wu:=r3.aY λc cs t g hc ht=>by rw[D0 c (λe=>by subst e;rw[m3]at hc;cases hc;simp[aZ.ty,aZ.eB]at ht),hc]
    rw[(oK ((D0 _ o3).trans (h0.cells g2))).2.1,ae,zx,ae,bT n3,ae,GR,ae,Tt,aA]
    obtain⟨K1,E0⟩:∃q,q=v0.push (.cells (AW.c ⟨lR 2 t.id,aeQ⟩++AW.c ⟨fP {u with dA:=t.dA},wu⟩) 184 none):=⟨_,rfl⟩
    rw[<-E0]
    have F0:Ext v0 K1:=E0 ▸ Ext.refl.push
    have C2:K1.get v0.n=.cells (AW.c ⟨lR 2 t.id,aeQ⟩++AW.c ⟨fP {u with dA:=t.dA},wu⟩) 184 none:=by rw[E0];exact M.aU
    have n155:=F0.n
    refine hR _ _ _ _ (by omega) ⟨by omega,λc hc=>by rw[F0.get c (by omega),D0 c (by omega),h0.get c (by omega),d0.get c hc]⟩ ?_
    cases hi:is with
    |false=>rw[hi]at hD;rw[hD];exact⟨_,rfl⟩
    |true=>
     rw[hi,abe rfl,acC,abe (q0 hi)]at hD;rw[hD];refine⟨_,_,rfl,rfl,TG C2 rfl r3.one,λa ha=>?_,λa ha=>?_,λa ha=>?_⟩
     ·rcases abp.1 ha with rfl |ha;·exact .nil
      rw[abE.1 ha];exact F1.aF F0
     ·rcases abp.1 ha with rfl |ha;·exact Kj
      rw[abE.1 ha];exact fu.ln
     rcases abp.1 ha with rfl |ha;·exact Oy (by decide)
     rw[abE.1 ha];exact Ry
  rw[abd (aa6 k4)]at hD;rw[aS,ae,aj];refine ak (λk5=>?_) (λk5=>?_)
  ·rw[abe (aba k5)]at hD;have u3:=L0.aF d0;refine Lp.intro (γ:=Nat) (λj=>y.ms.length-j) (λj vs mm lo=>∃v,vs=[v,.int .i64 j]/\j<=y.ms.length/\Ext m13 mm/\m.n<=lo/\Ow m13.n mm (((y.ms.take j).filter (se t)).map λx=>(⟨lR 6 x.id,aeQ⟩:AW)) v) 0 ⟨_,rfl,abh _,.refl,by omega,Ow.nil⟩ ?_;rintro j vs mm lo ⟨v,rfl,hj,h0,j0,D2⟩;have nm:=h0.n;have v3:=u3.aF h0;rw[aB,aB,(xR (h0.cells g1)).2.2,ae,v3.len dU,aA,aM,ae,aj];refine ak (λn0=>?_) (λA0=>?_)
   ·have n0:j < y.ms.length:=by grind
    obtain⟨x,hx⟩:∃x,y.ms[j]?=some x:=⟨_,aa5 n0⟩
    have⟨p,p1,p2⟩:=v3.wE (k:=.i64) hx;refine aW (λvs m' K0=>∃v',vs=[v']/\Ext m13 m'/\m.n<=K0/\Ow m13.n m' (((y.ms.take (j+1)).filter (se t)).map λx=>(⟨lR 6 x.id,aeQ⟩:AW)) v') (λQ hQ=>?_) ?_
    ·rw[ae,p1,ae,p2,ae];refine av λg5 m4 E2 n4=>?_;refine aC uB E2 rfl rfl rfl λj1 o4 F2 r4=>?_;have L1:j1.get mm.n=.cells x.c 137 none:=F2;have r1:Ext mm j1:=⟨by omega,λc hc=>by grind⟩
     have i0:=h0.trans r1;obtain⟨a0,a1,a2,a3, -⟩:=Db L1;have a4:=T9 L1;obtain⟨-,b1, -,b3, -⟩:=oK (i0.cells g2);have N1:=D2.aF r1;refine aW (λvs m' K0=>vs=[.bool (se t x)]/\j1=m'/\m.n<=K0) (λQ' G0=>?_) ?_
     ·rw[dp,ae,a1,ae,b1,ae,aS,ae,aj];unfold se at G0;refine ak (λc1=>?_) (λc1=>G0 _ _ _ ⟨by grind,rfl,by omega⟩);rw[eF,ae,a2,ae,b3,ae,aS,ae,aj];refine ak (λc2=>?_) (λc2=>G0 _ _ _ ⟨by grind,rfl,by omega⟩);rw[ka,ae,a4,ae,aj];refine ak (λc3=>?_) (λc3=>G0 _ _ _ ⟨by grind,rfl,by omega⟩);rw[kb,ae,a3,ae,aS,ae,aj];refine ak (λc4=>G0 _ _ _ ⟨by grind,rfl,by omega⟩) (λc4=>?_);rw[ae,a3,ae,aS,ae,aj];refine ak (λc5=>G0 _ _ _ ⟨by grind,rfl,by omega⟩) (λc5=>?_);rw[ae,a3,ae,aS,ae];exact G0 _ _ _ ⟨by grind,rfl,by omega⟩
     rintro _ _ fS ⟨rfl,rfl,r0⟩;rw[aB,aj];refine ak (λc=>?_) (λc=>?_)
     ·rw[bW,ae,a0,ae,zx,ae]
      have B5:((y.ms.take j).filter (se t)).length<=j:=by have:=acn (se t) (y.ms.take j);rw[acr]at this;omega
      refine eT (T:=146) (x:=(⟨lR 6 x.id,aeQ⟩:AW)) P8 rfl N1 (by omega) (by grind) FU (λ_=>⟨rfl,rfl⟩) λr' h5 w2 n2 k2 C5 l2=>?_;refine hQ _ _ _ ⟨r',rfl,⟨by omega,λc hc=>by rw[k2 c hc,i0.get c hc]⟩,by omega,?_⟩;rw[abt,hx,abK,abM];simp only[ab9,abZ,c,acU,acK,acN,adp];exact w2
     refine hQ _ _ _ ⟨v,rfl,i0,r0,?_⟩;rw[abt,hx,abK,abM];simp only[ab9,abZ,c,acK,adp,abJ];simpa using N1
    rintro _ m' K0 ⟨v',rfl,h1,h2,h3⟩;rw[aB,aQ,ae,wrap64 (by omega) (by omega)];exact⟨j+1,by omega,v',by grind,by omega,h1,h2,h3⟩
   have B0:j=y.ms.length:=by have:¬(j:Int)< (y.ms.length:Int):=aa6 A0;omega
   subst B0;rw[abR]at D2;obtain⟨-,b1, -,b3, -⟩:=oK (h0.cells g2);rw[(fF (h0.cells g1)).1,ae,b1,ae,b3,ae];refine aE (Bc hX (hF.aF (d0.trans h0)) (by omega) L0.one _ _) ?_;rw[s0];refine hR _ _ _ _ (by omega) (d0.trans h0) ?_;cases hf:ze y.us t.id t.side
   ·rw[abd (by grind)]at hD;rw[hD];exact⟨_,rfl⟩
   rw[abe hf]at hD;rw[hD];refine⟨_,_,rfl,by simp_all,D2.sl,λa ha=>?_,λa ha=>?_,λa ha=>?_⟩;·obtain⟨k,_,rfl⟩:=abQ.1 ha;exact .nil
   ·obtain⟨k,_,rfl⟩:=abQ.1 ha;exact Kj
   obtain⟨k,_,rfl⟩:=abQ.1 ha;exact Oy (by decide)
  rw[abd (aa6 k5)]at hD;rw[aS,ae,aj];refine ak (λk6=>?_) (λk6=>?_)
  ·rw[abe (aba k6)]at hD;rw[tid,ae,zx,ae];refine yJ (x:=⟨lR 7 t.id,aeQ⟩) rfl .nil Kj (Oy (by decide)) λm22 k0 n22 _ a22=>?_;exact hR _ _ _ _ (by omega) (d0.trans k0) (by rw[hD];exact⟨_,_,rfl,rfl,a22⟩)
  rw[abd (aa6 k6)]at hD;rw[aS,ae,aj];refine ak (λk7=>?_) (λk7=>?_)
  ·rw[abe (aba k7)]at hD;rw[tid,ae,zx,ae];refine yJ (x:=⟨lR 6 t.id,aeQ⟩) rfl .nil Kj (Oy (by decide)) λm22 k0 n22 _ a22=>?_;exact hR _ _ _ _ (by omega) (d0.trans k0) (by rw[hD];exact⟨_,_,rfl,rfl,a22⟩)
  rw[abd (aa6 k7)]at hD;rw[aS,ae,aj];refine ak (λk8=>?_) (λk8=>?_)
  ·rw[abe (aba k8)]at hD;rw[tid,ae,E3,ae,zy,ae];refine av λi5 u4 G2 v4=>?_;refine aC sA G2 rfl rfl rfl λu1 w4 H2 y4=>?_;have w3:u1.get m13.n=.cells (Fc.c ⟨t.id,t.side⟩) 53 none:=H2;have p0:Ext m13 u1:=⟨by omega,λc hc=>by grind⟩
   have i0:=d0.trans p0;obtain⟨-,b1, -,b3, -⟩:=oK (p0.cells g2);have z4:y.rc.length < 1000000:=by omega
   refine aW (λvs mm lo=>∃b,vs=[aeQ,.bool b]/\u1=mm/\m.n<=lo/\D=if b=true then some []else none) (λQ hQ=>?_) ?_
   ·rw[(fF (p0.cells g1)).1,ae,b1,ae,b3,ae];refine aE (Bc hX (hF.aF i0) (by omega) L0.one _ _) ?_;rw[s0,aj];refine ak (λc=>?_) (λc=>hQ _ _ _ ⟨false,rfl,rfl,by omega,by grind⟩);rw[c,abG]at hD;rw[(fF (p0.cells g1)).2.2.1,ae,(N2.aF i0).len gH,aA,aM,ae,aj];refine ak (λd=>hQ _ _ _ ⟨true,rfl,rfl,by omega,?_⟩) (λd=>?_)
    ·have d:=aba d;rw[abe (by grind)]at hD;exact hD
    have d:=aa6 d;rw[(fF (p0.cells g1)).2.2.2.2,ae,(tP w3).2.2,ae];refine aE (qV hX (N2.aF i0) z4 _) ?_;refine hQ _ _ _ ⟨_,rfl,rfl,by omega,?_⟩;rw[abk (show¬y.rc.length < 60 by omega),adt]at hD;exact hD
   rintro _ _ lo ⟨b,rfl,rfl,y3,I2⟩;rw[aB,aB];refine hR _ _ _ _ y3 i0 ?_;rw[I2];cases b;·exact⟨_,rfl⟩
   exact⟨[],_,rfl,rfl,.nil⟩
  rw[abd (aa6 k8),fu.eq]at hD;rw[(fF g1).1,ae,Lx,ae];obtain⟨D5,v1,z3,O1,f280⟩:=jm (m:=m13) hX (hF.aF d0) (by omega) L0.one t.other;refine aE z3 ?_;obtain⟨u2,w2,E5,rfl,w1⟩:=f280.S9 O2;rw[s0]at w1;have n280:=O1.n;rw[aH,aH];simp only[aa8,aa7,ae];refine av λj5 A4 J2 B4=>?_;refine aC du J2 rfl rfl (Un.cR w1.sl.one) λy0 C4 K2 D4=>?_;have gv:y0.get v1.n=.cells (u2.c w2) 60 none:=K2;have y1:Ext v1 y0:=⟨by omega,λc hc=>by grind⟩
  have i0:=O1.trans y1;rw[bT (i0.cells gu),ae,bT gv,ae];refine aE (qp hX (fu.aF i0).sl (w1.aF y1).sl fu.ln w1.ln) ?_;rw[aH,aH];simp only[aa8,aa7,ae];refine av λl5 E4 L2 F4=>?_;refine aC oT L2 (by rw[aT];exact eP _) (by rw[aT];exact eP _) (by rw[aT];exact nW _) λA1 G4 H4 J4=>?_;have H0:Ext y0 A1:=⟨by omega,λc hc=>by grind⟩
  have B1:=i0.trans H0;have A3:=d0.trans B1;have n295:=H0.n;have C1:=B3.aF A3;obtain⟨-,b1,b2, -,b4⟩:=oK (B1.cells g2);have m5:m.n<=min (min (min (min F3 m13.n) v1.n) y0.n) y0.n:=by omega
  refine Lp.intro (γ:=Nat) (λj=>y.mo.length-j) (λj vs mm lo=>vs=[.bool ((y.mo.take j).any λx=>decide (x.a=t.id) && decide (x.b=t.other)),.int .i64 j]/\j<=y.mo.length/\A1=mm/\m.n<=lo) 0 ⟨rfl,abh _,rfl,by omega⟩ ?_;rintro j vs mm lo ⟨rfl,hj,rfl,j0⟩;rw[aB,aB,(fF (B1.cells g1)).2.2.2.1,ae,C1.len ny,aA,aM,ae,aj];refine ak (λn0=>?_) (λA0=>?_)
  ·have n0:j < y.mo.length:=by grind
   obtain⟨x,hx⟩:∃x,y.mo[j]?=some x:=⟨_,aa5 n0⟩
   obtain⟨b,o,e1, -,l0,l1⟩:=HN C1 hx
   have n5:((y.mo.take (j+1)).any λx=>decide (x.a=t.id) && decide (x.b=t.other))=(((y.mo.take j).any λx=>decide (x.a=t.id) && decide (x.b=t.other)) ||(decide (x.a=t.id) && decide (x.b=t.other))):=by rw[abt,hx,List.any_append];simp
   have ej:((j+1:Nat):Int)=(j:Int)+1:=by omega
   rw[aj];refine ak (λc=>?_) (λc=>?_)
   ·rw[aQ,ae,wrap64 (by omega) (by omega)];exact⟨j+1,by omega,by grind,by omega,rfl,j0⟩
   rw[ae,e1,ae,dQ,ae,l0,ae,b1,ae,aS,ae,aj];refine ak (λc1=>?_) (λc1=>?_)
   ·rw[ae,e1,ae,eH,ae,l1,ae,b2,ae,aS,ae,aQ,ae,wrap64 (by omega) (by omega)];exact⟨j+1,by omega,by grind,by omega,rfl,j0⟩
   rw[aQ,ae,wrap64 (by omega) (by omega)];exact⟨j+1,by omega,by grind,by omega,rfl,j0⟩
  have B0:j=y.mo.length:=by have:¬(j:Int)< (y.mo.length:Int):=aa6 A0;omega
  subst B0;rw[abR];obtain⟨A,hA⟩:∃A,A=y.mo.any λx=>decide (x.a=t.id) && decide (x.b=t.other):=⟨_,rfl⟩
  rw[<-hA]at hD⊢;have K4:=kU (B1.cells gu);have L4:=kU (H0.cells gv);refine aW (λvs mm lo=>∃b,vs=[aeQ,.bool b]/\A1=mm/\m.n<=lo/\D=if b=true then some []else none) (λQ hQ=>?_) ?_
  ·rw[aj];refine ak (λc=>?_) (λc=>hQ _ _ _ ⟨false,rfl,rfl,j0,by grind⟩);rw[c,abe rfl,acC,w1.eq]at hD;rw[aj];refine ak (λc2=>?_) (λc2=>hQ _ _ _ ⟨false,rfl,rfl,j0,by grind⟩);rw[c2,abe rfl,acC]at hD;rw[aj];unfold vU at hD;refine ak (λc3=>?_) (λc3=>hQ _ _ _ ⟨false,rfl,rfl,j0,by grind⟩);rw[c3,abG]at hD;rw[b4,ae,cL,ae,K4.2.2.1,ae];refine aE (vR hX _ _) ?_;rw[aj];refine ak (λc4=>?_) (λc4=>hQ _ _ _ ⟨false,rfl,rfl,by omega,by grind⟩);rw[c4,abG]at hD;rw[b4,ae,cL,ae,L4.2.2.1,ae];refine aE (vR hX _ _) ?_;rw[aj];refine ak (λc5=>?_) (λc5=>hQ _ _ _ ⟨false,rfl,rfl,by omega,by grind⟩);rw[c5,abG]at hD;rw[(fF (B1.cells g1)).2.2.2.1,ae,C1.len ny,aA,aM,ae,aj];refine ak (λc6=>hQ _ _ _ ⟨true,rfl,rfl,by omega,?_⟩) (λc6=>hQ _ _ _ ⟨A,rfl,rfl,by omega,?_⟩)
   ·have c6:=aba c6;rw[abe (by grind)]at hD;exact hD
   have c6:=aa6 c6;rw[abk (show¬y.mo.length < 20 by omega),adt]at hD;exact hD
  rintro _ _ fS ⟨b,rfl,rfl,r0,I2⟩;rw[aB,aB];refine hR _ _ _ _ r0 A3 ?_;rw[I2];cases b;·exact⟨_,rfl⟩
  exact⟨[],_,rfl,rfl,.nil⟩
 refine H _ λv b m' lo d2 hx hs=>?_;show(bB (.tuple #[v,.bool b])=true/\m.n<=lo/\(m.n=m.n/\Ext m m/\zL _ m (.tuple #[v,.bool b])))\/((bB (.tuple #[v,.bool b])=false\/lo < m.n)/\(min m.n lo=m.n/\Ext m m'/\zL _ m' (.tuple #[v,.bool b])));cases hf:bB (.tuple #[v,.bool b]);·exact .inr ⟨.inl rfl,by omega,hx,hs⟩
 exact .inl ⟨rfl,d2,rfl,.refl,hs.flat hf m⟩
theorem Qd{gG:Un->Un->Bool}{a0 H:Int->Int->Bool}{y:Yd}{t:Tk}{L:List Ac}(hP:rz y)(h:jc gG a0 H y t=some L):L.length<=40:=by
 have b0:=hP.HO.len;unfold jc at h;split at h
 ·grind
 split at h
 ·grind
 split at h
 ·obtain⟨k,hk,rfl⟩:=abq.1 h
  have:=(hP.Gd k (acV hk)).len
  grind
 split at h
 ·have⟨u,hu,h⟩:=ab3.1 h
  grind
 split at h
 ·grind
 split at h
 ·grind
 split at h
 ·grind
 split at h
 ·grind
 ·have⟨u,hu,h⟩:=ab3.1 h
  have⟨v,hv,h⟩:=ab3.1 h
  grind
noncomputable def jA(gG:Un->Un->Bool)(a0 H:Int->Int->Bool)(y:Yd)(t:Tk):Option (List Un×List Mk):=if dS t=true then(jc gG a0 H y t).bind λl=>fT y.us y.ms l else none
def zJ(D:Option (List Un×List Mk))(m':M)(H:aeM):Prop:=match D with
 |some (vs,ns)=>∃v r r2,H=.tuple #[v,.agg #[r,r2],.bool true]/\gR vs ns m' (.agg #[r,r2])
 |none=>∃v r r2,H=.tuple #[v,.agg #[r,r2],.bool false]/\one r=true/\one r2=true
theorem zJ.flat{D:Option (List Un×List Mk)}{m':M}{v t u:aeM}(h:zJ D m' (.tuple #[v,t,u]))(hf:bB (.tuple #[v,t,u]))(m:M):zJ D m (.tuple #[v,t,u]):=by
 unfold zJ at h⊢;split at h
 ·have⟨v',r,r2,e,hs⟩:=h;cases e;have H:(D.dG v && (D.dG (.agg #[r,r2]) && (true && true))):=hf;rw[abc,abc]at H;exact⟨v,r,r2,rfl,hs.dG H.2.1 m⟩
 exact h
set_option maxHeartbeats 1000000 in
theorem Hd(hX:cC X){y:Yd}{r r2 st rc mo:aeM}{t:Tk}{w:aeM}(hV:oO m y r r2 st rc mo)(hP:rz y)(hw:Sl m t.un.shape w)(q0:t.un.shape.length < 100000):
  ∃rv m',C X (.func 70) [yv r r2 st rc mo,t.v w] m m.n rv m'/\Ext m m'/\zJ (jA vU dq cT y t) m' rv:=by
 have key:=Cl.iX (E:=TE) (X:=X) (f:=70) (args:=[yv r r2 st rc mo,t.v w]) (m:=m) (R:=λrv m' b=>b=m.n/\Ext m m'/\zJ (jA vU dq cT y t) m' rv) (hX.no _ rfl) (aa3 func70) rfl ?_
 ·obtain⟨rv,m',b,hc,rfl,h⟩:=key;exact⟨rv,m',hc,h⟩
 have H:∀R:aeN->M->Nat->Prop,(∀(v t' u:aeM) (m':M) (lo:Nat),m.n<=lo->Ext m m'->zJ (jA vU dq cT y t) m' (.tuple #[v,t',u])->R [v,t',u] m' lo)->dE TE (aL TE X) f70 [yv r r2 st rc mo,t.v w] m R:=by
  intro R hR
  rw[F70];dsimp only[δ,ε,η,θ,ι,ξ,ο,ρ,ς,υ,φ,χ,Γ,ψ]
  refine av λm1 j1 r0 E0=>?_
  refine av λm2 k1 s0 u0=>?_
  refine av λm3 l1 v0 l0=>?_
  have e0:Ext m m3:=⟨by omega,by grind⟩
  have g1:m3.get m.n=.cells (yc r r2 st rc mo) 38 none:=by rw[l0 _ (by omega),u0 _ (by omega)];exact r0
  have g2:m3.get m1.n=.cells (t.c w) 62 none:=by rw[l0 _ (by omega)];exact s0
  have gz:m3.get m2.n=.cells [aeQ,aeQ] 33 none:=v0
  clear r0 E0 s0 u0 v0 l0
  unfold ptrTo
  have n0:=hV.aF e0
  have y0:=hw.aF e0
  have bad:∀{mm:M} {lo:Nat} {v:aeM},mm.get m2.n=.cells [aeQ,aeQ] 33 none->m.n<=lo->(∀c,c < m.n->mm.get c=m.get c)->m.n<=mm.n->jA vU dq cT y t=none->
    ai (aJ TE 33 []) λv20=>aP (aD TE mm 33 (.pointer (some ⟨m2.n,0,none⟩)) v20) λm21 F0=>ai (ah TE m21 33 (.pointer (some ⟨m2.n,0,none⟩))) λv23=>R [v,v23,aeS] m21 (min lo F0):=by
   intro mm lo v g i0 hk hn e
   rw[qK,ae]
   refine aC fJ g rfl rfl rfl λm' p1 G0 r1=>?_
   rw[(kD G0).2.2.2,ae]
   refine hR _ _ _ _ _ (by omega) ⟨by omega,by grind⟩ ?_
   rw[e]
   exact⟨v,_,_,rfl,rfl,rfl⟩
  refine aW (λvs mm lo=>vs=[.bool (!dS t)]/\m3=mm/\m.n<=lo) (λQ hQ=>?_) ?_
  ·rw[(fF g1).2.2.2.2,ae];refine aE (Fl hX n0 hP) ?_;rw[bj,ae,aj];show iW false _ _;rw[aO,gQ g2,ae];refine aE (Et hX y0 q0) ?_;rw[bj,ae];exact hQ _ _ _ ⟨rfl,rfl,by omega⟩
  rintro _ _ lo ⟨rfl,rfl,i0⟩
  rw[aB,aj]
  refine ak (λc=>?_) (λc=>?_)
  ·rw[abz]at c;exact bad gz i0 (λc hc=>e0.get c hc) (by omega) (by unfold jA;rw[abd (by grind)])
  rw[abu]at c
  have hS:jA vU dq cT y t=(jc vU dq cT y t).bind λl=>fT y.us y.ms l:=by unfold jA;rw[abe c]
  rw[(fF g1).2.2.2.2,ae,gQ g2,ae]
  have⟨rv,H0,I0,b0,a27⟩:=Lq (m:=m3) hX n0 hP y0 q0 (rU c)
  refine aE I0 ?_
  have n27:=b0.n
  unfold zL at a27
  cases hA:jc vU dq cT y t with
  |none=>rw[hA]at a27 hS;obtain⟨v,rfl⟩:=a27;rw[aH,aH];simp only[aa8,aa7,ae];rw[bj,ae,aj,acx,bL];exact bad (b0.cells gz) (by omega) (λc hc=>by rw[b0.get c (by omega),e0.get c hc]) (by omega) hS
  |some L=>
   rw[hA]at a27 hS
   obtain⟨al,v,rfl,hL,z0⟩:=a27
   have J0:al.length<=40:=by have:=Qd hP hA;rwa[<-hL,abH]at this
   rw[aH,aH]
   simp only[aa8,aa7,ae]
   rw[bj,ae,aj,ab7,aO,cX,ae,(fF (b0.cells g1)).1,ae]
   obtain⟨⟨l,o0,hF⟩,K0, -⟩:=n0.aF b0
   obtain⟨L0,j0,N0,p0,d0⟩:=Nk (m:=H0) hX hF (by rw[o0];exact hP.tR) K0 (by rw[o0];exact hP.HO) z0 J0
   refine aE N0 ?_
   rw[o0,hL]at d0
   have hS:jA vU dq cT y t=fT y.us y.ms L:=hS
   have n39:=p0.n
   have A0:=(b0.trans p0).cells gz
   have a1:∀c,c < m.n->j0.get c=m.get c:=λc hc=>by rw[p0.get c (by omega),b0.get c (by omega),e0.get c hc]
   obtain⟨q,q2,n,e,rfl,o1,o2,a0⟩:∃q q2 n e,L0=.tuple #[.agg #[q,q2],.int .i64 n,.int .i64 e]/\one q=true/\one q2=true/\(match fT y.us y.ms L with |some (vs,ns)=>e=0/\gR vs ns j0 (.agg #[q,q2]) |none=>e=170):=by
    unfold uj at d0
    cases hr:fT y.us y.ms L with
    |none=>rw[hr]at d0;obtain⟨n,rfl⟩:=d0;exact⟨_,_,n,170,rfl,rfl,rfl,rfl⟩
    |some d=>have⟨vs,ns⟩:=d;rw[hr]at d0;obtain⟨q,q2,n,rfl,hs⟩:=d0;have⟨_,_,_,e,_,h1,h2⟩:=id hs;cases e;exact⟨q,q2,n,0,rfl,h1.sl.one,h2.one,rfl,hs⟩
   rw[aH,aH,aH]
   simp only[aa8,aa7,ae]
   refine av λu1 b1 B0 c1=>?_
   refine aC fJ B0 rfl rfl (by show(one q && (one q2 && true))=true;rw[o1,o2];rfl) λC0 d1 g0 e1=>?_
   have g0:C0.get j0.n=.cells [q,q2] 33 none:=g0
   rw[(kD g0).2.2.2,ae,aS,ae]
   have k0:Ext j0 C0:=⟨by omega,by grind⟩
   refine aC fJ (k0.cells A0) rfl rfl (by grind) λO0 i1 h0 D0=>?_
   have h0:O0.get m2.n=.cells [q,q2] 33 none:=h0
   rw[(kD h0).2.2.2,ae]
   refine hR _ _ _ _ _ (by omega) ⟨by omega,by grind⟩ ?_
   rw[hS]
   unfold zJ
   cases hr:fT y.us y.ms L with
   |none=>rw[hr]at a0;have a0:e=170:=a0;subst a0;exact⟨v,q,q2,rfl,o1,o2⟩
   |some d=>have⟨vs,ns⟩:=d;rw[hr]at a0;obtain⟨rfl,hs⟩:=a0;refine⟨v,q,q2,rfl,hs.aY λc cs t g hc ht=>?_⟩;have Q0:=k0.cells hc;rw[D0 c (by grind),Q0]
 refine H _ λv t' u m' lo i0 hx hs=>?_;show(bB (.tuple #[v,t',u])=true/\m.n<=lo/\(m.n=m.n/\Ext m m/\zJ _ m (.tuple #[v,t',u])))\/((bB (.tuple #[v,t',u])=false\/lo < m.n)/\(min m.n lo=m.n/\Ext m m'/\zJ _ m' (.tuple #[v,t',u])));cases hf:bB (.tuple #[v,t',u]);·exact .inr ⟨.inl rfl,by omega,hx,hs⟩
 exact .inl ⟨rfl,i0,rfl,.refl,hs.flat hf m⟩
section
variable {α:Type} (R:α->α->Prop) [DecidableRel R]
def En(l:List α)(x:α):List α:=(l.filter λy=>decide (R y x))++x::(l.filter λy=>decide (R x y))
def oe(l:List α)(x:α)(add:Bool)(i:Nat)(acc:List α):Prop:=if add=true then acc=l.take i/\∀y∈l.take i,R y x else acc=En R (l.take i) x/\∃y∈l.take i,¬R y x
variable {R}
theorem filter_none{p:α->Bool}{l:List α}(h:∀y∈l,p y=false):l.filter p=[]:=adI.2 λy H=>by grind
theorem oe.on(H:∀a b c,R a b->R b c->R a c)(a0:∀a,¬R a a){l:List α}{x n:α}{i:Nat}{acc:List α}(h:oe R l x true i acc)(hn:l[i]?=some n)(b0:R n x):oe R l x true (i+1) (acc++ [n]):=by
 unfold oe at h⊢
 rw[abe rfl]at h⊢
 obtain⟨rfl,h2⟩:=h
 rw[abt,hn]
 grind
theorem oe.put(H:∀a b c,R a b->R b c->R a c)(a0:∀a,¬R a a){l:List α}{x n:α}{i:Nat}{acc:List α}(h:oe R l x true i acc)(hn:l[i]?=some n)(b0:¬R n x):oe R l x false (i+1) (acc++ [x]++if R x n then [n]else []):=by
 unfold oe at h⊢
 rw[abe rfl]at h
 rw[abd (by decide)]
 obtain⟨rfl,h2⟩:=h
 rw[abt,hn]
 refine⟨?_,n,by simp,b0⟩
 unfold En
 rw[abK,abK,acH.2 λy hy=>abl (h2 y hy),filter_none (l:=l.take i) (p:=λy=>decide (R x y)) λy hy=>abk λhc=>a0 _ (H _ _ _ hc (h2 y hy))]
 grind
theorem oe.off(e0:∀a b c,R a b->R b c->R a c){l:List α}{x n:α}{i:Nat}{acc:List α}(hs:l.Pairwise R)(h:oe R l x false i acc)(hn:l[i]?=some n):¬R n x/\oe R l x false (i+1) (acc++if R x n then [n]else []):=by
 unfold oe at h⊢;rw[abd (by decide)]at h⊢;obtain⟨rfl,y,hy,a0⟩:=h
 have b0:¬R n x:=by
  intro hc;have⟨j,H⟩:=abx hy;rw[ad4]at H;split at H
  ·rename_i d0
   have h1:=aa9.1 H
   have h2:=aa9.1 hn
   have:=abF.1 hs j i h1.1 h2.1 d0
   grind
  cases H
 refine⟨b0,?_,y,?_,a0⟩
 ·rw[abt,hn]
  unfold En
  grind
 ·grind
theorem oe.fin{l:List α}{x:α}{add:Bool}{acc:List α}(H:∀a,¬R a a)(a0:∀a b c,R a b->R b c->R a c)(h:oe R l x add l.length acc):(acc++if add=true then [x]else [])=En R l x:=by
 unfold oe at h
 rw[abR]at h
 cases add with
 |false=>rw[abd (by decide)]at h⊢;rw[h.1,abJ]
 |true=>
  rw[abe rfl]at h⊢
  obtain⟨rfl,h2⟩:=h
  unfold En
  rw[acH.2 λy hy=>abl (h2 y hy),filter_none (p:=λy=>decide (R x y)) λy hy=>abk λhc=>H _ (a0 _ _ _ hc (h2 y hy))]
theorem oe.nil{l:List α}{x:α}:oe R l x true 0 []:=by
 unfold oe
 grind
end
theorem rS(a b c:Fc):ik a b->ik b c->ik a c:=by unfold ik;omega
theorem Ch(a:Fc):¬ik a a:=by unfold ik;omega
theorem Cg(a b c:Mo):lP a b->lP b c->lP a c:=by unfold lP;omega
theorem FY(a:Mo):¬lP a a:=by unfold lP;omega
theorem HT{a b:Fc}(h:a≠b):ik a b\/ik b a:=by
 unfold ik
 have⟨H,a2⟩:=a
 have⟨b1,b2⟩:=b
 grind
theorem RB{α:Type}{f:α->Int}{l:List α}{x:α}{k:Nat}(hs:l.Pairwise λa b=>f a < f b)(hk:k<=l.length)(h1:∀y∈l.take k,f y < f x)(h2:∀y,l[k]?=some y->f x < f y):Cu f l x=l.take k++x::l.drop k:=by
 have h3:∀y∈l.drop k,f x < f y:=by
  by_cases a0:k < l.length
  ·rw[ab1 a0];have e:=h2 _ (aa5 a0);intro y H;rcases abp.1 H with rfl |H;·exact e
   ·have b0:=hs.sublist (ad6 k l)
    rw[ab1 a0,aca]at b0
    grind
  ·grind
 unfold Cu;conv=>lhs;rw[<-ab5 k l]
 rw[abK,abK,acH.2 λy H=>abl (h1 y H),filter_none (l:=l.take k) (p:=λy=>decide (f x < f y)) λy H=>abk (by grind),
  filter_none (l:=l.drop k) (p:=λy=>decide (f y < f x)) λy H=>abk (by grind),acH.2 λy H=>abl (h3 y H)]
 simp
structure nk(O:Nat)(m:M)(r r2:aeM)(sl:List KW)(rl:List Fc)(ml:List Mo)(st rc mo:aeM):Prop where
 cell:m.get O=.cells (yc r r2 st rc mo) 38 none
 st:Ow (O+1) m sl st
 rc:Ow (O+1) m rl rc
 mo:Ow (O+1) m ml mo
 lt:O < m.n
theorem nk.aF{O:Nat}{r r2:aeM}{sl:List KW}{rl:List Fc}{ml:List Mo}{st rc mo:aeM}{m':M}(h:nk O m r r2 sl rl ml st rc mo)(H:Ext m m'):nk O m' r r2 sl rl ml st rc mo:=
 ⟨H.cells h.cell,h.st.aF H,h.rc.aF H,h.mo.aF H,acL h.lt H.n⟩
theorem T0{x:KW}:aG TE m 34 1 [(0,x.v)]=some (.slice (some ⟨m.n,0,none⟩) 1 1,m.push (.cells x.c 113 none)):=by kernel_rfl
theorem BZ{x:Fc}:aG TE m 35 1 [(0,x.v)]=some (.slice (some ⟨m.n,0,none⟩) 1 1,m.push (.cells x.c 53 none)):=by kernel_rfl
theorem TX{x:Mo}:aG TE m 36 1 [(0,x.v)]=some (.slice (some ⟨m.n,0,none⟩) 1 1,m.push (.cells x.c 109 none)):=by kernel_rfl
section
variable {O:Nat} {r r2:aeM} {sl:List KW} {rl:List Fc} {ml:List Mo} {st rc mo:aeM}
theorem nk.Hy(h:nk O m r r2 sl rl ml st rc mo){x:KW}(h1:one x.w/\one x.mv)(hl:sl.length < 1000000):
  ∃a m1 r' m2 m3,aG TE m 34 1 [(0,x.v)]=some (a,m1)/\aw TE (M.wl m1 (M.n m1)) .append [34,34] [st,a]=some (r',m2)/\aD TE m2 34 (aeK O (0+2)) r'=some (m3,O)/\O+1<=m2.low/\
   nk O m3 r r2 (sl++ [x]) rl ml r' rc mo/\m.n<=m3.n/\(∀c,c < O->m3.get c=m.get c)/\(∀c cs t g,m.get c=.cells cs t g->t≠113->t≠38->m3.get c=.cells cs t g)/\(∀c,c < m.n->c≠O->(∀a n k,st=.slice (some a) n k->c≠a.block)->m3.get c=m.get c)/\(∀a n k,r'=.slice (some a) n k->m.n<=a.block):=by
 obtain⟨m1,b0⟩:∃q,q=m.push (.cells x.c 113 none):=⟨_,rfl⟩
 have a0:Ext m m1:=b0 ▸ Ext.refl.push;have e0:m1.get m.n=.cells x.c 113 none:=by rw[b0];exact M.aU
 have i0:=h.lt;have j0:=a0.n;obtain⟨r',m2,m3,⟨⟨_,pf⟩,pn⟩,p1,p2,p3,p4,p5,p6,p7,p8⟩:=BT (n1:=O+1) (o:=2) Ha rfl SG rfl h.cell (by rfl) (by omega) (by omega) h.st a0 (iD (x:=x) e0 ⟨rfl,h1⟩) hl;have p2:aD TE m2 34 (aeK O (0+2)) r'=some (m3,O):=p2
 have fR:∀c cs t g,m.get c=.cells cs t g->t≠113->t≠38->m3.get c=.cells cs t g:=λc cs t g H g0 h0=>by have k0:=M.bk H;have d0:=a0.cells H;rw[p8 c (by omega) (λe=>by subst e;rw[h.cell]at H;cases H;exact h0 rfl) λl0 g' e=>by rw[d0]at e;cases e;exact g0 rfl,d0]
 refine⟨_,m1,r',m2,m3,b0 ▸ T0,p1,p2,p3,⟨p4,p5,h.rc.aY λc cs t g H ht=>fR c cs t g H ?_ ?_,h.mo.aY λc cs t g H ht=>fR c cs t g H ?_ ?_,by omega⟩,by omega,λc H=>p7 c (by omega) (by omega),fR,λc H h1 h2=>by rw[pn c (by omega) h1 h2,a0.get c H],by grind⟩ <;>
  (simp only[aZ.ty,aZ.eB,abp,ab0,or_false]at ht;subst ht;decide)
theorem nk.sT(h:nk O m r r2 sl rl ml st rc mo){x:Fc}(hl:rl.length < 1000000):
  ∃a m1 r' m2 m3,aG TE m 35 1 [(0,x.v)]=some (a,m1)/\aw TE (M.wl m1 (M.n m1)) .append [35,35] [rc,a]=some (r',m2)/\aD TE m2 35 (aeK O (0+3)) r'=some (m3,O)/\O+1<=m2.low/\
   nk O m3 r r2 sl (rl++ [x]) ml st r' mo/\m.n<=m3.n/\(∀c,c < O->m3.get c=m.get c)/\(∀c cs t g,m.get c=.cells cs t g->t≠53->t≠38->m3.get c=.cells cs t g)/\(∀c,c < m.n->c≠O->(∀a n k,rc=.slice (some a) n k->c≠a.block)->m3.get c=m.get c)/\(∀a n k,r'=.slice (some a) n k->m.n<=a.block):=by
 obtain⟨m1,b0⟩:∃q,q=m.push (.cells x.c 53 none):=⟨_,rfl⟩
 have a0:Ext m m1:=b0 ▸ Ext.refl.push;have e0:m1.get m.n=.cells x.c 53 none:=by rw[b0];exact M.aU
 have i0:=h.lt;have j0:=a0.n;obtain⟨r',m2,m3,⟨⟨_,pf⟩,pn⟩,p1,p2,p3,p4,p5,p6,p7,p8⟩:=BT (n1:=O+1) (o:=3) Hb rfl MR rfl h.cell (by rfl) (by omega) (by omega) h.rc a0 (iD (x:=x) e0 rfl) hl;have p2:aD TE m2 35 (aeK O (0+3)) r'=some (m3,O):=p2
 have fR:∀c cs t g,m.get c=.cells cs t g->t≠53->t≠38->m3.get c=.cells cs t g:=λc cs t g H g0 h0=>by have k0:=M.bk H;have d0:=a0.cells H;rw[p8 c (by omega) (λe=>by subst e;rw[h.cell]at H;cases H;exact h0 rfl) λl0 g' e=>by rw[d0]at e;cases e;exact g0 rfl,d0]
 refine⟨_,m1,r',m2,m3,b0 ▸ BZ,p1,p2,p3,⟨p4,h.st.aY λc cs t g H ht=>fR c cs t g H ?_ ?_,p5,h.mo.aY λc cs t g H ht=>fR c cs t g H ?_ ?_,by omega⟩,by omega,λc H=>p7 c (by omega) (by omega),fR,λc H h1 h2=>by rw[pn c (by omega) h1 h2,a0.get c H],by grind⟩ <;>
  (simp only[aZ.ty,aZ.eB,abp,ab0,or_false]at ht;subst ht;decide)
theorem nk.sU(h:nk O m r r2 sl rl ml st rc mo){x:Mo}(hl:ml.length < 1000000):
  ∃a m1 r' m2 m3,aG TE m 36 1 [(0,x.v)]=some (a,m1)/\aw TE (M.wl m1 (M.n m1)) .append [36,36] [mo,a]=some (r',m2)/\aD TE m2 36 (aeK O (0+4)) r'=some (m3,O)/\O+1<=m2.low/\
   nk O m3 r r2 sl rl (ml++ [x]) st rc r'/\m.n<=m3.n/\(∀c,c < O->m3.get c=m.get c)/\(∀c cs t g,m.get c=.cells cs t g->t≠109->t≠38->m3.get c=.cells cs t g)/\(∀c,c < m.n->c≠O->(∀a n k,mo=.slice (some a) n k->c≠a.block)->m3.get c=m.get c)/\(∀a n k,r'=.slice (some a) n k->m.n<=a.block):=by
 obtain⟨m1,b0⟩:∃q,q=m.push (.cells x.c 109 none):=⟨_,rfl⟩
 have a0:Ext m m1:=b0 ▸ Ext.refl.push;have e0:m1.get m.n=.cells x.c 109 none:=by rw[b0];exact M.aU
 have i0:=h.lt;have j0:=a0.n;obtain⟨r',m2,m3,⟨⟨_,pf⟩,pn⟩,p1,p2,p3,p4,p5,p6,p7,p8⟩:=BT (n1:=O+1) (o:=4) WE rfl W0 rfl h.cell (by rfl) (by omega) (by omega) h.mo a0 (iD (x:=x) e0 rfl) hl;have p2:aD TE m2 36 (aeK O (0+4)) r'=some (m3,O):=p2
 have fR:∀c cs t g,m.get c=.cells cs t g->t≠109->t≠38->m3.get c=.cells cs t g:=λc cs t g H g0 h0=>by have k0:=M.bk H;have d0:=a0.cells H;rw[p8 c (by omega) (λe=>by subst e;rw[h.cell]at H;cases H;exact h0 rfl) λl0 g' e=>by rw[d0]at e;cases e;exact g0 rfl,d0]
 refine⟨_,m1,r',m2,m3,b0 ▸ TX,p1,p2,p3,⟨p4,h.st.aY λc cs t g H ht=>fR c cs t g H ?_ ?_,h.rc.aY λc cs t g H ht=>fR c cs t g H ?_ ?_,p5,by omega⟩,by omega,λc H=>p7 c (by omega) (by omega),fR,λc H h1 h2=>by rw[pn c (by omega) h1 h2,a0.get c H],by grind⟩ <;>
  (simp only[aZ.ty,aZ.eB,abp,ab0,or_false]at ht;subst ht;decide)
theorem nk.P9(h:nk O m r r2 sl rl ml st rc mo){a v':aeM}{m2:M}{e0:List KW}(e:aw TE (m.wl m.n) .append [34,34] [st,a]=some (v',m2))(ho:Ow (O+1) m2 e0 v')(hn:m.n<=m2.n)(k0:O+1<=m2.low)(hk:∀c,c < O+1->m2.get c=m.get c):
  ∃m3,aD TE m2 34 (aeK O (0+2)) v'=some (m3,O)/\nk O m3 r r2 e0 rl ml v' rc mo/\m.n<=m3.n/\(∀c,c < O->m3.get c=m.get c)/\(∀c cs t g,m.get c=.cells cs t g->t≠113->t≠38->m3.get c=.cells cs t g)/\(∀c,c < m.n->c≠O->(∀a n k,st=.slice (some a) n k->c≠a.block)->m3.get c=m.get c):=by
 have g2:m2.get O=.cells (yc r r2 st rc mo) 38 none:=by rw[hk O (by omega)];exact h.cell
 have d0:=sG (E:=TE) (o:=0+2) (x:=v') SG g2 (by rw[ho.sl.cells];rfl) (by rw[ho.sl.cells];show 0+2+1<=5;decide) (by rw[ho.sl.cells];simp[ho.sl.one]);obtain⟨m3,a0⟩:∃q,q=m2.set O (.cells (yc r r2 v' rc mo) 38 none):=⟨_,rfl⟩
 have d0:aD TE m2 34 (aeK O (0+2)) v'=some (m3,O):=by rw[d0,a0,ho.sl.cells];rfl
 have l0:m3.n=m2.n:=by rw[a0];rfl
 have h0:m3.get O=.cells (yc r r2 v' rc mo) 38 none:=by rw[a0];exact M.eK (M.bk g2)
 have g0:∀c,c≠O->m3.get c=m2.get c:=λc H=>by rw[a0];exact M.dP H
 have b0:∀c,c < m.n->c≠O->(∀a n k,st=.slice (some a) n k->c≠a.block)->m3.get c=m.get c:=λc H h1 h2=>by rw[g0 c h1,fx e H h2]
 have fR:∀c cs t g,m.get c=.cells cs t g->t≠113->t≠38->m3.get c=.cells cs t g:=λc cs t g H i0 n0=>by
  have j0:=M.bk H;rw[b0 c j0 (by grind) λad n k es e=>?_,H];have:=h.st.sl;rw[es]at this;rcases this with⟨h1,_⟩ |⟨b,o,cc,bc,g',h1,h2,_⟩;·cases h1
  cases h1;rw[e,h2]at H;cases H;exact i0 rfl
 refine⟨m3,d0,⟨h0,?_,h.rc.aY λc cs t g H ht=>fR c cs t g H ?_ ?_,h.mo.aY λc cs t g H ht=>fR c cs t g H ?_ ?_,?_⟩,by omega,by grind,fR,b0⟩;·exact ho.tH rfl λc h1 _=>g0 c (by omega)
 any_goals (simp only[aZ.ty,aZ.eB,abp,ab0,or_false]at ht;subst ht;decide)
 have:=h.lt;omega
end
structure kh(m0:M)(O:Nat)(m:M)(r r2:aeM)(k:List Kp)(rl:List Fc)(ml:List Mo)(rc mo:aeM):Prop where
 ex:∃sl st,Qo sl=k/\nk O m r r2 sl rl ml st rc mo/\∀x∈sl,Sl m x.u.shape x.w/\Sl m x.ms x.mv/\x.u.shape.length < 1000000/\x.ms.length < 1000000
 x:Ext m0 m
 o:m0.n=O
section
variable {m0:M} {O:Nat} {r r2:aeM} {k:List Kp} {rl:List Fc} {ml:List Mo} {rc mo:aeM}
theorem kh.aF{m':M}(h:kh m0 O m r r2 k rl ml rc mo)(H:Ext m m'):kh m0 O m' r r2 k rl ml rc mo:=by have⟨⟨sl,st,h1,h2,h3⟩,h4,h5⟩:=h;exact⟨⟨sl,st,h1,h2.aF H,λx hm=>⟨(h3 x hm).1.aF H,(h3 x hm).2.1.aF H,(h3 x hm).2.2⟩⟩,h4.trans H,h5⟩
theorem kh.YY(h:kh m0 O m r r2 k rl ml rc mo):ah TE m 35 (aeK O (0+3))=some rc:=by have⟨⟨sl,st,h1,H,h3⟩,h4,h5⟩:=h;exact(fF H.cell).2.2.1
theorem kh.YZ(h:kh m0 O m r r2 k rl ml rc mo):ah TE m 36 (aeK O (0+4))=some mo:=by have⟨⟨sl,st,h1,H,h3⟩,h4,h5⟩:=h;exact(fF H.cell).2.2.2.1
theorem kh.lt(h:kh m0 O m r r2 k rl ml rc mo):O < m.n:=by have⟨⟨sl,st,h1,H,h3⟩,h4,h5⟩:=h;exact H.lt
theorem Ie{m':M}{sl:List KW}(H:∀x∈sl,Sl m x.u.shape x.w/\Sl m x.ms x.mv/\x.u.shape.length < 1000000/\x.ms.length < 1000000)(hk:∀c cs t g,m.get c=.cells cs t g->(t=141\/t=137)->m'.get c=.cells cs t g):
  ∀x∈sl,Sl m' x.u.shape x.w/\Sl m' x.ms x.mv/\x.u.shape.length < 1000000/\x.ms.length < 1000000:=λx hx=>
 ⟨(H x hx).1.aY λc cs t g hc ht=>hk c cs t g hc (.inl (by simpa[aZ.ty,aZ.eB]using ht)),(H x hx).2.1.aY λc cs t g hc ht=>hk c cs t g hc (.inr (by simpa[aZ.ty,aZ.eB]using ht)),(H x hx).2.2⟩
theorem kh.sT(h:kh m0 O m r r2 k rl ml rc mo){x:Fc}(hl:rl.length < 1000000):
  ∃a m1 H m2 m3,aG TE m 35 1 [(0,x.v)]=some (a,m1)/\aw TE (M.wl m1 (M.n m1)) .append [35,35] [rc,a]=some (H,m2)/\aD TE m2 35 (aeK O (0+3)) H=some (m3,O)/\O+1<=m2.low/\
   kh m0 O m3 r r2 k (rl++ [x]) ml H mo/\m.n<=m3.n/\(∀c,c < m.n->c≠O->(∀a n k,rc=.slice (some a) n k->c≠a.block)->m3.get c=m.get c)/\(∀a n k,H=.slice (some a) n k->m.n<=a.block):=by have⟨⟨sl,st,h1,h2,h3⟩,h4,h5⟩:=h;have a0:=h4.n;have⟨a,m1,H,m2,m3,e1,e2,e3,e4,k1,k2,k3,k4,k5,k6⟩:=h2.sT (x:=x) hl;exact⟨a,m1,H,m2,m3,e1,e2,e3,e4,⟨⟨sl,st,h1,k1,Ie h3 λc cs t g hc ht=>k4 c cs t g hc (by grind) (by grind)⟩,⟨by omega,λc hc=>by rw[k3 c (by omega),h4.get c hc]⟩,h5⟩,k2,k5,k6⟩
theorem kh.sU(h:kh m0 O m r r2 k rl ml rc mo){x:Mo}(hl:ml.length < 1000000):
  ∃a m1 H m2 m3,aG TE m 36 1 [(0,x.v)]=some (a,m1)/\aw TE (M.wl m1 (M.n m1)) .append [36,36] [mo,a]=some (H,m2)/\aD TE m2 36 (aeK O (0+4)) H=some (m3,O)/\O+1<=m2.low/\
   kh m0 O m3 r r2 k rl (ml++ [x]) rc H/\m.n<=m3.n/\(∀c,c < m.n->c≠O->(∀a n k,mo=.slice (some a) n k->c≠a.block)->m3.get c=m.get c)/\(∀a n k,H=.slice (some a) n k->m.n<=a.block):=by have⟨⟨sl,st,h1,h2,h3⟩,h4,h5⟩:=h;have a0:=h4.n;have⟨a,m1,H,m2,m3,e1,e2,e3,e4,k1,k2,k3,k4,k5,k6⟩:=h2.sU (x:=x) hl;exact⟨a,m1,H,m2,m3,e1,e2,e3,e4,⟨⟨sl,st,h1,k1,Ie h3 λc cs t g hc ht=>k4 c cs t g hc (by grind) (by grind)⟩,⟨by omega,λc hc=>by rw[k3 c (by omega),h4.get c hc]⟩,h5⟩,k2,k5,k6⟩
end
noncomputable def uE(y:Yd)(t:Tk):Option Yd:=if dS t=true then Ho vU dq cT y t else none
theorem BF{y:Yd}{t:Tk}:uE y t=(jA vU dq cT y t).map λp=>⟨p.1,p.2,Fu y t,FH y t,Rg y t⟩:=by
 unfold uE jA Ho
 grind
abbrev W8:aeM:=yv (.slice none 0 0) (.slice none 0 0) (.slice none 0 0) (.slice none 0 0) (.slice none 0 0)
def lM(D:Option Yd)(m':M)(H:aeM):Prop:=match D with
 |some z=>∃r r2 st rc mo,H=.tuple #[yv r r2 st rc mo,.int .i64 0]/\oO m' z r r2 st rc mo
 |none=>H=.tuple #[W8,.int .i64 270]
theorem im{α:Type}[aZ α]{m':M}{l:List α}{v:aeM}(h:Sl m' l v)(H:D.bF v):l=[]/\v=aeQ:=by
 rcases h with⟨h1,h2⟩ |⟨b,o,c,bc,g,h1,_⟩
 ·grind
 rw[h1]at H;simp[D.bF]at H
theorem oO.flat{z:Yd}{m':M}{r r2 st rc mo:aeM}(h:oO m' z r r2 st rc mo)(hf:D.bF r/\D.bF r2/\D.bF st/\D.bF rc/\D.bF mo)(m:M):oO m z r r2 st rc mo:=by have⟨⟨l,h1,h2⟩,h3,⟨k,h4,h5⟩,h6,h7⟩:=h;have⟨f1,f2,f3,f4,f5⟩:=hf;obtain⟨e1,rfl⟩:=im h2.sl f1;obtain⟨e2,rfl⟩:=im h3 f2;obtain⟨e3,rfl⟩:=im h5.sl f3;obtain⟨e4,rfl⟩:=im h6 f4;obtain⟨e5,rfl⟩:=im h7 f5;subst e1 e3;exact⟨⟨[],h1,⟨.nil,λx H=>(by cases H),λx H=>(by cases H),.inl rfl⟩⟩,e2 ▸ .nil,⟨[],h4,Lv.nil⟩,e4 ▸ .nil,e5 ▸ .nil⟩
theorem lM.flat{D:Option Yd}{m':M}{r r2 st rc mo t:aeM}(h:lM D m' (.tuple #[yv r r2 st rc mo,t]))(hf:bB (.tuple #[yv r r2 st rc mo,t]))(m:M):lM D m (.tuple #[yv r r2 st rc mo,t]):=by
 unfold lM at h⊢;split at h
 ·have⟨_,_,_,_,_,e,hs⟩:=h;cases e;have H:((D.bF r && (D.bF r2 && (D.bF st && (D.bF rc && (D.bF mo && true))))) && (true && true)):=hf;simp only[abc]at H;exact⟨_,_,_,_,_,rfl,hs.flat ⟨H.1.1,H.1.2.1,H.1.2.2.1,H.1.2.2.2.1,H.1.2.2.2.2.1⟩ m⟩
 exact h
theorem Wt{u:Un}{w:aeM}:aJ TE 113 [(0,u.v w)]=some (KW.v ⟨u,w,[],aeQ⟩):=EN rfl
theorem PY{r r2:aeM}:aJ TE 38 [(0,.agg #[r,r2])]=some (yv r r2 aeQ aeQ aeQ):=GN rfl
theorem Wp{a b c:Int}:aJ TE 109 [(0,aeP a),(1,aeP b),(2,aeP c)]=some (Mo.v ⟨a,b,c⟩):=wX rfl rfl rfl
theorem Sd:aJ TE 38 []=some W8:=Lj
def jN{α:Type}(R:α->α->Prop)[DecidableRel R](D:Prop)[Decidable D](l:List α)(x:α)(add:Bool)(i:Nat)(acc:List α):Prop:=if D then oe R l x add i acc else add=false/\acc=l.take i
section
variable {α:Type} {R:α->α->Prop} [DecidableRel R] {D:Prop} [Decidable D] {l:List α} {x n:α} {i:Nat} {acc:List α} {add:Bool}
theorem jN.init:jN R D l x (decide D) 0 []:=by
 unfold jN;split;·rename_i h;rw[abl h];exact .nil
 ·grind
theorem jN.put(H:∀a b c,R a b->R b c->R a c)(a0:∀a,¬R a a)(h:jN R D l x true i acc)(hn:l[i]?=some n)(b0:¬R n x):jN R D l x false (i+1) (acc++ [x]++if(D->R x n\/R n x)then [n]else []):=by
 unfold jN at h⊢;by_cases hD:D
 ·rw[abe hD]at h⊢
  have:=h.put H a0 hn b0
  grind
 ·grind
theorem jN.on(a0:∀a b c,R a b->R b c->R a c)(b0:∀a,¬R a a)(h:jN R D l x true i acc)(hn:l[i]?=some n)(H:R n x):jN R D l x true (i+1) (acc++if(D->R x n\/R n x)then [n]else []):=by
 unfold jN at h⊢;rw[abe λ_=> .inr H];by_cases hD:D
 ·rw[abe hD]at h⊢;exact h.on a0 b0 hn H
 ·grind
theorem jN.off(H:∀a b c,R a b->R b c->R a c)(hs:l.Pairwise R)(h:jN R D l x false i acc)(hn:l[i]?=some n):jN R D l x false (i+1) (acc++if(D->R x n\/R n x)then [n]else []):=by
 unfold jN at h⊢;by_cases hD:D
 ·rw[abe hD]at h⊢
  have⟨h1,h2⟩:=h.off H hs hn
  grind
 ·rw[abd hD]at h⊢
  rw[abe λhc=>(hD hc).elim,abt,hn,h.2]
  grind
theorem jN.fin(H:∀a,¬R a a)(a0:∀a b c,R a b->R b c->R a c)(h:jN R D l x add l.length acc):(acc++if add=true then [x]else [])=if D then En R l x else l:=by
 unfold jN at h
 by_cases hD:D
 ·rw[abe hD]at h⊢
  exact h.fin H a0
 ·grind
end
theorem TL{y:Yd}{t:Tk}:FH y t=if t.kind=8/\(⟨t.id,t.side⟩:Fc)∉y.rc then En ik y.rc ⟨t.id,t.side⟩else y.rc:=rfl
theorem T8{y:Yd}{t:Tk}:Rg y t=if t.kind=9 then En lP y.mo ⟨t.id,t.other,t.dA⟩else y.mo:=rfl
theorem QR{y:Yd}{t:Tk}{p:List Un×List Mk}(h:jA vU dq cT y t=some p)(k:t.kind=2):(cj y.us t.id).isSome:=by
 unfold jA at h;split at h
 ·obtain⟨l,H, -⟩:=ab3.1 h
  unfold jc at H
  grind
 cases h
theorem gR.Xh{vs:List Un}{ns:List Mk}{m' m'':M}{v:aeM}(h:gR vs ns m' v)(hk:∀c cs t g,m'.get c=.cells cs t g->(t=60\/t=141\/t=137)->m''.get c=.cells cs t g):gR vs ns m'' v:=by
 have⟨acc,r,r2,e,h1,h2,h3⟩:=h
 exact⟨acc,r,r2,e,h1,h2.aY λc cs t g H ht=>hk c cs t g H (by grind),h3.aY λc cs t g H ht=>hk c cs t g H (by
  have:t=137:=by simpa[aZ.ty,aZ.eB]using ht
  grind)⟩
theorem SZ{l:List Mk}{v:aeM}(h:Sl m l v){i:Nat}{x:Mk}(hx:l[i]?=some x):∃b o,an TE 31 v (aeP i)=some (aeK b o)/\ah TE m 3 (aeK b (o+1))=some (aeP x.un)/\ah TE m 137 (aeK b o)=some x.v:=by
 have⟨b,o,bc,g,cs,e1,hb,hr,hle,hj⟩:=h.gM dU (k:=.i64) hx;obtain rfl:cs=x.c:=hr;refine⟨b,o,e1,?_,?_⟩
 ·rw[bI,aI hb];exact hj 1 (by show 1 < 5;decide)
 have⟨p,H,e2,e3,e4⟩:=h.index dU (k:=.i64) hx;obtain rfl:p=aeK b o:=Option.some.inj (e2.symm.trans e1);obtain rfl:H=x.c:=e4;exact e3
theorem Q5{x:Mk}:aG TE m 31 1 [(0,x.v)]=some (.slice (some ⟨m.n,0,none⟩) 1 1,m.push (.cells x.c 137 none)):=by kernel_rfl
theorem Sk:ur TE 31 Mk:=⟨ag.t31,ag.t137,by kernel_rfl,rfl,rfl,by kernel_rfl,by decide,rfl⟩
theorem Rw{b:Nat}{u:Un}{w mv:aeM}{l l':List Mk}(g:m.get b=.cells (KW.c ⟨u,w,l',mv⟩) 113 none)(ho:Ow (b+1) m l mv){x:Mk}(hl:l.length < 1000000):
  ∃a m1 r' m2 m3,aG TE m 31 1 [(0,x.v)]=some (a,m1)/\aw TE (M.wl m1 (M.n m1)) .append [31,31] [mv,a]=some (r',m2)/\aD TE m2 31 (aeK b (0+6)) r'=some (m3,b)/\b+1<=m2.low/\
   m3.get b=.cells (KW.c ⟨u,w,l',r'⟩) 113 none/\Ow (b+1) m3 (l++ [x]) r'/\m.n<=m3.n/\(∀c,c < b->m3.get c=m.get c):=by
 obtain⟨m1,H⟩:∃q,q=m.push (.cells x.c 137 none):=⟨_,rfl⟩
 have a0:Ext m m1:=H ▸ Ext.refl.push;have b0:m1.get m.n=.cells x.c 137 none:=by rw[H];exact M.aU
 have d0:=M.bk g;have e0:=a0.n;obtain⟨r',m2,m3,p1,p2,p3,p4,p5,p6,p7,p8⟩:=SM (n1:=b+1) (o:=6) Sk rfl MS rfl g (by rfl) (by omega) (by omega) ho a0 (iD (x:=x) b0 rfl) hl;exact⟨_,m1,r',m2,m3,H ▸ Q5,p1,p2,p3,p4,p5,by omega,λc hc=>p7 c (by omega) (by omega)⟩
theorem kh.mob{m0:M}{O:Nat}{r r2:aeM}{k:List Kp}{rl:List Fc}{ml:List Mo}{rc mo:aeM}(h:kh m0 O m r r2 k rl ml rc mo){a:Addr}{n c:Nat}(e:mo=.slice (some a) n c):a.block < m.n:=by
 have⟨⟨sl,st,h1,h2,h3⟩,h4,h5⟩:=h;subst e;rcases h2.mo.sl with⟨H,_⟩ |⟨b,o,c',bc,g,H,h7,_⟩;·cases H
 cases H;exact M.bk h7
set_option maxHeartbeats 4000000 in
theorem Am(hX:cC X){y:Yd}{r r2 st rc mo:aeM}{t:Tk}{w:aeM}(hV:oO m y r r2 st rc mo)(hP:rz y)(hw:Sl m t.un.shape w)(c5:t.un.shape.length < 100000):
  ∃rv m',C X (.func 27) [yv r r2 st rc mo,t.v w] m m.n rv m'/\Ext m m'/\lM (uE y t) m' rv:=by
 have key:=Cl.iX (E:=TE) (X:=X) (f:=27) (args:=[yv r r2 st rc mo,t.v w]) (m:=m) (R:=λrv m' b=>b=m.n/\Ext m m'/\lM (uE y t) m' rv) (hX.no _ rfl) (aa3 func27) rfl ?_
 ·obtain⟨rv,m',b,hc,rfl,h⟩:=key;exact⟨rv,m',hc,h⟩
 have H:∀R:aeN->M->Nat->Prop,(∀(r r2 st rc mo t':aeM) (m':M) (lo:Nat),m.n<=lo->Ext m m'->lM (uE y t) m' (.tuple #[yv r r2 st rc mo,t'])->R [yv r r2 st rc mo,t'] m' lo)->dE TE (aL TE X) f27 [yv r r2 st rc mo,t.v w] m R:=by
  intro R hR;rw[F27];dsimp only[aL,aaO,aaP,aaQ,aaR,aaS,aaT,aaU,aaV,aaW,aaX,aaY,aaZ,aa0,aa1,aa2,Θ,ψ,ω];refine av λm1 i7 z3 d5=>?_;refine av λm2 j7 A3 B3=>?_;refine av λm3 k7 C3 M2=>?_;have L1:Ext m m3:=⟨by omega,by grind⟩
  have g1:m3.get m.n=.cells (yc r r2 st rc mo) 38 none:=by rw[M2 _ (by omega),B3 _ (by omega)];exact z3
  have g2:m3.get m1.n=.cells (t.c w) 62 none:=by rw[M2 _ (by omega)];exact A3
  have gz:m3.get m2.n=.cells (yc aeQ aeQ aeQ aeQ aeQ) 38 none:=C3;clear z3 d5 A3 B3 C3 M2;unfold ptrTo;simp only[cX,eW,eh,iP,cN,cz,ck,cG,cF,dk,eG,dQ,eH,ae];have g5:=hV.aF L1;have⟨⟨l,N1,hF⟩,D3,⟨kl,a1,hK⟩,i5,j5⟩:=g5;have k5:cn (bP l):=by rw[N1];exact hP.tR
  have o6:l.length<=12:=by have:=hP.tR.len;rwa[<-N1,cS]at this
  have r6:kl.length<=12:=by have:=hP.Tx;rwa[<-a1,tG]at this
  have s6:=hP.TJ;have u6:=hP.WQ;have l5:=hP.HO.len;rw[(fF g1).2.2.2.2,ae,gQ g2,ae];have⟨rv,m7,c7,x7,a7⟩:=Hd (m:=m3) hX (hV.aF L1) hP (hw.aF L1) c5;refine aE c7 ?_
  obtain⟨v7,q,q2,ok,rfl,o1,o2,q0⟩:∃v7 q q2 ok,rv=.tuple #[v7,.agg #[q,q2],.bool ok]/\one q=true/\one q2=true/\(match jA vU dq cT y t with |some (vs,ns)=>ok=true/\gR vs ns m7 (.agg #[q,q2]) |none=>ok=false):=by
   unfold zJ at a7
   cases hs:jA vU dq cT y t with
   |none=>
    grind
   |some d=>have⟨vs,ns⟩:=d;rw[hs]at a7;obtain⟨v,p,p2,rfl,h1⟩:=a7;have⟨_,_,_,e,_,h2,h3⟩:=id h1;cases e;exact⟨_,_,_,_,rfl,h2.sl.one,h3.one,rfl,h1⟩
  have n7:=x7.n;rw[aH,aH,aH];simp only[aa8,aa7,ae];refine av λm12 v6 b2 N2=>?_;refine aC fJ b2 rfl rfl (by show(one q && (one q2 && true))=true;rw[o1,o2];rfl) λm13 w6 d2 E3=>?_;have gS:m13.get m7.n=.cells [q,q2] 33 none:=d2;have b1:Ext m7 m13:=⟨by omega,by grind⟩
  have i0:=x7.trans b1;have d1:=L1.trans i0;have n13:=b1.n;have g1:=i0.cells g1;have g2:=i0.cells g2;have gz:=i0.cells gz;clear b2 N2 d2 E3 a7 c7;have y6:m.n<=min m.n m3.n:=by omega
  rw[bj,ae,aj];refine ak (λc=>?_) (λc=>?_)
  ·rw[abz]at c
   subst c
   rw[Sd,ae]
   refine aC mJ gz rfl rfl rfl λm17 z6 F3 G3=>?_
   rw[(fF F3).2.2.2.2,ae]
   refine hR _ _ _ _ _ _ _ _ (by omega) ⟨by omega,λc hc=>by rw[G3 c (by omega),d1.get c hc]⟩ ?_
   rw[BF]
   cases hs:jA vU dq cT y t with
   |none=>rfl
   |some d=>have⟨vs,ns⟩:=d;rw[hs]at q0;exact absurd q0.1 (by decide)
  rw[abu]at c;subst c
  obtain⟨⟨vs,ns⟩,hs⟩:∃p,jA vU dq cT y t=some p:=by
   cases hs:jA vU dq cT y t with
   |none=>rw[hs]at q0;have q0:true=false:=q0;cases q0
   |some d=>exact⟨d,rfl⟩
  rw[hs]at q0;obtain⟨-,H3⟩:=q0;have hD:uE y t=some ⟨vs,ns,Fu y t,FH y t,Rg y t⟩:=by rw[BF,hs];rfl
  rw[hD]at hR;rw[(kD gS).2.2.2,ae,PY,ae];refine av λm22 A6 i2 I3=>?_;refine aC mJ i2 rfl rfl (by show(one q && (one q2 && true))=true;rw[o1,o2];rfl) λm23 B6 l2 J3=>?_;have gO:m23.get m13.n=.cells (yc q q2 aeQ aeQ aeQ) 38 none:=l2;have v0:Ext m13 m23:=⟨by omega,by grind⟩
  have n23:=v0.n;have K3:nk m13.n m23 q q2 [] [] [] aeQ aeQ aeQ:=⟨gO,.nil,.nil,.nil,by omega⟩
  clear i2 I3 l2 J3;have s0:=hK.aF i0;have kx:∀{mm:M} {sl:List KW},Ext m13 mm->(∀x∈sl,x∈kl)->∀x∈sl,Sl mm x.u.shape x.w/\Sl mm x.ms x.mv/\x.u.shape.length < 1000000/\x.ms.length < 1000000:=λhe hm x hx=>⟨(s0.sh x (hm x hx)).aF he,(s0.mv x (hm x hx)).aF he,s0.ln x (hm x hx),s0.lm x (hm x hx)⟩
  refine aW (λO2 mm lo=>O2=[]/\m.n<=lo/\kh m13 m13.n mm q q2 (Fu y t) [] [] aeQ aeQ) (λQ hQ=>?_) ?_
  ·have⟨tk,tid,Lx,P2,T2⟩:=oK (v0.cells g2);rw[tk,ae,aS,ae,aj];refine ak (λk2=>?_) (λk2=>?_)
   ·have k2:=aba k2;rw[(fF (v0.cells g1)).1,ae,tid,ae];obtain⟨l7,L3,m5,N3,f37⟩:=jm (m:=m23) hX (hF.aF (i0.trans v0)) (by omega) D3.one t.id;refine aE m5 ?_;obtain⟨u,wu,is,rfl,fu⟩:=f37.S9 k5;have n37:=N3.n;rw[aH,aH];simp only[aa8,aa7,ae];refine av λo7 C6 v2 O3=>?_;refine aC du v2 rfl rfl (Un.cR fu.sl.one) λo0 D6 y2 a4=>?_;have gu:o0.get L3.n=.cells (u.c wu) 60 none:=y2;have i1:Ext L3 o0:=⟨by omega,λc hc=>by grind⟩
    rw[bT gu,ae,Wt,ae];refine av λp7 E6 z2 b4=>?_;refine aC MT z2 rfl rfl (KW.cR (x:=⟨u,wu,[],aeQ⟩) fu.sl.one rfl) λc4 F6 A2 d4=>?_;have gK:c4.get o0.n=.cells (KW.c ⟨u,wu,[],aeQ⟩) 113 none:=A2;have B2:Ext o0 c4:=⟨by omega,λc hc=>by grind⟩
    have n42:=i1.n;have n47:=B2.n;have k1:=N3.trans i1;have r0:=v0.trans k1;clear v2 O3 y2 a4 z2 b4 A2 d4
    have n5:is=true:=by
     have:=QR hs k2;rw[N1]at fu;rw[fu.eq]at this;cases is;·cases this
     rfl
    subst n5;have O1:cj y.us t.id=some u:=by rw[<-N1];exact fu.eq
    have o5:=D3.aF (i0.trans r0);refine Lp.intro (γ:=Nat) (λj=>y.ms.length-j) (λj vs mm lo=>∃mv,vs=[.int .i64 j]/\j<=y.ms.length/\Ext o0 mm/\m.n<=lo/\mm.get o0.n=.cells (KW.c ⟨u,wu,[],mv⟩) 113 none/\Ow (o0.n+1) mm ((y.ms.take j).filter λx=>decide (x.un=t.id)) mv/\o0.n < mm.n) 0 ⟨_,rfl,abh _,B2,by omega,gK,.nil,by omega⟩ ?_;rintro j vs mm lo ⟨mv,rfl,hj,b0,p0,gk,l1,g4⟩;have v1:=o5.aF b0;obtain⟨-,J0, -⟩:=oK ((r0.trans b0).cells g2);rw[aB,(xR ((r0.trans b0).cells g1)).2.2,ae,v1.len dU,aA,aM,ae,aj]
    have k4:((y.ms.take j).filter λx=>decide (x.un=t.id)).length<=20:=by have:=acn (λx:Mk=>decide (x.un=t.id)) (y.ms.take j);rw[acr]at this;omega
    refine ak (λl0=>?_) (λz0=>?_)
    ·have l0:j < y.ms.length:=by grind
     obtain⟨x,hx⟩:∃x,y.ms[j]?=some x:=⟨_,aa5 l0⟩
     have⟨b,o,p1,p2,p3⟩:=SZ v1 hx;refine aW (λvs m' a0=>∃P1,vs=[]/\Ext o0 m'/\m.n<=a0/\m'.get o0.n=.cells (KW.c ⟨u,wu,[],P1⟩) 113 none/\Ow (o0.n+1) m' ((y.ms.take (j+1)).filter λx=>decide (x.un=t.id)) P1/\o0.n < m'.n) (λQ' B0=>?_) ?_
     ·rw[ae,p1,ae,dp,ae,p2,ae,J0,ae,aS,ae,aj];refine ak (λc=>?_) (λc=>?_)
      ·obtain⟨a,D0,r',E0,F0,e1,e2,e3,e4,e5,e6,e7,e8⟩:=Rw (x:=x) gk l1 (by omega);rw[(LF gk).2.2.1,ae,ae,p1,ae,p3,ae,e1,aA,e2,aA,e3,aA];refine B0 _ _ _ ⟨r',rfl,⟨by grind,λc hc=>by rw[e8 c hc,b0.get c hc]⟩,by omega,e5,?_,by omega⟩;rw[abt,hx,abK];simp only[ab9,abZ,c,acU,acK];exact e6
      refine B0 _ _ _ ⟨mv,rfl,b0,p0,gk,?_,g4⟩;rw[abt,hx,abK];simp only[ab9,abZ,c,acK,abJ];simpa using l1
     rintro _ m' a0 ⟨P1,rfl,h1,h2,h3,h4,h5⟩;rw[aQ,ae,wrap64 (by omega) (by omega)];exact⟨j+1,by omega,P1,rfl,by omega,h1,h2,h3,h4,h5⟩
    obtain rfl:j=y.ms.length:=by have:¬(j:Int)< (y.ms.length:Int):=aa6 z0;omega
    rw[abR]at l1 k4;have T1:=r0.trans b0;have na:=b0.n;have a3:=s0.aF T1;refine Lp.intro (γ:=Nat) (λi=>kl.length-i) (λi vs m' lo=>vs=[.int .i64 i]/\i<=kl.length/\mm=m'/\m.n<=lo/\∀x∈kl.take i,x.u.id < t.id) 0 ⟨rfl,abh _,rfl,p0,λx hx=>by cases hx⟩ ?_;rintro i _ _ fS ⟨rfl,hi,rfl,y0,l4⟩;rw[aB];refine aW (λvs m' a0=>∃b:Bool,vs=[.bool b]/\mm=m'/\m.n<=a0/\(b=true->∃x,kl[i]?=some x/\x.u.id < t.id)/\(b=false->∀x,kl[i]?=some x->¬x.u.id < t.id)) (λQ' B0=>?_) ?_
    ·rw[(fF (T1.cells g1)).2.1,ae,a3.sl.len gZ,aA,aM,ae,aj];refine ak (λl0=>?_) (λz0=>?_)
     ·have l0:i < kl.length:=by grind
      obtain⟨x,hx⟩:∃x,kl[i]?=some x:=⟨_,aa5 l0⟩
      obtain⟨b,o,e1,e2, -⟩:=AO a3.sl hx;rw[ae,e1,ae,cq,ae,bs,ae,e2,ae,J0,ae,aM,ae];refine B0 _ _ _ ⟨_,rfl,rfl,y0,λc=>⟨x,hx,aba c⟩,λc z hz=>?_⟩;rw[hx]at hz;cases hz;exact aa6 c
     refine B0 _ _ _ ⟨false,rfl,rfl,y0,λc=>(by cases c),λ_ z hz=>?_⟩;have:¬(i:Int)< (kl.length:Int):=aa6 z0;have:=(aa9.1 hz).1;omega
    rintro _ _ b3 ⟨b,rfl,rfl,u0,r5,u5⟩;rw[aB,aj];refine ak (λc=>?_) (λc=>?_)
    ·have⟨x,hx,v5⟩:=r5 c;have:=(aa9.1 hx).1;rw[aQ,ae,wrap64 (by omega) (by omega)];refine⟨i+1,by omega,rfl,by omega,rfl,u0,λz hz=>?_⟩;rw[abt,hx]at hz;rcases abC.1 hz with hz |hz;·exact l4 z hz
     simp only[ab9,abE]at hz;rw[hz];exact v5
    have c3:nk m13.n mm q q2 [] [] [] aeQ aeQ aeQ:=K3.aF (k1.trans b0);obtain⟨G6,m4,n4⟩:=a3.cap.to gZ (by kernel_rfl) hi;rw[(fF c3.cell).2.1,ae,(fF (T1.cells g1)).2.1,ae,m4,ae];obtain⟨H6,J6,C2,o4,f119,u4, -⟩:=c3.st.append Ha (by decide) n4 (by omega) (by grind);have⟨D2,v4,w4,j1,j2,j3,j4⟩:=c3.P9 C2 o4 f119.n u4 f119.get;rw[C2,aA,v4,aA];have w5:D2.get o0.n=.cells (KW.c ⟨u,wu,[],mv⟩) 113 none:=by grind
    rw[(fF w4.cell).2.1,ae,(LF w5).2.2.2,ae];obtain⟨a,y4,r',K6,z4,e1,e2,e3,e4,d3,p1,p2,p3,p4,p5⟩:=w4.Hy (x:=⟨u,wu,(y.ms.filter λx=>decide (x.un=t.id)),mv⟩) ⟨fu.sl.one,l1.sl.one⟩ (by grind);have e1:aG TE D2 34 1 [(0,KW.v ⟨u,wu,[],mv⟩)]=some (a,y4):=e1;rw[e1,aA,e2,aA,e3,aA];have y1:Ext m13 z4:=⟨by omega,λc hc=>by rw[p2 c hc,j2 c hc,T1.get c hc]⟩
    have y5:=s0.aF y1;obtain⟨v138,A4,B4⟩:=y5.cap.from gZ (by kernel_rfl) hi;rw[(fF d3.cell).2.1,ae,(fF (y1.cells g1)).2.1,ae,A4,ae];obtain⟨v139,L6,E2,C4,n139,D4,f139, -⟩:=d3.st.EV Ha rfl (by simp) B4 (by omega) (by grind);have⟨F2,E4,z5,r1,A5,r3,r4⟩:=d3.P9 E2 C4 n139 D4 f139;rw[E2,aA,E4,aA];have z1:Ext m13 F2:=⟨by omega,λc hc=>by rw[A5 c hc,y1.get c hc]⟩
    have fR:∀c cs t' g,mm.get c=.cells cs t' g->t'≠113->t'≠38->F2.get c=.cells cs t' g:=λc cs t' g hc h1 h2=>r3 _ _ _ _ (p3 _ _ _ _ (j3 _ _ _ _ hc h1 h2) h1 h2) h1 h2;refine hQ _ _ _ ⟨rfl,by omega,⟨⟨_,_,?_,z5,?_⟩,z1,rfl⟩⟩
    ·have B5:=RB (f:=λk:Kp=>k.un.id) (l:=y.st) (x:=⟨u,y.ms.filter λx=>decide (x.un=t.id)⟩) (k:=i) hP.xN (by grind) ?_ ?_
     ·unfold Fu;rw[abe k2,O1];show _=Cu _ _ _;rw[B5,<-a1];simp only[Qo,ab6,abM,acN,adp,List.map_take,List.map_drop,abL,aci]
     ·intro z hz;rw[<-a1,<-List.map_take]at hz;obtain⟨x,hx,rfl⟩:=abQ.1 hz;show x.u.id < u.id;rw[(gd O1).2];exact l4 x hx
     intro z hz;have A0:=hP.off z (abb hz) u (gd O1).1;rw[<-a1,ack]at hz;obtain⟨x,hx,rfl⟩:=abq.1 hz;have h1:=u5 c x hx;rw[<-(gd O1).2]at h1;have A0:u.id≠x.u.id:=A0;show u.id < x.u.id;omega
    intro x hx;rw[ab6,abL,abC]at hx;rcases hx with hx |hx;·exact kx z1 (λz hz=>ads hz) x hx
    rcases abp.1 hx with rfl |hx
    ·refine⟨(fu.sl.aF (i1.trans b0)).aY λc cs t' g hc ht=>fR c cs t' g hc ?_ ?_,l1.sl.aY λc cs t' g hc ht=>fR c cs t' g hc ?_ ?_,fu.ln,acR k4 (by decide)⟩ <;>
      (simp only[aZ.ty,aZ.eB,abp,ab0,or_false]at ht;subst ht;decide)
    exact kx z1 (λz hz=>aer hz) x hx
   have k2:=aa6 k2;refine Lp.intro (γ:=Nat) (λi=>kl.length-i) (λi vs mm lo=>∃A1,vs=[.int .i64 i]/\i<=kl.length/\m.n<=lo/\Ext m13 mm/\nk m13.n mm q q2 ((kl.take i).filter λx=> !decide (t.kind=3) || !decide (x.u.id=t.id)) [] [] A1 aeQ aeQ) 0 ⟨_,rfl,abh _,by omega,v0,K3⟩ ?_;rintro i vs mm lo ⟨A1,rfl,hi,p0,b0,hO⟩;have F4:=s0.aF b0;obtain⟨C5,J0, -⟩:=oK (b0.cells g2);have hY:=(fF (b0.cells g1)).2.1;rw[aB,hY,ae,F4.sl.len gZ,aA,aM,ae,aj];refine ak (λl0=>?_) (λz0=>?_)
   ·have l0:i < kl.length:=by grind
    obtain⟨x,hx⟩:∃x,kl[i]?=some x:=⟨_,aa5 l0⟩
    have⟨b,o,e1,e2,e3,w1,w2⟩:=AO F4.sl hx;have nm:=b0.n;refine aW (λvs m' a0=>∃A1,vs=[]/\m.n<=a0/\Ext m13 m'/\nk m13.n m' q q2 ((kl.take (i+1)).filter λx=> !decide (t.kind=3) || !decide (x.u.id=t.id)) [] [] A1 aeQ aeQ) (λQ' B0=>?_) ?_
    ·refine aW (λvs m' a0=>vs=[.bool (!decide (t.kind=3) || !decide (x.u.id=t.id))]/\mm=m'/\m.n<=a0) (λQ2 n0=>?_) ?_
     ·rw[C5,ae,bR,ae,aj];refine ak (λc=>n0 _ _ _ ⟨by grind,rfl,p0⟩) (λc=>?_);rw[ae,e1,ae,cq,ae,bs,ae,e2,ae,J0,ae,bR,ae];exact n0 _ _ _ ⟨by grind,rfl,p0⟩
     rintro _ _ fS ⟨rfl,rfl,y0⟩;rw[aB,aj];refine ak (λc=>?_) (λc=>?_)
     ·obtain⟨a,D0,r',E0,F0,f1,f2,f3,f4,D5,f5,f6, -⟩:=hO.Hy (x:=x) ⟨w1,w2⟩ (acR (acn _ _) (by grind));rw[(fF hO.cell).2.1,ae,hY,ae,e1,ae,e3,ae,f1,aA,f2,aA,f3,aA];refine B0 _ _ _ ⟨r',rfl,by omega,⟨by omega,λc hc=>by rw[f6 c hc,b0.get c hc]⟩,?_⟩;rw[abt,hx,abK];simp only[ab9,abZ,c,acU,acK];exact D5
     refine B0 _ _ _ ⟨A1,rfl,y0,b0,?_⟩;rw[abt,hx,abK];simp only[ab9,abZ,c,acK,abJ];simpa using hO
    rintro _ m' a0 ⟨G4,rfl,h1,h2,h3⟩;rw[aQ,ae,wrap64 (by omega) (by omega)];exact⟨i+1,by omega,G4,rfl,by omega,h1,h2,h3⟩
   obtain rfl:i=kl.length:=by have:¬(i:Int)< (kl.length:Int):=aa6 z0;omega
   rw[abR]at hO;refine hQ _ _ _ ⟨rfl,p0,⟨⟨_,_,?_,hO,kx b0 λx hx=>(abW.1 hx).1⟩,b0,rfl⟩⟩;unfold Fu;rw[abd k2,<-a1];by_cases k3:t.kind=3
   ·rw[abe k3]
    unfold Qo
    rw[List.filter_map]
    congr 1
    apply List.filter_congr
    intro x _
    rw[abl k3];rfl
   rw[abd k3,acH.2 λx _=>by grind]
  rintro _ O0 N6 ⟨rfl,E5,B1⟩;have H4:=B1.x;have n27:=H4.n;have O6:=B1.lt;have⟨tk,tid,Lx,P2,T2⟩:=oK (H4.cells g2);rw[tid,ae,P2,ae,zy,ae];refine av λb7 G5 C1 g3=>?_;refine aC sA C1 rfl rfl rfl λD1 H5 E1 i3=>?_;have gf:D1.get O0.n=.cells (Fc.c ⟨t.id,t.side⟩) 53 none:=E1;have G2:Ext O0 D1:=⟨by omega,λc hc=>by grind⟩
  have n196:=G2.n;have G0:=B1.aF G2;clear C1 g3 E1 i3;have H0:=i5.aF i0;have l3:=j5.aF i0;refine aW (λO2 mm lo=>O2=[.bool (decide (t.kind=8/\(⟨t.id,t.side⟩:Fc)∉y.rc))]/\D1=mm/\m.n<=lo) (λQ hQ=>?_) ?_
  ·rw[(oK (G0.x.cells g2)).1,ae,aS,ae,aj];refine ak (λc=>?_) (λc=>?_)
   ·rw[(fF (G0.x.cells g1)).2.2.2.2,ae,(tP gf).2.2,ae];refine aE (qV hX (H0.aF G0.x) (by omega) ⟨t.id,t.side⟩) ?_;rw[bj,ae];refine hQ _ _ _ ⟨?_,rfl,by omega⟩;have c:=aba c;by_cases e:(⟨t.id,t.side⟩:Fc)∈y.rc;·rw[abl e,abk λh=>h.2 e];rfl
    rw[abk e,abl ⟨c,e⟩];rfl
   refine hQ _ _ _ ⟨?_,rfl,by omega⟩;rw[abk λh=>(aa6 c) h.1]
  rintro _ _ fS ⟨rfl,rfl,y0⟩;rw[aB];have I5:∀(i:Nat) (n:Fc),y.rc[i]?=some n->(t.kind=8/\(⟨t.id,t.side⟩:Fc)∉y.rc->ik ⟨t.id,t.side⟩ n\/ik n ⟨t.id,t.side⟩):=λi n hn hd=>HT λe=>hd.2 (e ▸ abb hn);refine Lp.intro (γ:=Nat) (λi=>y.rc.length-i) (λi vs mm lo=>∃add acc rv,vs=[.bool add,.int .i64 i]/\i<=y.rc.length/\m.n<=lo/\kh m13 m13.n mm q q2 (Fu y t) acc [] rv aeQ/\jN ik (t.kind=8/\(⟨t.id,t.side⟩:Fc)∉y.rc) y.rc ⟨t.id,t.side⟩ add i acc/\acc.length<=2*i/\mm.get O0.n=.cells (Fc.c ⟨t.id,t.side⟩) 53 none/\(∀a n k,rv=.slice (some a) n k->O0.n≠a.block)) 0 ⟨_,[],_,rfl,abh _,y0,G0,jN.init,aa4 _,gf,λa n k e=>by cases e⟩ ?_;rintro i vs mm lo ⟨add,acc,rv,rfl,hi,p0,hW,hI,n3,gf,A0⟩;have b0:=hW.x;have J4:=H0.aF b0
  have J5:=M.bk gf;rw[aB,aB,(fF (b0.cells g1)).2.2.1,ae,J4.len gH,aA,aM,ae,aj];refine ak (λl0=>?_) (λz0=>?_)
  ·have l0:i < y.rc.length:=by grind
   obtain⟨x,hx⟩:∃x,y.rc[i]?=some x:=⟨_,aa5 l0⟩
   have⟨p,e1,e2⟩:=tQ J4 hx;have hT:=I5 i x hx;refine aW (λvs m' a0=>∃e0 d0 j0,vs=[.bool e0]/\m.n<=a0/\kh m13 m13.n m' q q2 (Fu y t) d0 [] j0 aeQ/\jN ik (t.kind=8/\(⟨t.id,t.side⟩:Fc)∉y.rc) y.rc ⟨t.id,t.side⟩ e0 (i+1) (d0++ [x])/\d0.length<=2*i+1/\m'.get O0.n=.cells (Fc.c ⟨t.id,t.side⟩) 53 none/\(∀a n k,j0=.slice (some a) n k->O0.n≠a.block)) (λQ hQ=>?_) ?_
   ·refine aW (λvs m' a0=>vs=[.bool (add && decide (ik ⟨t.id,t.side⟩ x))]/\mm=m'/\m.n<=a0) (λQ2 n0=>?_) ?_
    ·rw[aj];refine ak (λc=>?_) (λc=>n0 _ _ _ ⟨by grind,rfl,p0⟩);rw[(tP gf).2.2,ae,ae,e1,ae,e2,ae];refine aE (wC hX ⟨t.id,t.side⟩ x) ?_;exact n0 _ _ _ ⟨by grind,rfl,by grind⟩
    rintro _ _ b3 ⟨rfl,rfl,u0⟩;rw[aB,aj];refine ak (λc=>?_) (λc=>?_)
    ·rw[abc]at c;obtain⟨rfl,c⟩:=c;have c:=aba c;obtain⟨a,D0,r',E0,F0,f1,f2,f3,f4,g0,f5,f6,f7⟩:=hW.sT (x:=⟨t.id,t.side⟩) (by omega);rw[hW.YY,ae,(tP gf).2.2,ae,f1,aA,f2,aA,f3,aA];refine hQ _ _ _ ⟨false,_,r',rfl,by omega,g0,?_,by grind,by grind,λa n k e=>by grind⟩;have:=hI.put rS Ch hx λh=>Ch _ (rS _ _ _ c h);rw[abe hT]at this;exact this
    ·refine hQ _ _ _ ⟨add,acc,rv,rfl,u0,hW,?_,by omega,gf,A0⟩
     cases add with
     |true=>
      have c:¬ik ⟨t.id,t.side⟩ x:=aa6 c;by_cases hd:t.kind=8/\(⟨t.id,t.side⟩:Fc)∉y.rc
      ·have:=hI.on rS Ch hx ((hT hd).resolve_left c);rw[abe hT]at this;exact this
      unfold jN at hI;rw[abd hd]at hI;cases hI.1
     |false=>have:=hI.off rS hP.DH hx;rw[abe hT]at this;exact this
   rintro _ m' a0 ⟨e0,d0,j0,rfl,h1,g0,h3,h4,h5,h6⟩;have K4:=H0.aF g0.x;have⟨p',K5,L5⟩:=tQ K4 hx;obtain⟨a,D0,r',E0,F0,f1,f2,f3,f4,a2,f5,f6,f7⟩:=g0.sT (x:=x) (by omega);rw[aB,g0.YY,ae,(fF (g0.x.cells g1)).2.2.1,ae,K5,ae,L5,ae,f1,aA,f2,aA,f3,aA,aQ,ae,wrap64 (by omega) (by omega)];have L4:=M.bk h5;exact⟨i+1,by omega,e0,_,r',rfl,by omega,by omega,a2,h3,by grind,by grind,λa n k e=>by grind⟩
  obtain rfl:i=y.rc.length:=by have:¬(i:Int)< (y.rc.length:Int):=aa6 z0;omega
  have h0:=hI.fin Ch rS;rw[<-TL]at h0;refine aW (λvs m' a0=>vs=[]/\m.n<=a0/\∃j0,kh m13 m13.n m' q q2 (Fu y t) (FH y t) [] j0 aeQ) (λQ hQ=>?_) ?_
  ·rw[aj];refine ak (λc=>?_) (λc=>?_)
   ·obtain⟨a,D0,r',E0,F0,f1,f2,f3,f4,g0,f5,f6,f7⟩:=hW.sT (x:=⟨t.id,t.side⟩) (by omega);rw[hW.YY,ae,(tP gf).2.2,ae,f1,aA,f2,aA,f3,aA];rw[abe c]at h0;rw[h0]at g0;exact hQ _ _ _ ⟨rfl,by omega,r',g0⟩
   rw[abd (by grind),abJ]at h0;rw[h0]at hW;exact hQ _ _ _ ⟨rfl,p0,rv,hW⟩
  clear hW hI n3 gf A0 h0;rintro _ k0 N5 ⟨rfl,a5,Q0,I0⟩;have H2:=I0.x;have n271:=H2.n;have O5:=I0.lt;have⟨tk,tid,Lx,P2,T2⟩:=oK (H2.cells g2);rw[tid,ae,Lx,ae,T2,ae,Wp,ae];refine av λd7 a6 F1 o3=>?_;refine aC BD F1 rfl rfl rfl λI2 b6 G1 u3=>?_;have gf:I2.get k0.n=.cells (Mo.c ⟨t.id,t.other,t.dA⟩) 109 none:=G1;have J2:Ext k0 I2:=⟨by omega,λc hc=>by grind⟩
  have n291:=J2.n;have G0:=I0.aF J2;clear F1 o3 G1 u3;rw[(oK (G0.x.cells g2)).1,ae,aS,ae];refine Lp.intro (γ:=Nat) (λi=>y.mo.length-i) (λi vs mm lo=>∃add acc rv,vs=[.bool add,.int .i64 i]/\i<=y.mo.length/\m.n<=lo/\kh m13 m13.n mm q q2 (Fu y t) (FH y t) acc Q0 rv/\jN lP (t.kind=9) y.mo ⟨t.id,t.other,t.dA⟩ add i acc/\acc.length<=2*i/\mm.get k0.n=.cells (Mo.c ⟨t.id,t.other,t.dA⟩) 109 none/\(∀a n k,rv=.slice (some a) n k->k0.n≠a.block/\a.block < mm.n)) 0 ⟨_,[],_,rfl,abh _,by omega,G0,jN.init,aa4 _,gf,λa n k e=>by cases e⟩ ?_;rintro i vs mm lo ⟨add,acc,rv,rfl,hi,p0,hW,hI,n3,gf,A0⟩;have b0:=hW.x;have v1:=l3.aF b0;have J5:=M.bk gf;have r7:=b0.n;rw[aB,aB,(fF (b0.cells g1)).2.2.2.1,ae,v1.len ny,aA,aM,ae,aj]
  refine ak (λl0=>?_) (λz0=>?_)
  ·have l0:i < y.mo.length:=by grind
   obtain⟨x,hx⟩:∃x,y.mo[i]?=some x:=⟨_,aa5 l0⟩
   obtain⟨b,o,e1,e2, -⟩:=HN v1 hx;refine aW (λvs m' a0=>∃e0 d0 j0,vs=[.bool e0]/\m.n<=a0/\kh m13 m13.n m' q q2 (Fu y t) (FH y t) d0 Q0 j0/\jN lP (t.kind=9) y.mo ⟨t.id,t.other,t.dA⟩ e0 (i+1) d0/\d0.length<=2*(i+1)/\m'.get k0.n=.cells (Mo.c ⟨t.id,t.other,t.dA⟩) 109 none/\(∀a n k,j0=.slice (some a) n k->k0.n≠a.block/\a.block < m'.n)) (λQ hQ=>?_) ?_
   ·rw[ae,e1,ae,e2,ae];refine av λg7 c6 H1 v3=>?_;refine aC BD H1 rfl rfl rfl λK0 d6 I1 w3=>?_;have gn:K0.get mm.n=.cells (Mo.c x) 109 none:=I1;have J1:Ext mm K0:=⟨by omega,λc hc=>by grind⟩
    have n317:=J1.n;have gf:=J1.cells gf;have hW:=hW.aF J1;have g6:mm.n < K0.n:=by omega
    clear H1 v3 I1 w3
    have cond:decide (t.id < x.a\/t.id=x.a/\t.other<=x.b)= !decide (lP x ⟨t.id,t.other,t.dA⟩):=by rw[<-decide_not];apply decide_eq_decide.2;unfold lP;show _↔¬(x.a < t.id\/x.a=t.id/\x.b < t.other);omega
    refine aW (λvs m' a0=>∃e0 d0 j0,vs=[.bool e0]/\m.n<=a0/\kh m13 m13.n m' q q2 (Fu y t) (FH y t) d0 Q0 j0/\jN lP (t.kind=9) y.mo ⟨t.id,t.other,t.dA⟩ e0 (i+1) (d0++if(t.kind=9->lP ⟨t.id,t.other,t.dA⟩ x\/lP x ⟨t.id,t.other,t.dA⟩)then [x]else [])/\d0.length<=2*i+1/\m'.get k0.n=.cells (Mo.c ⟨t.id,t.other,t.dA⟩) 109 none/\m'.get mm.n=.cells (Mo.c x) 109 none/\(∀a n k,j0=.slice (some a) n k->k0.n≠a.block/\mm.n≠a.block/\a.block < m'.n)) (λQ hQ=>?_) ?_
    ·refine aW (λvs m' a0=>vs=[.bool (add && decide (t.id < x.a\/t.id=x.a/\t.other<=x.b))]/\K0=m'/\m.n<=a0) (λQ2 n0=>?_) ?_
     ·rw[aj];refine ak (λc=>?_) (λc=>n0 _ _ _ ⟨by grind,rfl,by omega⟩);obtain⟨f1,f2, -⟩:=NX gf;obtain⟨h1,h2, -⟩:=NX gn;rw[f1,ae,h1,ae,aM,ae,aj];refine ak (λc1=>n0 _ _ _ ⟨?_,rfl,by omega⟩) (λc1=>?_)
      ·have c1:t.id < x.a:=aba c1;rw[c,abl (Or.inl c1)];rfl
      have c1:¬t.id < x.a:=aa6 c1;rw[ae,ae,aS,ae,aj];refine ak (λc2=>?_) (λc2=>n0 _ _ _ ⟨?_,rfl,by omega⟩)
      ·have c2:t.id=x.a:=aba c2
       rw[f2,ae,h2,ae,cp,ae]
       refine n0 _ _ _ ⟨?_,rfl,by omega⟩
       rw[c,abG]
       congr 2
       apply decide_eq_decide.2
       show t.other<=x.b↔_
       omega
      have c2:¬t.id=x.a:=aa6 c2;rw[c,abk (by omega)];rfl
     rintro _ _ b3 ⟨rfl,rfl,u0⟩;rw[cond,aB,aj];refine ak (λc=>?_) (λc=>?_)
     ·rw[abc]at c;obtain⟨rfl,c⟩:=c;rw[abz]at c;have c:¬lP x ⟨t.id,t.other,t.dA⟩:=aa6 c;obtain⟨a,D0,r',E0,F0,f1,f2,f3,f4,g0,f5,f6,f7⟩:=hW.sU (x:=⟨t.id,t.other,t.dA⟩) (by omega);rw[hW.YZ,ae,(NX gf).2.2.2,ae,f1,aA,f2,aA,f3,aA];refine hQ _ _ _ ⟨false,_,r',rfl,by omega,g0,hI.put Cg FY hx c,by grind,?_,?_,?_⟩;·rw[f6 k0.n (by omega) (by omega) λa n k e=>(A0 a n k e).1];exact gf
      ·rw[f6 mm.n (by omega) (by omega) λa n k e=>by grind];exact gn
      intro a n k e;have:=f7 a n k e;have:=g0.mob e;omega
     refine hQ _ _ _ ⟨add,acc,rv,rfl,u0,hW,?_,by omega,gf,gn,λa n k e=>?_⟩
     ·cases add with
      |true=>
       have c:lP x ⟨t.id,t.other,t.dA⟩:=by have c:(!decide (lP x ⟨t.id,t.other,t.dA⟩))=false:=c;rw[abu]at c;exact aba c
       exact hI.on Cg FY hx c
      |false=>exact hI.off Cg hP.DX hx
     have:=A0 a n k e;omega
    rintro _ m' a0 ⟨e0,d0,j0,rfl,h1,g0,h3,h4,h5,h6,h7⟩;rw[aB];have s7:=g0.x.n;refine aW (λvs m'' a0=>vs=[.bool (decide (t.kind=9->lP ⟨t.id,t.other,t.dA⟩ x\/lP x ⟨t.id,t.other,t.dA⟩))]/\m'=m''/\m.n<=a0) (λQ2 n0=>?_) ?_
    ·have K2:(lP ⟨t.id,t.other,t.dA⟩ x\/lP x ⟨t.id,t.other,t.dA⟩)↔¬(t.id=x.a/\t.other=x.b):=by
      unfold lP
      show(t.id < x.a\/t.id=x.a/\t.other < x.b)\/(x.a < t.id\/x.a=t.id/\x.b < t.other)↔_
      omega
     obtain⟨f1,f2, -⟩:=NX h5
     obtain⟨u1,u2, -⟩:=NX h6
     rw[(oK (g0.x.cells g2)).1,ae,bR,ae,aj]
     refine ak (λc=>n0 _ _ _ ⟨?_,rfl,h1⟩) (λc=>?_)
     ·rw[abz]at c;have c:=aa6 c;rw[abl λh=>absurd h c]
     rw[abu]at c
     have c:=aba c
     rw[f1,ae,u1,ae,bR,ae,aj]
     refine ak (λc1=>n0 _ _ _ ⟨?_,rfl,h1⟩) (λc1=>?_)
     ·rw[abz]at c1;have c1:¬t.id=x.a:=aa6 c1;rw[abl λ_=>K2.2 λh=>c1 h.1]
     rw[abu]at c1
     have c1:t.id=x.a:=aba c1
     rw[f2,ae,u2,ae,bR,ae]
     refine n0 _ _ _ ⟨?_,rfl,h1⟩
     congr 2
     rw[<-decide_not]
     apply decide_eq_decide.2
     rw[K2]
     show¬t.other=x.b↔_
     constructor
     ·exact λh _ h'=>h h'.2
     ·exact λh h'=>h c ⟨c1,h'⟩
    rintro _ _ b3 ⟨rfl,rfl,u0⟩;rw[aB,aj];refine ak (λc=>?_) (λc=>?_)
    ·have c:=aba c;rw[abe c]at h3;obtain⟨a,D0,r',E0,F0,f1,f2,f3,f4,a2,f5,f6,f7⟩:=g0.sU (x:=x) (by omega);rw[g0.YZ,ae,(NX h6).2.2.2,ae,f1,aA,f2,aA,f3,aA];have L4:=M.bk h5;refine hQ _ _ _ ⟨e0,_,r',rfl,by omega,a2,h3,by grind,?_,?_⟩;·rw[f6 k0.n L4 (by omega) λa n k e=>(h7 a n k e).1];exact h5
     intro a n k e;have:=f7 a n k e;have:=a2.mob e;omega
    have c:=aa6 c;rw[abd c,abJ]at h3;exact hQ _ _ _ ⟨e0,d0,j0,rfl,u0,g0,h3,by omega,h5,λa n k e=>⟨(h7 a n k e).1,(h7 a n k e).2.2⟩⟩
   rintro _ m' a0 ⟨e0,d0,j0,rfl,h1,h2,h3,h4,h5,h6⟩;rw[aB,aQ,ae,wrap64 (by omega) (by omega)];exact⟨i+1,by omega,e0,d0,j0,rfl,by omega,h1,h2,h3,h4,h5,h6⟩
  obtain rfl:i=y.mo.length:=by have:¬(i:Int)< (y.mo.length:Int):=aa6 z0;omega
  have h0:=hI.fin FY Cg;rw[<-T8]at h0;refine aW (λvs m' a0=>vs=[]/\m.n<=a0/\∃j0,kh m13 m13.n m' q q2 (Fu y t) (FH y t) (Rg y t) Q0 j0) (λQ hQ=>?_) ?_
  ·rw[aj];refine ak (λc=>?_) (λc=>?_)
   ·obtain⟨a,D0,r',E0,F0,f1,f2,f3,f4,g0,f5,f6,f7⟩:=hW.sU (x:=⟨t.id,t.other,t.dA⟩) (by omega);rw[hW.YZ,ae,(NX gf).2.2.2,ae,f1,aA,f2,aA,f3,aA];rw[abe c]at h0;rw[h0]at g0;exact hQ _ _ _ ⟨rfl,by omega,r',g0⟩
   rw[abd (by grind),abJ]at h0;rw[h0]at hW;exact hQ _ _ _ ⟨rfl,p0,rv,hW⟩
  clear hW hI n3 gf A0 h0;rintro _ L2 i6 ⟨rfl,b5,N4,O4⟩;have xZ:=O4.x;have nZ:=xZ.n;obtain⟨⟨sl,R4,j6,C0,L0⟩, -, -⟩:=O4;rw[(fF C0.cell).2.2.2.2,ae];refine aC mJ (xZ.cells gz) rfl rfl (by show(one q && (one q2 && (one R4 && (one Q0 && (one N4 && true)))))=true;rw[o1,o2,C0.st.sl.one,C0.rc.sl.one,C0.mo.sl.one];rfl) λN0 k6 y3 K1=>?_;have W4:N0.get m2.n=.cells (yc q q2 R4 Q0 N4) 38 none:=y3;rw[(fF W4).2.2.2.2,ae]
  have fR:∀c cs t' g,L2.get c=.cells cs t' g->t'≠38->N0.get c=.cells cs t' g:=λc cs t' g hc ht=>by rw[K1 c (λe=>by subst e;rw[xZ.cells gz]at hc;cases hc;exact ht rfl),hc]
  refine hR _ _ _ _ _ _ _ _ (by omega) ⟨by omega,λc hc=>by rw[K1 c (by omega),xZ.get c (by omega),d1.get c hc]⟩ ?_;obtain⟨acc,_,_,e,l6,m6,n6⟩:=gR.Xh (m'':=N0) H3 λc cs t' g hc ht=>fR c cs t' g ((b1.trans xZ).cells hc) (by grind);cases e;have kd:∀{c:Nat} {cs:aeN} {t':TypeId} {g:Option Nat},L2.get c=.cells cs t' g->t'≠38->N0.get c=.cells cs t' g:=λhc ht=>fR _ _ _ _ hc ht;refine⟨_,_,_,_,_,rfl,⟨acc,l6,m6⟩,n6,⟨sl,j6,⟨?_,?_,?_,?_,?_,?_⟩⟩,?_,?_⟩;·exact C0.st.sl.aY λc cs t' g hc ht=>kd hc (by simp only[aZ.ty,aZ.eB,abp,ab0,or_false]at ht;subst ht;decide)
  ·exact C0.st.sln.aY λc cs t' g hc ht=>kd hc (by simp only[aZ.ty,aZ.eB,abp,ab0,or_false]at ht;subst ht;decide)
  ·exact λx hx=>(L0 x hx).1.aY λc cs t' g hc ht=>kd hc (by simp only[aZ.ty,aZ.eB,abp,ab0,or_false]at ht;subst ht;decide)
  ·exact λx hx=>(L0 x hx).2.1.aY λc cs t' g hc ht=>kd hc (by simp only[aZ.ty,aZ.eB,abp,ab0,or_false]at ht;subst ht;decide)
  ·exact λx hx=>(L0 x hx).2.2.1
  ·exact λx hx=>(L0 x hx).2.2.2
  ·exact C0.rc.sl.aY λc cs t' g hc ht=>kd hc (by simp only[aZ.ty,aZ.eB,abp,ab0,or_false]at ht;subst ht;decide)
  exact C0.mo.sl.aY λc cs t' g hc ht=>kd hc (by simp only[aZ.ty,aZ.eB,abp,ab0,or_false]at ht;subst ht;decide)
 refine H _ λr r2 st rc mo t' m' lo p0 hx hs=>?_;show(bB (.tuple #[yv r r2 st rc mo,t'])=true/\m.n<=lo/\(m.n=m.n/\Ext m m/\lM _ m (.tuple #[yv r r2 st rc mo,t'])))\/((bB (.tuple #[yv r r2 st rc mo,t'])=false\/lo < m.n)/\(min m.n lo=m.n/\Ext m m'/\lM _ m' (.tuple #[yv r r2 st rc mo,t'])));cases hf:bB (.tuple #[yv r r2 st rc mo,t']);·exact .inr ⟨.inl rfl,by omega,hx,hs⟩
 exact .inl ⟨rfl,p0,rfl,.refl,hs.flat hf m⟩
theorem _root_.Go.D.Sl.YC{l:List Ct}{v:aeM}(h:Sl m l v){i:Nat}{x:Ct}(hi:l[i]?=some x){k:IntKind}:∃a,an TE 138 v (.int k i)=some a/\ah TE m 145 a=some x.v:=by have⟨a,cs,h1,h2,H⟩:=h.index Fx (k:=k) hi;have H:cs=x.c':=H;subst H;exact⟨a,h1,h2⟩
theorem Zc{b:Nat}{x:Ct}{g:Option Nat}(h:m.get b=.cells x.c' 145 g):
  ah TE m 3 (aeK b (0+0))=some (aeP x.a)/\ah TE m 3 (aeK b (0+1))=some (aeP x.b)/\
  ah TE m 141 (aeK b (0+2+0))=some x.p.v/\ah TE m 141 (aeK b (0+2+2))=some x.q.v:=by
 refine⟨?_,?_,?_,?_⟩;·rw[bI,aI h];rfl
 ·rw[bI,aI h];rfl
 ·rw[lh,aN (n:=2) h (by grind)];rfl
 rw[lh,aN (n:=2) h (by simp_all)];rfl
end
end Go.Proofs.YtigpcbodmjjaiaaGreatDoor
