/- An element of a row of one's .. -/
import Derived.Test.YtigpcbodmjjaiaaGreatDoorG7J
import Derived.Deep.WholeRow
import Derived.Lib.AppendZerosOnto
import Derived.Shelf.Spec.SlicesInsert
set_option maxRecDepth 100000
noncomputable section
open Go Go.D Go.Proofs.Tryz
namespace Go.Proofs.YtigpcbodmjjaiaaGreatDoor
variable {m:M}
section
variable {α:Type} [aZ α]
theorem Lg{cs:aeN}{k i j p:Nat}{c:aeM}(H:j < k):chunk (cs.set (i*k+j) c) k p=if p=i then(chunk cs k p).set j c else chunk cs k p:=by
 unfold chunk;by_cases e:p=i
 ·subst e;rw[abe rfl,aeu,abd (by omega),show p*k+j-p*k=j by omega,List.take_set]
 rw[abd e];by_cases h:p < i
 ·have:(p+1)*k<=i*k:=ab4 _ h;rw[acg,acW]at this;rw[aeu,abd (by omega),List.take_set,List.set_eq_of_length_le (by grind)]
 have:(i+1)*k<=p*k:=ab4 _ (by omega);rw[acg,acW]at this;rw[aeu,abe (by omega)]
theorem TO(h0:aZ.eB α=[]){n1:Nat}{l:List α}{v:aeM}(h:Ow n1 m l v){i:Nat}{x:α}(hi:l[i]?=some x){T t0:TypeId}(hT:oP TE T t0 α):
  ∃b,(∀q,an TE T v (.int q i)=some (aeK b (0+i*aZ.sz α)))/\n1<=b/\(∃cs g,m.get b=.cells cs (aZ.ty α) g)/\b < m.n/\
   (∃cs,aZ.rep m x cs/\∀j,j < aZ.sz α->cellAt m ⟨b,0+i*aZ.sz α+j,none⟩=cs[j]?)/\
   ∀(k:Nat) (t:TypeId) (ti:TI) (y:α) (c:aeM),TE.ty.get t=some ti->ti.size=1->cells c=[c]->one c->k < aZ.sz α->(∀cs,aZ.rep m x cs->∀m',aZ.rep m' y (cs.set k c))->
    ∀P:M->Nat->Prop,(∀m1,m1.n=m.n->Ow n1 m1 (l.set i y) v->(∀c,c≠b->m1.get c=m.get c)->P m1 b)->
    aP (aD TE m t (aeK b (0+i*aZ.sz α+k)) c) P:=by
 have b0:=(aa9.1 hi).1;rcases h with⟨_,rfl⟩ |⟨b,cs,rfl,h2,h3,h4,h5,h6⟩
 ·grind
 have⟨d0,te,t1,⟨e,t2⟩,t3,t4,t5,t6⟩:=hT;have g0:=aZ.pos (α:=α);have hmul:(i+1)*aZ.sz α<=l.length*aZ.sz α:=ab4 _ b0;rw[acg,acW]at hmul;refine⟨b,λq=>?_,h3,⟨cs,_,h4⟩,M.bk h4,⟨_,h6 i x hi,λj hj=>?_⟩,λk t ti y c ht i0 hc h1 hk hy P hP=>?_⟩
 ·have H:0<=(i:Int)/\(i:Int)< (l.length:Int)/\0 < d0.es:=⟨by omega,by omega,by omega⟩
  simp only[an,t1,t2];rw[abe H,aV rfl,t3];rfl
 ·rw[aI h4]
  unfold chunk
  grind
 refine cg ht h4 (by grind) (by grind) (by grind) λm1 hn hg e0=>?_;rw[hc]at hg
 have a0:cs.take (0+i*aZ.sz α+k)++([c]++cs.drop (0+i*aZ.sz α+k+ [c].length))=cs.set (i*aZ.sz α+k) c:=by rw[abV];exact kG (by omega)
 rw[a0]at hg;refine hP m1 hn (.inr ⟨b,_,by grind,by grind,h3,hg,by grind,λp z hz=>?_⟩) e0;rw[Lg hk];by_cases e:p=i
 ·grind
 rw[abd e];rw[List.getElem?_set_ne (Ne.symm e)]at hz;exact aZ.aY (h6 p z hz) λb c t g _ h=>by grind
end
end Go.Proofs.YtigpcbodmjjaiaaGreatDoor
namespace Go.D
open Go
section
section
variable {P:Program} {E:Env} {X:aK} {σ:Sg} {m m1:M} {w w':World} {f:Nat} {args:aeN} {v:aeM} {args':Array aeM}
theorem Cl.calls(hE:E.OK P)(H:dc P X)(hc:Cl E X (.func f) args m m.n v m1)(hs:eN P σ m w)(hl:bK σ args args'.toList):
  CallsIn Fence.wide 0 P f args' w (dX P σ (m.wl m.n) w v (m1.wl m.n))/\(callFunc f args').run P w=.ok (.enter f args') w:=by have⟨hn,_,n0,h⟩:=hc;have h1:=h (n0+1) (by omega) m.n (aa4 _);rw[aeh]at h1;exact sg hE H (mi hE H n0) h1 (hs.low m.n) hl
theorem dX.flat(hs:eN P σ m w)(hv:bF v){e:Ending}(h:dX P σ (m.wl m.n) w v (m1.wl m.n) e w'):dX P σ m w v m e w':=by obtain⟨v',σ',rfl,H,he⟩:=h;have:=H.bM hv;subst this;exact⟨_,σ,rfl,.flat _ hv,Ev.kept hs (λB hB=>he.heap B hB λb i hb _=>hs.sw b i hb) he.hle he.os he.tape he.output⟩
end
end
section
abbrev Bt:=Fn->aeN->M->Option M
noncomputable section
variable (E:Env)
end
section
variable {E:Env} {P:Program} {call:aK} {pan:Bt} {nt:Nat} {σ σ':Sg} {m m':M} {w w':World} {a:Act} {iv:aeM}
section
variable {ops:Array Oper} {p:Nat} {tr:Nat->Tr aeM} {L:Nat->Prop} {ds:List Deferred}
end
end
end
section
section
variable {E:Env} {X:aK} {B:Bt}
end
noncomputable section
variable (E:Env) (X:aK) (B:Bt)
end
section
variable {E:Env} {X:aK} {B:Bt}
end
end
section
noncomputable section
variable (E:Env)
end
section
variable {E:Env} {P:Program} {call:aK} {nt:Nat} {σ σ':Sg} {m m':M} {w w':World} {a:Act} {r:aeM}
end
end
section
noncomputable section
section
variable {E:Env} {X:aK} {B:Bt} {r:aeM}
end
end
end
section
section
variable {P:Program} {σ:Sg} {m m':M} {w w':World}
end
end
section
section
variable {E:Env} {X:aK}
end
noncomputable section
end
section
variable {E:Env} {X:aK} {B:Bt} {r:aeM} {f:Nat} {d:Tf} {P:Program}
end
end
end Go.D
namespace Go.Proofs
section
open Go.D Go.Shelf Go.RowKit Go.Lib
end
section
open Go.D Go.RowKit
end
end Go.Proofs
namespace Go.Proofs.YtigpcbodmjjaiaaGreatDoor
section
variable {X:aK} {m:M}
section
variable {α:Type} [aZ α]
end
section
variable {α:Type} [aZ α]
end
section
variable {α:Type} [aZ α]
end
section
variable {S:Nat} {r v:aeM} {g:Option Nat}
end
theorem Q7{r:aeM}(h:one r):(cells (.agg #[r])).all one:=by show(one r && true)=true;rw[h];rfl
abbrev Ac.c(a:Ac)(w:aeM):aeN:=[.int .i64 a.kind,.int .i64 a.un.id,.int .i64 a.un.kind,.int .i64 a.un.dA,w,.int .i64 a.un.back,.int .i64 a.un.front,.int .i64 a.id,.int .i64 a.i,.int .i64 a.k,.int .i64 a.zN.id,.int .i64 a.zN.un,.int .i64 a.zN.side,.int .i64 a.zN.kind,.bool a.zN.LB]
abbrev Ac.v(a:Ac)(w:aeM):aeM:=.agg (a.c w).toArray
section
variable {b:Nat} {a:Ac} {w:aeM} {g:Option Nat}
theorem Qe(h:m.get b=.cells (a.c w) 184 g):ah TE m 60 (aeK b (0+1))=some (a.un.v w):=by rw[qB,aN (n:=6) h (by simp_all)];rfl
theorem Qf(h:m.get b=.cells (a.c w) 184 g):ah TE m 137 (aeK b (0+10))=some a.zN.v:=by rw[Ef,aN (n:=5) h (by simp_all)];rfl
theorem YD(h:m.get b=.cells (a.c w) 184 g):
  ah TE m 3 (aeK b (0+0))=some (aeP a.kind)/\ah TE m 3 (aeK b (0+7))=some (aeP a.id)/\ah TE m 3 (aeK b (0+8))=some (aeP a.i)/\
  ah TE m 3 (aeK b (0+9))=some (aeP a.k)/\ah TE m 3 (aeK b (0+10+0))=some (aeP a.zN.id)/\ah TE m 3 (aeK b (0+1+0))=some (aeP a.un.id):=by refine⟨?_,?_,?_,?_,?_,?_⟩ <;>(rw[bI,aI h];rfl)
end
section
variable {n1 S:Nat} {l:List UW} {ms:List Mk} {r v w:aeM} {a:Ac}
end
section
variable {n1 S:Nat} {l:List UW} {ms:List Mk} {r v w:aeM} {a:Ac}
end
section
variable {n1 S:Nat} {l:List UW} {ms:List Mk} {r v w:aeM} {a:Ac}
end
theorem V6{x:Mk}:az TE .eql 137 x.v (Mk.v ⟨0,0,0,0,false⟩)=some (.bool (wD x)):=by
 have e:az TE .eql 137 x.v (Mk.v ⟨0,0,0,0,false⟩)=some (.bool ((x.id==0) && ((x.un==0) && ((x.side==0) && ((x.kind==0) && ((x.LB==false) && true)))))):=by kernel_rfl
 rw[e]
 unfold wD
 congr 2
 have⟨a,b,c,d,e⟩:=x
 grind
theorem eJ(hX:cC X)(n lo hi:Int):C X (.func 301) [aeP n,aeP lo,aeP hi] m m.n (.bool (cQ n lo hi)) m:=by
 refine Cl.flat (hX.no _ rfl) (aa3 func301) rfl rfl ?_;rw[Zm];dsimp only[η];refine aW (λvs m2 H=>vs=[.bool (cQ n lo hi)]/\m.n<=H) (λR hR=>?_) ?_
 ·simp only[cp,cB,ae,aj];refine ak (λh=>hR _ _ _ ⟨by simp[cQ,h],aa4 _⟩) (λh=>hR _ _ _ ⟨by simp[cQ,h],aa4 _⟩)
 rintro _ m2 H ⟨rfl,hl⟩;rw[aB];exact⟨rfl,hl⟩
theorem AL(hX:cC X)(x:Mk):C X (.func 224) [x.v] m m.n (.bool (AK x)) m:=by
 refine Cl.flat (hX.no _ rfl) (aa3 func224) rfl rfl ?_;rw[ZE];dsimp only[δ,ε,ρ,υ,φ,χ,Γ,ψ,ω];refine av λm1 b0 H d0=>?_;have H:m1.get m.n=.cells x.c 137 none:=H;obtain⟨l0,l1,l2,l3, -⟩:=Db H;unfold ptrTo;refine aW (λvs m' lo=>vs=[.bool (AK x)]/\m.n<=lo) (λR hR=>?_) ?_
 ·rw[bW,ae,l0,ae];refine aE (eJ hX _ _ _) ?_;rw[aj];refine ak (λc1=>?_) (λc1=>hR _ _ _ ⟨by unfold AK;rw[c1];rfl,by omega⟩);rw[dp,ae,l1,ae];refine aE (eJ hX _ _ _) ?_;rw[aj];refine ak (λc2=>?_) (λc2=>hR _ _ _ ⟨by unfold AK;rw[c1,c2];rfl,by omega⟩);rw[eF,ae,l2,ae];refine aE (eJ hX _ _ _) ?_;rw[aj];refine ak (λc3=>?_) (λc3=>hR _ _ _ ⟨by unfold AK;rw[c1,c2,c3];rfl,by omega⟩);rw[kb,ae,l3,ae];refine aE (eJ hX _ _ _) ?_;exact hR _ _ _ ⟨by unfold AK;rw[c1,c2,c3];rfl,by omega⟩
 rintro _ m' lo ⟨rfl,a0⟩;rw[aB];exact⟨rfl,a0⟩
theorem Ak(hX:cC X){u:Un}{w:aeM}(hw:Sl m u.shape w):C X (.func 302) [u.v w] m m.n (.bool (eX u)) m:=by
 refine Cl.flat (hX.no _ rfl) (aa3 func302) rfl rfl ?_;rw[Zl];dsimp only[δ,ε,η,κ,ρ,υ,φ];refine av λm1 g0 H a0=>?_;have H:m1.get m.n=.cells (u.c w) 60 none:=H;have b0:=hw.aF (m':=m1) ⟨by omega,a0⟩;obtain⟨-,l1,l2,l3,l4,l5⟩:=kU H;unfold ptrTo;refine aW (λvs m' lo=>vs=[.bool (eX u)]/\m.n<=lo) (λR hR=>?_) ?_
 ·simp only[cM,cL,bH,cK,cJ,ae,l1,l2,l3,l4,l5,b0.len cx,aA,aS,aj]
  have d0:decide ((u.shape.length:Int)=0)=decide (u.shape=[]):=by
   simp_all
  refine ak (λc1=>?_) (λc1=>hR _ _ _ ⟨by unfold eX;rw[c1];rfl,by omega⟩);refine ak (λc2=>?_) (λc2=>hR _ _ _ ⟨by unfold eX;rw[c1,c2];rfl,by omega⟩);rw[d0];refine ak (λc3=>?_) (λc3=>hR _ _ _ ⟨by unfold eX;rw[c1,c2,c3];rfl,by omega⟩);refine ak (λc4=>?_) (λc4=>hR _ _ _ ⟨by unfold eX;rw[c1,c2,c3,c4];rfl,by omega⟩);exact hR _ _ _ ⟨by unfold eX;rw[c1,c2,c3,c4];rfl,by omega⟩
 rintro _ m' lo ⟨rfl,e0⟩;rw[aB];exact⟨rfl,e0⟩
def pC(a:Ac):Bool:=eX a.un && decide (a.un.id=0)
def mM(a:Ac):Bool:=decide (a.i=0) && decide (a.k=0)
section
variable {a:Ac}
theorem RT(hk:a.kind=1):eC a=(jO a.un && (decide (a.id=0) && (mM a && wD a.zN))):=by
 unfold eC nB mM
 grind
theorem RS(hk:a.kind=2):eC a=(cQ a.id 0 99 && (pC a && (mM a && wD a.zN))):=by
 unfold eC nB mM pC uR
 grind
theorem RR(hk:a.kind=3):eC a=(cQ a.id 0 99 && (eX a.un && (cQ a.un.id 0 99 && (!decide (a.un.id=a.id) && (cQ a.i 0 7 && (cQ a.k 0 7 && (!decide (a.i=a.k) && wD a.zN))))))):=by
 unfold eC nB
 grind
theorem RQ(hk:a.kind=4):eC a=(cQ a.id 0 99 && (pC a && (cQ a.i (-40) 40 && (cQ a.k (-40) 40 && (!mM a && wD a.zN))))):=by
 unfold eC nB mM pC
 grind
theorem RP(hk:a.kind=5):eC a=(AK a.zN && (decide (a.id=0) && (pC a && mM a))):=by
 unfold eC nB mM pC uR
 grind
theorem Io(hk:a.kind=6\/a.kind=7):eC a=(cQ a.id 0 99 && (pC a && (mM a && wD a.zN))):=by
 unfold eC nB mM pC uR
 grind
theorem RU(h:¬a.kind=1/\¬a.kind=2/\¬a.kind=3/\¬a.kind=4/\¬a.kind=5/\¬a.kind=6/\¬a.kind=7):eC a=false:=by
 unfold eC nB
 grind
end
theorem Eu(hX:cC X){a:Ac}{w:aeM}(hw:Sl m a.un.shape w)(hl:a.un.shape.length < 4611686018427387904):C X (.func 227) [a.v w] m m.n (.bool (eC a)) m:=by
 refine Cl.flat (hX.no _ rfl) (aa3 func227) rfl rfl ?_;rw[ZB];dsimp only[aL,aaO,aaP,aaR,aaS,aaX,aaY,aa0,aa1,aa2,Γ,Δ,ψ,ω];refine av λm1 k0 h0 i0=>?_;have g1:m1.get m.n=.cells (a.c w) 184 none:=h0;have g0:=hw.aF (m':=m1) ⟨by omega,i0⟩;obtain⟨fk,b0,fi,e0, -,d0⟩:=YD g1;have fU:=Qe g1;have fM:=Qf g1;unfold ptrTo;refine aW (λvs mm lo=>vs=[.bool (pC a)]/\m1=mm/\lo=m.n) (λR H=>?_) ?_
 ·rw[jY,ae,fU,ae];refine aE (Ak hX g0) ?_;rw[aj];refine ak (λc=>?_) (λc=>H _ _ _ ⟨by unfold pC;rw[c];rfl,rfl,by omega⟩);rw[ae,bs,ae,d0,ae,aS,ae];exact H _ _ _ ⟨by unfold pC;rw[c];rfl,rfl,by omega⟩
 rintro _ _ _ ⟨rfl,rfl,rfl⟩;rw[aB];refine aW (λvs mm lo=>vs=[.bool (mM a)]/\m1=mm/\lo=m.n) (λR H=>?_) ?_
 ·rw[oF,ae,fi,ae,aS,ae,aj];refine ak (λc=>?_) (λc=>H _ _ _ ⟨by unfold mM;rw[c];rfl,rfl,rfl⟩);rw[oE,ae,e0,ae,aS,ae];exact H _ _ _ ⟨by unfold mM;rw[c];rfl,rfl,rfl⟩
 rintro _ _ _ ⟨rfl,rfl,rfl⟩;have j0:aJ TE 137 []=some (Mk.v ⟨0,0,0,0,false⟩):=GP;rw[aB];simp only[jZ,jY,jX,oF,oE,oD,bs,ae];rw[fM,ae,j0,ae,V6,ae,fk,ae];have done:∀{lo:Nat} {b:Bool},m.n<=lo->b=eC a->bC [Value.bool b]=Value.bool (eC a)/\m.n<=lo:=λa0 e=>⟨by rw[e];rfl,a0⟩
 rw[aS,ae,aj];refine ak (λk1=>?_) (λk1=>?_)
 ·have hf:=RT (aba k1);refine aW (λvs mm lo=>vs=[.bool (eC a)]/\m.n<=lo) (λR H=>?_) (by rintro _ mm lo ⟨rfl,a0⟩;rw[aB];exact done a0 rfl);rw[hf]at H;rw[fU,ae];refine aE (je hX g0 hl) ?_;rw[aj];refine ak (λc1=>?_) (λc1=>H _ _ _ ⟨by grind,by omega⟩);rw[b0,ae,aS,ae,aj];refine ak (λc2=>?_) (λc2=>H _ _ _ ⟨by grind,by omega⟩);rw[aj];refine ak (λc3=>?_) (λc3=>H _ _ _ ⟨by grind,by omega⟩);exact H _ _ _ ⟨by grind,by omega⟩
 have k1:=aa6 k1;rw[aS,ae,aj];refine ak (λk2=>?_) (λk2=>?_)
 ·have hf:=RS (aba k2);refine aW (λvs mm lo=>vs=[.bool (eC a)]/\m.n<=lo) (λR H=>?_) (by rintro _ mm lo ⟨rfl,a0⟩;rw[aB];exact done a0 rfl);rw[hf]at H;rw[b0,ae];refine aE (eJ hX _ _ _) ?_;rw[aj];refine ak (λc1=>?_) (λc1=>H _ _ _ ⟨by grind,by omega⟩);rw[aj];refine ak (λc2=>?_) (λc2=>H _ _ _ ⟨by grind,by omega⟩);rw[aj];refine ak (λc3=>?_) (λc3=>H _ _ _ ⟨by grind,by omega⟩);exact H _ _ _ ⟨by grind,by omega⟩
 have k2:=aa6 k2;rw[aS,ae,aj];refine ak (λk3=>?_) (λk3=>?_)
 ·have hf:=RR (aba k3);refine aW (λvs mm lo=>vs=[.bool (eC a)]/\m.n<=lo) (λR H=>?_) (by rintro _ mm lo ⟨rfl,a0⟩;rw[aB];exact done a0 rfl);rw[hf]at H;rw[b0,ae];refine aE (eJ hX _ _ _) ?_;rw[aj];refine ak (λc1=>?_) (λc1=>H _ _ _ ⟨by grind,by omega⟩);rw[fU,ae];refine aE (Ak hX g0) ?_;rw[aj];refine ak (λc2=>?_) (λc2=>H _ _ _ ⟨by grind,by omega⟩);rw[d0,ae];refine aE (eJ hX _ _ _) ?_;rw[aj];refine ak (λc3=>?_) (λc3=>H _ _ _ ⟨by grind,by omega⟩);rw[d0,ae,b0,ae,bR,ae,aj];refine ak (λc4=>?_) (λc4=>H _ _ _ ⟨by grind,by omega⟩);rw[fi,ae];refine aE (eJ hX _ _ _) ?_;rw[aj];refine ak (λc5=>?_) (λc5=>H _ _ _ ⟨by grind,by omega⟩);rw[e0,ae];refine aE (eJ hX _ _ _) ?_;rw[aj];refine ak (λc6=>?_) (λc6=>H _ _ _ ⟨by grind,by omega⟩)
  rw[fi,ae,e0,ae,bR,ae,aj];refine ak (λc7=>?_) (λc7=>H _ _ _ ⟨by grind,by omega⟩);exact H _ _ _ ⟨by grind,by omega⟩
 have k3:=aa6 k3;rw[aS,ae,aj];refine ak (λk4=>?_) (λk4=>?_)
 ·have hf:=RQ (aba k4);refine aW (λvs mm lo=>vs=[.bool (eC a)]/\m.n<=lo) (λR H=>?_) (by rintro _ mm lo ⟨rfl,a0⟩;rw[aB];exact done a0 rfl);rw[hf]at H;rw[b0,ae];refine aE (eJ hX _ _ _) ?_;rw[aj];refine ak (λc1=>?_) (λc1=>H _ _ _ ⟨by grind,by omega⟩);rw[aj];refine ak (λc2=>?_) (λc2=>H _ _ _ ⟨by grind,by omega⟩);rw[fi,ae];refine aE (eJ hX _ _ _) ?_;rw[aj];refine ak (λc3=>?_) (λc3=>H _ _ _ ⟨by grind,by omega⟩);rw[e0,ae];refine aE (eJ hX _ _ _) ?_;rw[aj];refine ak (λc4=>?_) (λc4=>H _ _ _ ⟨by grind,by omega⟩);rw[bj,ae,aj];refine ak (λc5=>?_) (λc5=>H _ _ _ ⟨by grind,by omega⟩);exact H _ _ _ ⟨by grind,by omega⟩
 have k4:=aa6 k4;rw[aS,ae,aj];refine ak (λk5=>?_) (λk5=>?_)
 ·have hf:=RP (aba k5);refine aW (λvs mm lo=>vs=[.bool (eC a)]/\m.n<=lo) (λR H=>?_) (by rintro _ mm lo ⟨rfl,a0⟩;rw[aB];exact done a0 rfl);rw[hf]at H;rw[ae];refine aE (AL hX _) ?_;rw[aj];refine ak (λc1=>?_) (λc1=>H _ _ _ ⟨by grind,by omega⟩);rw[b0,ae,aS,ae,aj];refine ak (λc2=>?_) (λc2=>H _ _ _ ⟨by grind,by omega⟩);rw[aj];refine ak (λc3=>?_) (λc3=>H _ _ _ ⟨by grind,by omega⟩);exact H _ _ _ ⟨by grind,by omega⟩
 have k5:=aa6 k5;rw[aS,ae,aj];refine ak (λk6=>?_) (λk6=>?_)
 ·have hf:=Io (.inl (aba k6));rw[aj,k6,bL];refine aW (λvs mm lo=>vs=[.bool (eC a)]/\m.n<=lo) (λR H=>?_) (by rintro _ mm lo ⟨rfl,a0⟩;rw[aB];exact done a0 rfl);rw[hf]at H;rw[b0,ae];refine aE (eJ hX _ _ _) ?_;rw[aj];refine ak (λc1=>?_) (λc1=>H _ _ _ ⟨by grind,by omega⟩);rw[aj];refine ak (λc2=>?_) (λc2=>H _ _ _ ⟨by grind,by omega⟩);rw[aj];refine ak (λc3=>?_) (λc3=>H _ _ _ ⟨by grind,by omega⟩);exact H _ _ _ ⟨by grind,by omega⟩
 have k6:=aa6 k6;rw[aS,ae,aj];refine ak (λk7=>?_) (λk7=>?_)
 ·have hf:=Io (.inr (aba k7));refine aW (λvs mm lo=>vs=[.bool (eC a)]/\m.n<=lo) (λR H=>?_) (by rintro _ mm lo ⟨rfl,a0⟩;rw[aB];exact done a0 rfl);rw[hf]at H;rw[b0,ae];refine aE (eJ hX _ _ _) ?_;rw[aj];refine ak (λc1=>?_) (λc1=>H _ _ _ ⟨by grind,by omega⟩);rw[aj];refine ak (λc2=>?_) (λc2=>H _ _ _ ⟨by grind,by omega⟩);rw[aj];refine ak (λc3=>?_) (λc3=>H _ _ _ ⟨by grind,by omega⟩);exact H _ _ _ ⟨by grind,by omega⟩
 have k7:=aa6 k7;exact done (by omega) (RU ⟨k1,k2,k3,k4,k5,k6,k7⟩).symm
theorem kD{mm:M}{b:Nat}{v vm:aeM}{g:Option Nat}(h:mm.get b=.cells [v,vm] 33 g):
  ah TE mm 30 (aeK b (0+0))=some (.agg #[v])/\ah TE mm 28 (aeK b (0+0+0))=some v/\ah TE mm 31 (aeK b (0+1))=some vm/\ah TE mm 33 (aeK b 0)=some (.agg #[v,vm]):=by
 refine⟨?_,?_,?_,?_⟩;·rw[ez,aN (n:=1) h (by grind)];rfl
 ·rw[eO,aI h];rfl
 ·rw[nN,aI h];rfl
 rw[tE,aN (n:=2) h (by grind)];rfl
def SV(x:Mk)(u:Un):Bool:=decide (u.id=x.un) && decide (x.side < (u.shape.length:Int))
theorem HF{us:List Un}{x:Mk}:us.any (SV x)↔∃u∈us,u.id=x.un/\x.side < u.shape.length:=by rw[acA];constructor <;>rintro⟨u,hu,h⟩ <;>refine⟨u,hu,?_⟩ <;>simpa[SV]using h
theorem Ww{ms:List Mk}(h:∀j x y,ms[j]?=some x->ms[j+1]?=some y->x.id < y.id):ms.Pairwise λa b=>a.id < b.id:=by
 have key:∀d i x y,ms[i]?=some x->ms[i+d+1]?=some y->x.id < y.id:=by
  intro d
  induction d with
  |zero=>intro i x y H hy;exact h i x y H hy
  |succ d ih=>
   grind
 rw[abF]
 intro i j hi hj a0
 refine key (j-i-1) i _ _ (aa5 hi) ?_
 grind
open Classical in
theorem ve{us:List Un}{ms:List Mk}(h:¬iV us ms):iI us ms=false:=by unfold iI;exact abk h
open Classical in
theorem fY{us:List Un}{ms:List Mk}:iI us ms=true↔iV us ms:=by unfold iI;exact decide_eq_true_iff
theorem kW(hX:cC X){l:List UW}{v vm:aeM}{ms:List Mk}(h:dg m l v)(hlen:l.length < 1000)(hm:Sl m ms vm)(G1:ms.length < 4611686018427387904):
  C X (.func 176) [.agg #[v,vm]] m m.n (.bool (fQ (bP l) && iI (bP l) ms)) m:=by
 refine Cl.flat (hX.no _ rfl) (aa3 func176) rfl rfl ?_;rw[Z4];dsimp only[δ,ε,ζ,η,ι,κ,ο,ρ,ς,υ,φ,χ,ψ];refine av λm1 H1 a1 b1=>?_;have g1:m1.get m.n=.cells [v,vm] 33 none:=a1;have k0:Ext m m1:=⟨by omega,b1⟩
 unfold ptrTo;simp only[bZ,cN,bO,ae];obtain⟨s0,s1,s2, -⟩:=kD g1;have no:∀{lo:Nat} {b:Bool},m.n<=lo->b=(fQ (bP l) && iI (bP l) ms)->bC [Value.bool b]=Value.bool (fQ (bP l) && iI (bP l) ms)/\m.n<=lo:=λq0 e=>⟨by rw[e];rfl,q0⟩
 refine aW (λvs mm lo=>vs=[.bool (!(fQ (bP l) && decide (ms.length<=20)))]/\m1=mm/\lo=m.n) (λR hR=>?_) ?_
 ·rw[s0,ae];refine aE (kX hX (h.aF k0) (by omega)) ?_;rw[bj,ae,aj];refine ak (λc=>hR _ _ _ ⟨?_,rfl,by omega⟩) (λc=>?_)
  ·rw[abz]at c;rw[c];rfl
  rw[abu]at c;rw[s2,ae,(hm.aF k0).len dU,aA,bV,ae];refine hR _ _ _ ⟨?_,rfl,by omega⟩;rw[c,abG];by_cases e:ms.length<=20;·rw[abl e,abk (by omega)];rfl
  rw[abk e,abl (by omega)];rfl
 rintro _ _ _ ⟨rfl,rfl,rfl⟩;rw[aB,aj];refine ak (λc=>no (aa4 _) ?_) (λc=>?_)
 ·rw[abz,Bool.and_eq_false_iff]at c;rcases c with c |c;·rw[c];rfl
  have:¬ms.length<=20:=aa6 c;rw[ve λhM=>this hM.len,adC]
 rw[abu,abc]at c;have D0:=c.1;have c1:ms.length<=20:=aba c.2;rw[D0,abG]at no⊢;refine Lp.intro (γ:=Nat) (λi=>ms.length-i) (λi vs mm lo=>vs=[aeS,aeP i]/\i<=ms.length/\Ext m1 mm/\m.n<=lo/\(∀j x,j < i->ms[j]?=some x->AK x/\(bP l).any (SV x))/\∀j x y,j+1 < i->ms[j]?=some x->ms[j+1]?=some y->x.id < y.id) 0 ⟨rfl,abh _,.refl,aa4 _,λj x hj=>by omega,λj x y hj=>by omega⟩ ?_;rintro i vs mm lo ⟨rfl,hi,l0,q0,r0,n0⟩;have nm:=l0.n;obtain⟨I1,J1,d1, -⟩:=kD (l0.cells g1);have v0:=(hm.aF k0).aF l0;rw[aB,aB,d1,ae,v0.len dU,aA,aM,ae,aj];refine ak (λy0=>?_) (λh1=>?_)
 ·have y0:i < ms.length:=by grind
  obtain⟨x,hx⟩:∃x,ms[i]?=some x:=⟨_,aa5 y0⟩
  have⟨p,e1,e2⟩:=v0.wE (k:=.i64) hx;rw[ae,e1,ae,e2,ae];refine av λK1 r1 E0 u1=>?_;refine aC uB E0 rfl rfl rfl λe0 v1 F0 w1=>?_;have G0:e0.get mm.n=.cells x.c 137 none:=F0;have g0:Ext mm e0:=⟨by omega,by grind⟩
  have n35:=g0.n;have⟨x0,x1,x2,x3,xv⟩:=Db G0;have a0:=l0.trans g0;simp only[bW,dp,eF,ae]
  have bad:∀{j:Nat} {y:Mk},i=j+1->ms[j]?=some y->x.id<=y.id->¬iV (bP l) ms:=λz0 hy hle hM=>by subst z0;have:=abF.1 hM.xN _ _ (aa9.1 hy).1 y0 (by omega);rw[(aa9.1 hy).2,(aa9.1 hx).2]at this;omega
  refine aW (λvs m' A0=>(vs=[aeR]/\¬iV (bP l) ms\/vs=[aeS]/\AK x/\∀j y,i=j+1->ms[j]?=some y->y.id < x.id)/\e0=m'/\m.n<=A0) (λR hR=>?_) ?_
  ·rw[xv,ae];refine aE (AL hX x) ?_;rw[bj,ae,aj];refine ak (λc=>hR _ _ _ ⟨.inl ⟨rfl,λhM=>?_⟩,rfl,by omega⟩) (λc=>?_);·rw[hM.ok x (abb hx)]at c;cases c
   rw[abu]at c;rw[bV,ae,aj];refine ak (λc0=>?_) (λc0=>hR _ _ _ ⟨.inr ⟨rfl,c,λj y z0=>?_⟩,rfl,by omega⟩)
   ·obtain⟨j,rfl⟩:∃j,i=j+1:=⟨i-1,by grind⟩
    obtain⟨y,hy⟩:∃y,ms[j]?=some y:=⟨_,aa5 (by omega)⟩
    have⟨b0,o0,bc,gg,cs,q1,i1,B0,_,j1⟩:=(v0.aF g0).gM dU (k:=.i64) hy;have B0:cs=y.c:=B0;subst B0;rw[x0,ae,(kD (a0.cells g1)).2.2.1,ae,dD,ae,wrap64 (by omega) (by omega),show(((j+1:Nat):Int)-1)=(j:Int) by omega,q1,ae,bW,ae,show ah TE e0 3 (aeK b0 (o0+0))=some (aeP y.id) by rw[bI,aI i1,j1 0 (by decide)];rfl,ae,cp,ae];by_cases hle:x.id<=y.id
    ·rw[abl hle];exact hR _ _ _ ⟨.inl ⟨rfl,bad rfl hy hle⟩,rfl,by omega⟩
    rw[abk hle];refine hR _ _ _ ⟨.inr ⟨rfl,c,λj' y' z0 H0=>?_⟩,rfl,by omega⟩;obtain rfl:j=j':=by omega
    rw[hy]at H0;cases H0;omega
   have:¬(0:Int)< (i:Int):=aa6 c0;omega
  rintro _ _ z1 ⟨h |⟨rfl,k1,C0⟩,rfl,h0⟩
  ·obtain⟨rfl,l1⟩:=h;rw[aB,aj,bL];exact no h0 (ve l1).symm
  rw[aB,aj,aO];have I0:=(h.aF k0).aF a0;refine Lp.intro (γ:=Nat) (λk=>l.length-k) (λk vs m' A0=>vs=[.bool (((bP l).take k).any (SV x)),aeP k]/\k<=l.length/\Ext e0 m'/\m.n<=A0) 0 ⟨rfl,abh _,.refl,h0⟩ ?_;rintro k vs J0 A1 ⟨rfl,hk,H,i0⟩;have n60:=H.n;have j0:=I0.aF H;rw[aB,aB,(kD (H.cells (a0.cells g1))).2.1,ae,j0.sl.len dF,aA,aM,ae,aj];refine ak (λB1=>?_) (λK0=>?_)
  ·have L0:k < l.length:=by grind
   obtain⟨u,hu⟩:∃u,l[k]?=some u:=⟨_,aa5 L0⟩
   have⟨q,q1,q2,ou⟩:=j0.sl.gj (k:=.i64) hu;have L1:(bP l).take (k+1)=(bP l).take k++ [u.u]:=by rw[abt,ja hu];rfl
   rw[ae,q1,ae,q2,ae];refine av λN1 C1 N0 D1=>?_;refine aC du N0 rfl rfl (Un.cR ou) λO0 E1 Q0 F1=>?_;have o1:O0.get J0.n=.cells (u.u.c u.w) 60 none:=Q0;have d0:Ext J0 O0:=⟨by omega,by grind⟩
   obtain⟨u0, -, -,u3, -, -⟩:=kU o1;obtain⟨-,y1,y2, -, -⟩:=Db ((H.trans d0).cells G0);rw[aj];refine ak (λht=>?_) (λht=>?_)
   ·rw[aQ,ae,wrap64 (by omega) (by omega)];exact⟨k+1,by omega,by grind,by omega,H.trans d0,by omega⟩
   have p0:((bP l).take (k+1)).any (SV x)=SV x u.u:=by grind
   rw[bs,ae,u0,ae,y1,ae,aS,ae,aj];refine ak (λe=>?_) (λe=>?_)
   ·rw[y2,ae,bH,ae,u3,ae,((j0.sh u (abb hu)).aF d0).len cx,aA,aM,ae,aQ,ae,wrap64 (by omega) (by omega)];exact⟨k+1,by omega,by rw[p0];unfold SV;rw[e,abG];rfl,by omega,H.trans d0,by omega⟩
   rw[aQ,ae,wrap64 (by omega) (by omega)];exact⟨k+1,by omega,by rw[p0];unfold SV;rw[e,acS];rfl,by omega,H.trans d0,by omega⟩
  have L0:k=l.length:=by have:¬(k:Int)< (l.length:Int):=aa6 K0;omega
  rw[aby (by rw[cS];omega),bj,ae,aj];refine ak (λc=>no i0 ?_) (λc=>?_)
  ·rw[abz]at c;refine(ve λhM=>?_).symm;rw[HF.2 (hM.un x (abb hx))]at c;cases c
  rw[abu]at c;rw[aQ,ae,wrap64 (by omega) (by omega)];refine⟨i+1,by omega,rfl,by omega,a0.trans H,i0,λj y hj hy=>?_,λj y z hj hy hz=>?_⟩
  ·by_cases e:j=i
   ·subst e;rw[hx]at hy;cases hy;exact⟨k1,c⟩
   exact r0 j y (by omega) hy
  by_cases e:j+1=i
  ·subst e;rw[hx]at hz;cases hz;exact C0 j y rfl hy
  exact n0 j y z (by omega) hy hz
 have p1:i=ms.length:=by have:¬(i:Int)< (ms.length:Int):=aa6 h1;omega
 subst p1;refine no q0 (fY.2 ⟨c1,Ww λj x y hx hy=>n0 j x y (aa9.1 hy).1 hx hy,λx hx=>?_,λx hx=>?_⟩).symm
 ·have⟨j,hj⟩:=abx hx;exact(r0 j x (aa9.1 hj).1 hj).1
 have⟨j,hj⟩:=abx hx;exact HF.1 (r0 j x (aa9.1 hj).1 hj).2
end
theorem ZC{X:aK}{x0:aeM}{m:M}{R:aeN->M->Nat->Prop}:eL TE (aL TE X) f226 [x0] m R=ρ m x0 30 λa=>ς a [aeQ] 30 λb=>ς b [aeQ] 30 λc=>Lp (λc d f g=>un d λd _=>ε 30 (υ m) 0 λh=>δ f 28 h λh=>κ f .len [28] [h] λh _=>η .lss 3 d h λh=>aR h (ε 30 (υ b) 0 λa=>δ f 28 a λa=>ε 30 (υ m) 0 λh=>δ f 28 h λh=>ζ 28 h d λh=>δ f 60 h λh=>χ X 219 [h] f λh i j=>(f.n<=j)/\(ν i 28 1 [(0,h)] λf h=>κ (M.wl h h.n) .append [28,28] [a,f] λa f=>ε 30 (υ b) 0 λb=>ι f 28 b a λa b=>η .add 3 d (φ 1) λd=>c [d] a (ω g j (M.low f) b))) (δ f 30 (υ b) λb=>ι f 30 (υ a) b λb c=>ai (ah TE b 30 (υ a)) λa=>R [a] b (min g c))) [φ 0] c m.n:=by kernel_rfl
end Go.Proofs.YtigpcbodmjjaiaaGreatDoor
namespace Go.D
open Go
section
def wZ(m:M)(b k:Nat):Prop:=(∃cs H g,m.get b=.cells cs H g/\(g=none\/g=some k))\/∃cs,m.get b=.ro cs
theorem wZ.lt{m:M}{b k:Nat}(h:wZ m b k):b < m.n:=by
 rcases adS b m.n with hl |H;·exact hl
 rcases h with⟨cs,te,g,h,_⟩ |⟨cs,h⟩;·rw[M.jl H]at h;cases h
 rw[M.jl H]at h;cases h
theorem wZ.of{m m1:M}{b k:Nat}(h:wZ m b k)(e:m1.get b=m.get b):wZ m1 b k:=by
 unfold wZ at h⊢
 grind
theorem wZ.aF{m m1:M}{b k:Nat}(h:wZ m b k)(he:Ext m m1):wZ m1 b k:=h.of (he.get b h.lt)
section
variable {E:Env} {m:M} {T:TypeId} {ti:TI} {e:TypeId} {b n:Nat}
theorem JE(t1:E.ty.get T=some ti)(t2:ti.d=.slice e)(hk:0 < ti.es)(h:wZ m b ti.es){o c i:Nat}(H:n<=c)(hi:i<=c):
  slice? E m T (aeL b o n c) none (some (aeP i)) none=some (aeL b o i c):=by
 rcases h with⟨cs,te,g,h,hg⟩ |⟨cs,h⟩;·exact Aq t1 t2 hk h hg H hi
 ·have b1:fO n c none (some (aeP i)) none=some (0,i,c):=by unfold fO;simp only[pZ hi]
  have e1:Nat.beq ti.es 0=false:=by
   cases hb:Nat.beq ti.es 0 with
   |false=>rfl
   |true=>have:=abn hb;omega
  have e2:Nat.ble n c:=abT H
  have e0:(⟨b,o,none⟩:Addr).add (0*ti.es)=⟨b,o,none⟩:=by rw[aV rfl,ac4];rfl
  simp only[slice?,t1,t2,b1,h,e1,e2,ab7,adi,abm,adg,e0]
  grind
end
section
variable {α:Type} [aZ α] {m m':M} {l:List α} {v:aeM}
def YM(m:M)(l:List α)(v:aeM):Prop:=oJ m l v/\∃b o c,v=.slice (some ⟨b,o,none⟩) l.length c/\l.length<=c/\wZ m b (aZ.sz α)
theorem YM.aF(h:YM m l v)(he:Ext m m'):YM m' l v:=by have⟨h1,b,o,c,H,h3,h4⟩:=h;exact⟨h1.aF he,b,o,c,H,h3,h4.aF he⟩
theorem oJ.Xg(h:oJ m l v)(hk:∀b,b < m.n->(∀cs t g,m.get b=.cells cs t g->t∈aZ.ty α::aZ.eB α)->m'.get b=m.get b)(ht:aZ.eB α=[]):oJ m' l v:=by
 rcases h with h |h
 ·refine .inl (h.aY λb c t g H a0=>?_);rw[hk b (M.bk H) λcs t' g' b0=>by grind,H]
 rcases h with h |⟨b,o,c,bc,h1,h2,h4⟩;·exact .inr (.inl h)
 have d0:b < m.n:=wZ.lt (k:=0) (.inr ⟨_,h2⟩);refine .inr (.inr ⟨b,o,c,bc,h1,by grind,λi x hi=>⟨(h4 i x hi).1,aZ.aY (h4 i x hi).2 λb c t g _ h=>by grind⟩⟩)
theorem oJ.part{b o c:Nat}(h:oJ m l (aeL b o l.length c)){i k:Nat}(H:i+k<=l.length){c':Nat}:oJ m ((l.drop i).take k) (aeL b (o+i*aZ.sz α) k c'):=by
 have hlen:((l.drop i).take k).length=k:=by grind
 rcases h with h |h;·exact .inl (h.part H)
 rcases h with⟨h,_⟩ |⟨b',o',c1,bc,he,hb,a0⟩;·cases h
 ·cases he
  refine .inr (.inr ⟨b,_,c',bc,by rw[hlen],hb,λj x hj=>?_⟩)
  grind
end
end
section
section
variable {E:Env} {m:M} {T:TypeId} {α:Type} [aZ α]
theorem JF{ti:TI}{e te:TypeId}{b n k:Nat}{cs:aeN}(t1:E.ty.get T=some ti)(t2:ti.d=.slice e)(t3:ti.es=k)(hk:0 < k)(h:m.get b=.cells cs te (some k)){i:Nat}(hi:i<=n):
  slice? E m T (aeL b 0 n n) none (some (aeP i)) (some (aeP i))=some (aeL b 0 i i):=by
 have H:fO n n none (some (aeP i)) (some (aeP i))=some (0,i,i):=by unfold fO;simp only[pZ hi,pZ (aa4 i)]
 have e1:Nat.beq ti.es 0=false:=by
  cases hb:Nat.beq ti.es 0 with
  |false=>rfl
  |true=>have:=abn hb;omega
 have e2:Nat.ble n n:=abT (aa4 _)
 have e3:Nat.beq k ti.es:=by simp_all
 simp only[slice?,t1,t2,H,h,e1,e2,e3,ab7,adi,abm,cond_true,ad3,acS,acx,ad5]
 simp only[ac4,Addr.add,acU,adg]
 grind
theorem wF(hT:ur E T α){l ys:List α}{y:aeM}{b o c:Nat}{bc:aeN}{te:TypeId}{g:Option Nat}(h:m.get b=.cells bc te g)(hg:g=none\/(g=some (aZ.sz α)/\o+c*aZ.sz α < bc.length))
  (hl:Sl m l (aeL b o l.length c)) (hy:Sl m ys y) (hc:c < l.length+ys.length) (hs:l.length+ys.length<=268435456):
  ∃v' m1,aw E (m.wl m.n) .append [T,T] [aeL b o l.length c,y]=some (v',m1)/\Ow m.n m1 (l++ys) v'/\Ext m m1/\m1.low=m.n:=by
 have⟨ti,ei,t1,t2,t3,t4,t5,t6⟩:=hT;have⟨news,e1,e2,e3,e4,e5⟩:=hy.first;have⟨fR,_,f2,f3,f4,f5⟩:=hl.first;have g0:=aZ.pos (α:=α)
 have d0:(Nat.beq ti.es 0 ||Nat.blt 65536 ei.bytes || !news.all D.one ||Nat.blt 268435456 (l.length+ys.length) || !Nat.beq news.length (ys.length*ti.es) || !gV ei.zero ti.es)=false:=by
  have c1:Nat.beq ti.es 0=false:=by
   cases hb:Nat.beq ti.es 0 with
   |false=>rfl
   |true=>have:=abn hb;omega
  have c2:Nat.blt 65536 ei.bytes=false:=by
   cases hb:Nat.blt 65536 ei.bytes with
   |false=>rfl
   |true=>rw[adb]at hb;omega
  have c3:Nat.blt 268435456 (l.length+ys.length)=false:=by
   cases hb:Nat.blt 268435456 (l.length+ys.length)with
   |false=>rfl
   |true=>rw[adb]at hb;omega
  simp_all
 have H:first? (m.wl m.n) ti.es ys.length y=some news:=by rw[cy,t3];exact e2
 have a0:Nat.ble (l.length+ys.length) c=false:=by
  cases hb:Nat.ble (l.length+ys.length) c with
  |false=>rfl
  |true=>have:=abB hb;omega
 have hold:(bif Nat.beq l.length 0 then some []else loadCells (m.wl m.n) ⟨b,o,none⟩ (l.length*aZ.sz α))=some fR:=by rw[bU];exact f2
 have g1:(g.isNone ||(g==some (aZ.sz α) && Nat.blt (o+c*aZ.sz α) bc.length)):=by
  simp_all
 have e0:(m.wl m.n).get b=.cells bc te g:=h;have hx:Ext m ((m.wl m.n).push (.cells (fR++news) (aZ.ty α) (some (aZ.sz α)))):=⟨acs _,λc hc=>by rw[M.cD (m:=m.wl m.n) hc];rfl⟩
 refine⟨aeL m.n 0 (l.length+ys.length) (l.length+ys.length),(m.wl m.n).push (.cells (fR++news) (aZ.ty α) (some (aZ.sz α))),?_,?_,hx,rfl⟩
 ·simp only[aw,eA,t1,e1,t2,t4,H];rw[d0,a0];simp only[abm,lZ,t3];simp only[e0,hold,g1,cond_true];rfl
 refine .inr ⟨m.n,fR++news,by grind,by grind,aa4 _,M.aU (m:=m.wl m.n),by grind,λi x hi=>?_⟩;by_cases b0:i < l.length
 ·rw[acJ b0]at hi;rw[mh f3 b0];exact aZ.aF (f5 i x hi) hx
 rw[acp (by omega)]at hi;rw[lJ f3 (by omega)];exact aZ.aF (e5 _ x hi) hx
end
end
theorem append_nil{E:Env}{m:M}{T:TypeId}{α:Type}[aZ α](hT:ur E T α){a:Addr}{n c:Nat}(hn:n<=c)(hs:n<=268435456){y:aeM}(hy:(∃a' c',y=.slice (some a') 0 c')\/y=aeQ):
  aw E (m.wl m.n) .append [T,T] [.slice (some a) n c,y]=some (.slice (some a) n c,m.wl m.n):=by
 have⟨ti,ei,t1,t2,t3,t4,t5,t6⟩:=hT;have a0:=aZ.pos (α:=α);have hl:lY y=some 0:=by rcases hy with⟨a',c',rfl⟩ |rfl <;>rfl
 have hf:first? (m.wl m.n) ti.es 0 y=some []:=by rcases hy with⟨a',c',rfl⟩ |rfl <;>rfl
 have hc:(Nat.beq ti.es 0 ||Nat.blt 65536 ei.bytes || !([]:aeN).all D.one ||Nat.blt 268435456 (n+0) || !Nat.beq ([]:aeN).length (0*ti.es) || !gV ei.zero ti.es)=false:=by
  have c1:Nat.beq ti.es 0=false:=by
   cases H:Nat.beq ti.es 0 with
   |false=>rfl
   |true=>have:=abn H;omega
  have c2:Nat.blt 65536 ei.bytes=false:=by
   cases H:Nat.blt 65536 ei.bytes with
   |false=>rfl
   |true=>rw[adb]at H;omega
  have c3:Nat.blt 268435456 (n+0)=false:=by
   cases H:Nat.blt 268435456 (n+0)with
   |false=>rfl
   |true=>rw[adb]at H;omega
  simp_all
 simp only[aw,eA,t1,hl,t2,t4,hf];rw[hc,abT (show n+0<=c by omega)];rfl
end Go.D
namespace Go.Proofs.YtigpcbodmjjaiaaGreatDoor
section
variable {X:aK} {m:M}
theorem mV{α:Type}[aZ α]{n1:Nat}{l:List α}{v:aeM}(h:Ow n1 m l v)(H:l≠ []):∃b,v=aeL b 0 l.length l.length/\n1<=b:=by
 rcases h with⟨_,h⟩ |⟨b,cs,h1,h2,h3,_⟩
 ·grind
 ·grind
theorem V1{n1:Nat}{mm:M}{acc:List UW}{r:aeM}(H:Ow n1 mm acc r)(hs:∀x∈acc,Sl mm x.u.shape x.w)(hl:∀x∈acc,x.u.shape.length < 1000000):dg mm acc r:=
 ⟨H.sl,hs,hl,by
  rcases H with⟨_,h⟩ |⟨b,cs,h1,h2,h3,h4,h5,h6⟩
  ·grind
  ·exact .inr ⟨b,0,_,cs,_,h1,aa4 _,h4,.inr rfl⟩⟩
theorem FF(hX:cC X){l:List UW}{v:aeM}(h:dg m l v)(hlen:l.length < 1000):
  ∃acc r m',C X (.func 226) [.agg #[v]] m m.n (.agg #[r]) m'/\Ext m m'/\bP acc=bP l/\Ow m.n m' acc r/\(∀x∈acc,Sl m' x.u.shape x.w)/\∀x∈acc,x.u.shape.length < 1000000:=by
 have key:=Cl.gen (E:=TE) (X:=X) (f:=226) (args:=[.agg #[v]]) (m:=m) (R:=λrv m' bb=>bb=m.n/\Ext m m'/\∃acc r,rv=.agg #[r]/\bP acc=bP l/\Ow m.n m' acc r/\(∀x∈acc,Sl m' x.u.shape x.w)/\∀x∈acc,x.u.shape.length < 1000000) (hX.no _ rfl) (aa3 func226) rfl ?_
 ·obtain⟨rv,m',bb,hc,rfl,hx,acc,r,rfl,hr⟩:=key;exact⟨acc,r,m',hc,hx,hr⟩
 rw[ZC];dsimp only[δ,ε,ζ,η,ι,κ,ν,ρ,ς,υ,φ,χ,ω];refine av λm1 u0 j0 v0=>?_;refine av λm2 y0 z0 k0=>?_;refine av λm3 A0 e0 l0=>?_;have B0:Ext m m3:=⟨by omega,by grind⟩
 have g1:m3.get m.n=.cells [v] 30 none:=by rw[l0 _ (by omega),k0 _ (by omega)];exact j0
 have g2:m3.get m1.n=.cells [aeQ] 30 none:=by grind
 obtain⟨oc,n0⟩:∃oc,oc=m2.n:=⟨_,rfl⟩
 rw[<-n0]at e0⊢;unfold ptrTo;have o0:∀m':M,m'.get m.n=.cells [v] 30 none->ah TE m' 28 (aeK m.n (0+0))=some v:=λm' h=>by rw[eO,aI h];rfl
 have p0:∀(m':M) acc r,Fb oc m' acc r->ah TE m' 28 (aeK oc (0+0))=some r:=λm' acc r h=>by rw[eO,aI h.cell];rfl
 simp only[bO,ae];refine Lp.intro (γ:=Nat) (λi=>l.length-i) (λi vs mm lo=>∃(acc:List UW) (r:aeM),vs=[aeP i]/\i<=l.length/\Fb oc mm acc r/\(∀c,c < oc->mm.get c=m3.get c)/\m.n<=lo/\m3.n<=mm.n/\bP acc=(bP l).take i/\acc.length<=i) 0 ⟨[],_,rfl,abh _,⟨e0,.nil,λx hx=>(by cases hx),λx hx=>(by cases hx)⟩,λc hc=>rfl,by omega,aa4 _,rfl,aa4 _⟩ ?_;rintro i vs mm C0 ⟨acc,r,rfl,hi,H,hk,D0,E0,a0,F0⟩;have gf:mm.get m.n=.cells [v] 30 none:=by grind
 have q0:Ext m mm:=⟨by omega,by grind⟩
 have hF:=h.aF q0;rw[aB,o0 mm gf,ae,hF.sl.len dF,aA,aM,ae,aj];refine ak (λg0=>?_) (λG0=>?_)
 ·have g0:i < l.length:=by grind
  obtain⟨x,hx⟩:∃x,l[i]?=some x:=⟨_,aa5 g0⟩
  have b0:=abb hx;have r0:(bP l).take (i+1)=(bP l).take i++ [x.u]:=by rw[abt,ja hx];rfl
  have⟨q,q1,q2,_⟩:=hF.sl.gj (k:=.i64) hx;rw[p0 mm _ _ H,ae,ae,q1,ae,q2,ae];obtain⟨w',H0,I0,r',J0,K0,c1,c2,c3,c4,c5,c6,c7⟩:=mR hX H (hF.sh x b0) (h.ln x b0) (by omega);refine aE c1 ⟨aa4 _,?_⟩;rw[c2,aA,c3,aA,c4,aA,aQ,ae,wrap64 (by omega) (by omega)];have:=c7.n;exact⟨i+1,by omega,_,r',rfl,by omega,c6,λc hc=>by rw[c7.lo c hc,hk c hc],by omega,by omega,by rw[r0,<-a0];unfold bP;simp,by grind⟩
 have s0:i=l.length:=by
  have:¬(i:Int)< (l.length:Int):=by grind
  omega
 subst s0;rw[aby (by rw[cS];exact aa4 _)]at a0;rw[ez,aN H.cell (by simp)];show ai (some (Value.agg #[r])) _;rw[ae];have gz:mm.get m1.n=.cells [aeQ] 30 none:=by grind
 refine aC oS gz rfl rfl (by show(one r && true)=true;rw[H.ow.sl.one];rfl) λm9 L0 d0 h0=>?_;have d0:m9.get m1.n=.cells [r] 30 none:=d0;rw[ez,aN d0 (by simp)];show ai (some (Value.agg #[r])) _;rw[ae];by_cases i0:acc=[]
 ·subst i0;rcases H.ow with⟨rfl,_⟩ |⟨b,cs,_,h2,_⟩;·exact .inl ⟨rfl,by omega,by grind,.refl,[],_,rfl,a0,.nil,λx hx=>(by cases hx),λx hx=>(by cases hx)⟩
  simp at h2
 obtain⟨b,rfl,hb⟩:=mV H.ow i0;refine .inr ⟨.inl rfl,by omega,⟨by omega,by grind⟩,acc,_,rfl,a0,?_,λx hx=>?_,H.ln⟩
 ·refine Ow.mono (n1:=oc+1) (H.ow.aY λb c t g' hb ht=>?_) (by omega)
  have:b≠m1.n:=by rintro rfl;rw[hk _ (by omega),g2]at hb;cases hb;revert ht;decide
  rw[h0 b this,hb]
 refine(H.sh x hx).aY λb c t g' hb ht=>?_
 have:b≠m1.n:=by rintro rfl;rw[hk _ (by omega),g2]at hb;cases hb;revert ht;decide
 rw[h0 b this,hb]
theorem CK{n1:Nat}{ms:List Mk}{vm:aeM}(hm:Sl m ms vm)(hl:ms.length<=1000){b:Nat}(hg:m.get b=.cells [] 137 none)(hn:n1<=b):
  ∃r m1,aw TE (m.wl m.n) .append [31,31] [aeL b 0 0 0,vm]=some (r,m1)/\Sl m1 ms r/\Ext m m1/\m1.low=m.n/\(∃a p q,r=.slice (some a) p q)/\(ms≠ []->Ow m.n m1 ms r):=by
 by_cases he:ms=[]
 ·subst he;obtain⟨a,c,rfl⟩:=hm.form;refine⟨aeL b 0 0 0,m.wl m.n,append_nil zD (aa4 _) (by decide) ?_,.inr ⟨b,0,0,[],none,rfl,hg,by simp,by grind⟩,Ext.refl.wl,rfl,⟨_,_,_,rfl⟩,λh=>absurd rfl h⟩;rcases hm with⟨h,_⟩ |⟨b',o,c',bc,g,h,_⟩
  ·grind
  ·grind
 obtain⟨v',m1,h1,H,h3,h4⟩:=qc zD hg hm he (by omega);obtain⟨b',rfl,_⟩:=mV H he;exact⟨_,m1,h1,H.sl,h3,h4,⟨_,_,_,rfl⟩,λ_=>H⟩
theorem Ka{a b:Bool}:az TE .neq 4 (.bool a) (.bool b)=some (.bool (!decide (a=b))):=by cases a <;>cases b <;>kernel_rfl
theorem iQ:aG TE m 31 0 []=some (.slice (some ⟨m.n,0,none⟩) 0 0,m.push (.cells [] 137 none)):=by kernel_rfl
theorem Bv(hX:cC X){ms:List Mk}{vm:aeM}{id:Int}(hm:Sl m ms vm)(hl:ms.length<=100):
  ∃r m',C X (.func 305) [vm,aeP id] m m.n r m'/\Ext m m'/\Ow m.n m' (fI ms id) r:=by
 have key:=Cl.gen (E:=TE) (X:=X) (f:=305) (args:=[vm,aeP id]) (m:=m) (R:=λrv m' b=>b=m.n/\Ext m m'/\Ow m.n m' (fI ms id) rv) (hX.no _ rfl) (aa3 func305) rfl ?_
 ·obtain⟨rv,m',b,hc,rfl,h⟩:=key;exact⟨rv,m',hc,h⟩
 rw[Zi];dsimp only[δ,ε,ζ,η,κ,ν,φ];refine Lp.intro (γ:=Nat) (λi=>ms.length-i) (λi vs mm lo=>∃r,vs=[r,aeP i]/\i<=ms.length/\Ext m mm/\m.n<=lo/\Ow m.n mm (fI (ms.take i) id) r) 0 ⟨_,rfl,abh _,.refl,aa4 _,Ow.nil⟩ ?_;rintro i vs mm lo ⟨r,rfl,hi,H,i0,ho⟩;have nm:=H.n;have d0:=hm.aF H;rw[aB,aB,d0.len dU,aA,aM,ae,aj];refine ak (λj0=>?_) (λl0=>?_)
 ·have j0:i < ms.length:=by grind
  obtain⟨x,hx⟩:∃x,ms[i]?=some x:=⟨_,aa5 j0⟩
  have⟨b0,o0,bc,g0,cs,e0,n0,h0,_,p0⟩:=d0.gM dU (k:=.i64) hx;have h0:cs=x.c:=h0;subst h0;have⟨a0,q0,lx⟩:=d0.wE (k:=.i64) hx;obtain rfl:a0=aeK b0 o0:=Option.some.inj (q0.symm.trans e0);have k0:ms.take (i+1)=ms.take i++ [x]:=by rw[abt,hx];rfl
  have s0:(fI (ms.take i) id).length<=i:=by unfold fI;have:=acn (λy=> !decide (y.un=id)) (ms.take i);rw[acr]at this;omega
  rw[e0,ae,dp,ae,show ah TE mm 3 (aeK b0 (o0+1))=some (aeP x.un) by rw[bI,aI n0,p0 1 (by decide)];rfl,ae,bR,ae,aj];refine ak (λc=>?_) (λc=>?_)
  ·rw[ae,lx,ae];refine push_mk (x:=x) ho nm (by omega) λr' m2 w2 n2 k2 l2=>?_;rw[aQ,ae,wrap64 (by omega) (by omega)];refine⟨i+1,by omega,r',rfl,by omega,⟨by omega,λc hc=>by rw[k2 c hc,H.get c hc]⟩,by omega,?_⟩;rw[k0];unfold fI at w2⊢;rw[abK,abZ,abe c];exact w2
  rw[aQ,ae,wrap64 (by omega) (by omega)];refine⟨i+1,by omega,r,rfl,by omega,H,i0,?_⟩;rw[k0];unfold fI at ho⊢;rw[abK,abZ,abd (by grind),acK,abJ];exact ho
 have r0:i=ms.length:=by have:¬(i:Int)< (ms.length:Int):=aa6 l0;omega
 subst r0;rw[abR]at ho;by_cases he:fI ms id=[]
 ·rw[he]at ho⊢;rcases ho with⟨rfl,_⟩ |⟨b,cs,_,h2,_⟩;·exact .inl ⟨rfl,i0,by grind,.refl,.nil⟩
  simp at h2
 obtain⟨b,rfl,_⟩:=mV ho he;exact .inr ⟨.inl rfl,by omega,H,ho⟩
def Bs(ms:List Mk)(id:Int)(o:Bool)(m':M)(r:aeM)(b:Bool):Prop:=match mK ms id o with
 |some H=>b=true/\Sl m' H r
 |none=>b=false/\∃H:List Mk,Sl m' H r/\H.length<=ms.length
theorem vK(hX:cC X){ms:List Mk}{vm:aeM}{id:Int}{o:Bool}(hm:Sl m ms vm)(hl:ms.length<=100):
  ∃r b m',C X (.func 228) [vm,aeP id,.bool o] m m.n (.tuple #[r,.bool b]) m'/\Ext m m'/\Bs ms id o m' r b:=by
 have key:=Cl.gen (E:=TE) (X:=X) (f:=228) (args:=[vm,aeP id,.bool o]) (m:=m) (R:=λrv m' bb=>bb=m.n/\Ext m m'/\∃r b,rv=.tuple #[r,.bool b]/\Bs ms id o m' r b) (hX.no _ rfl) (aa3 func228) rfl ?_
 ·obtain⟨rv,m',bb,hc,rfl,hx,r,b,rfl,h⟩:=key;exact⟨r,b,m',hc,hx,h⟩
 rw[ZA];dsimp only[δ,ε,ζ,η,ι,κ,ν,φ];rw[iQ,aA];have g0:Ext m (m.push (.cells [] 137 none)):=Ext.refl.push;have o0:(m.push (.cells [] 137 none)).get m.n=.cells [] 137 none:=M.aU;have A0:(m.push (.cells [] 137 none)).n=m.n+1:=rfl;generalize B0:m.push (.cells [] 137 none)=m2 at*;obtain⟨v3,m4,e4,p0,h0,C0,a0,q0⟩:=CK (n1:=m.n) (hm.aF g0) (by omega) o0 (aa4 _);have n4:=h0.n;have i0:=g0.trans h0;rw[e4,aA];refine Lp.intro (γ:=Nat) (λi=>ms.length-i) (λi vs mm lo=>∃z z',vs=[z,z',aeP i]/\i<=ms.length/\m4=mm/\m.n<=lo/\∀j y,j < i->ms[j]?=some y->y.id≠id) 0 ⟨_,_,rfl,abh _,rfl,by grind,λj y hj=>by omega⟩ ?_;rintro i vs mm lo ⟨z,z',rfl,hi,rfl,j0,b0⟩;rw[aB,aB,aB,p0.len dU,aA,aM,ae,aj];refine ak (λd0=>?_) (λr0=>?_)
 ·have d0:i < ms.length:=by grind
  obtain⟨x,hx⟩:∃x,ms[i]?=some x:=⟨_,aa5 d0⟩
  have s0:ms≠ []:=by grind
  have⟨b,q1,q2,q3,q4,⟨u0,v0,k0⟩,q6⟩:=TO rfl (q0 s0) hx dU;have y0:u0=x.c:=v0;subst y0;have l0:ah TE m4 3 (aeK b (0+i*aZ.sz Mk+0))=some (aeP x.id):=by rw[bI,k0 0 (by decide)];rfl
  have l4:ah TE m4 4 (aeK b (0+i*aZ.sz Mk+4))=some (.bool x.LB):=by rw[vg,k0 4 (by decide)];rfl
  rw[q1,ae,bW,ae,l0,ae,aS,ae,aj];refine ak (λc=>?_) (λc=>?_)
  ·have c:x.id=id:=aba c
   have e0:ms.findIdx? (λy=>decide (y.id=id))=some i:=by
    rw[List.findIdx?_eq_some_iff_getElem];refine⟨d0,?_,λj hj=>?_⟩;·rw[(aa9.1 hx).2];exact abl c
    have:=b0 j _ hj (aa5 (by omega));simpa using this
   have ht:mK ms id o=if x.LB=o then none else some (ms.set i {x with LB:=o}):=by unfold mK;rw[e0];dsimp only;rw[hx]
   rw[ae,ka,ae,l4,ae,Ka,ae,ae,ka,ae];refine q6 4 4 _ {x with LB:=o} (.bool o) Fp rfl rfl rfl (by decide) (λcs hr m'=>by have hr:cs=x.c:=hr;subst hr;rfl) _ λD0 z0 H n0=>?_;obtain⟨a,p,q,rfl⟩:=a0;refine .inr ⟨.inl rfl,by omega,⟨by omega,λc hc=>by rw[n0 c (by omega),i0.get c hc]⟩,_,_,rfl,?_⟩;unfold Bs;rw[ht];by_cases e:x.LB=o
   ·rw[abe e,abl e];exact⟨rfl,_,H.sl,by simp⟩
   rw[abd e,abk e];exact⟨rfl,H.sl⟩
  have c:x.id≠id:=aa6 c;rw[aQ,ae,wrap64 (by omega) (by omega)];refine⟨i+1,by omega,z,z',rfl,by omega,rfl,j0,λj y hj hy=>?_⟩;by_cases e:j=i
  ·subst e;rw[hx]at hy;cases hy;exact c
  exact b0 j y (by omega) hy
 have E0:i=ms.length:=by have:¬(i:Int)< (ms.length:Int):=aa6 r0;omega
 have e0:ms.findIdx? (λy=>decide (y.id=id))=none:=by rw[List.findIdx?_eq_none_iff];intro y hy;have⟨j,hj⟩:=abx hy;have:=b0 j y (by grind) hj;simpa using this
 refine .inl ⟨rfl,j0,by grind,.refl,_,_,rfl,?_⟩;unfold Bs mK;rw[e0];exact⟨rfl,[],.nil,abh _⟩
def eZ(us:List Un)(id:Int)(m':M)(H:aeM):Prop:=match cj us id with
 |some u=>∃w',H=.tuple #[u.v w',.bool true]/\Sl m' u.shape w'
 |none=>H=.tuple #[.agg Un.zc.toArray,.bool false]
theorem yu(hX:cC X){l:List UW}{v:aeM}(h:dg m l v)(hP:cn (bP l))(id:Int):
  ∃rv m',C X (.func 303) [.agg #[v],aeP id] m m.n rv m'/\Ext m m'/\eZ (bP l) id m' rv:=by
 have hl:l.length<=12:=by have:=hP.len;rwa[cS]at this
 have key:=Cl.gen (E:=TE) (X:=X) (f:=303) (args:=[.agg #[v],aeP id]) (m:=m) (R:=λrv m' b=>b=m.n/\Ext m m'/\eZ (bP l) id m' rv) (hX.no _ rfl) (aa3 func303) rfl ?_
 ·obtain⟨rv,m',b,hc,rfl,h⟩:=key;exact⟨rv,m',hc,h⟩
 rw[Zk];dsimp only[δ,ε,ζ,η,θ,ι,κ,ρ,ς,υ,φ,χ,ψ];refine av λm1 E0 v0 F0=>?_;refine av λm2 G0 y0 z0=>?_;have h0:Ext m m2:=⟨by omega,by grind⟩
 have g1:m2.get m.n=.cells [v] 30 none:=by rw[z0 _ (by omega)];exact v0
 have g2:m2.get m1.n=.cells Un.zc 60 none:=y0;have hF:=h.aF h0;have i0:ah TE m2 28 (aeK m.n (0+0))=some v:=by rw[eO,aI g1];rfl
 have A0:ah TE m2 30 (aeK m.n 0)=some (.agg #[v]):=by rw[ez,aN g1 (by simp)];rfl
 unfold ptrTo;simp only[bO,ae];refine Lp.intro (γ:=Nat) (λi=>l.length-i) (λi vs mm lo=>∃z,vs=[z,aeP i]/\i<=l.length/\m2=mm/\m.n<=lo/\∀j x,j < i->l[j]?=some x->x.u.id≠id) 0 ⟨_,rfl,abh _,rfl,by omega,λj x hj=>by omega⟩ ?_;rintro i vs mm lo ⟨z,rfl,hi,rfl,H0,j0⟩;rw[aB,aB,i0,ae,hF.sl.len dF,aA,aM,ae,aj];refine ak (λk0=>?_) (λB0=>?_)
 ·have k0:i < l.length:=by grind
  obtain⟨x,hx⟩:∃x,l[i]?=some x:=⟨_,aa5 k0⟩
  have⟨q,q0,f1,f2,f3⟩:=sy hF.sl hx;have⟨q',q1,q2,ow⟩:=hF.sl.gj (k:=.i64) hx;obtain rfl:q=q':=Option.some.inj (f1.symm.trans q1);refine aW (λvs mm lo=>vs=[.bool (decide (x.u.id=id))]/\m2=mm/\m.n<=lo) (λR hR=>?_) ?_
  ·rw[ae,f1,ae,f2,ae,f3,ae,aS,ae,aj];refine ak (λc=>?_) (λc=>hR _ _ _ ⟨by rw[c],rfl,by omega⟩);rw[A0,ae];refine aE (kX hX hF (by omega)) ?_;exact hR _ _ _ ⟨by rw[c,fH hP],rfl,by omega⟩
  rintro _ _ I0 ⟨rfl,rfl,l0⟩;rw[aB,aj];refine ak (λc=>?_) (λc=>?_)
  ·have c:x.u.id=id:=aba c
   have n0:=abb hx
   rw[i0,ae,q1,ae,q2,ae]
   have⟨w',J0,o0,b0,d0⟩:=Bk (m:=m2) hX (hF.sh x n0) (hF.ln x n0)
   refine aE o0 ?_
   have n36:=b0.n
   have p0:=b0.cells g2
   refine aC du p0 rfl rfl (Un.cR d0.one) λe0 r0 H g0=>?_
   have H:e0.get m1.n=.cells (x.u.c w') 60 none:=H
   rw[bT H,ae]
   have a0:cj (bP l) id=some x.u:=by rw[<-c];exact pK hP (ja hx)
   have s0:Sl e0 x.u.shape w':=d0.aY λb cs t g hb ht=>by
    have:b≠m1.n:=by rintro rfl;rw[p0]at hb;cases hb;revert ht;decide
    rw[g0 b this,hb]
   have u0:∀mm:M,Sl mm x.u.shape w'->eZ (bP l) id mm (bC [x.u.v w',aeR]):=λmm hs=>by unfold eZ;rw[a0];exact⟨w',rfl,hs⟩
   cases C0:bB (bC [x.u.v w',aeR])with
   |false=>exact .inr ⟨.inl rfl,by omega,⟨by omega,λc hc=>by rw[g0 c (by omega),b0.get c (by omega),h0.get c hc]⟩,u0 e0 s0⟩
   |true=>
    refine .inl ⟨rfl,by omega,by grind,.refl,u0 m ?_⟩;rcases d0 with⟨rfl,e⟩ |⟨b,o,cc,bc,g,rfl,_⟩;·rw[e];exact .nil
    simp[bC,bB,dG,bF]at C0
  rw[aQ,ae,wrap64 (by omega) (by omega)];refine⟨i+1,by omega,z,rfl,by omega,rfl,l0,λj y hj hy=>?_⟩;by_cases e:j=i
  ·subst e;rw[hx]at hy;cases hy;exact aa6 c
  exact j0 j y (by omega) hy
 have K0:i=l.length:=by have:¬(i:Int)< (l.length:Int):=aa6 B0;omega
 have a0:cj (bP l) id=none:=rV λu hu=>by obtain⟨x,hx,rfl⟩:=By hu;have⟨j,hj⟩:=abx hx;exact j0 j x (by grind) hj
 have D0:aJ TE 60 []=some (.agg Un.zc.toArray):=ni;rw[D0,ae];refine aC du g2 rfl rfl rfl λe0 r0 H g0=>?_;have H:e0.get m1.n=.cells (Un.c ⟨0,0,0,[],0,0⟩ aeQ) 60 none:=H;rw[bT H,ae];refine .inl ⟨rfl,by omega,by grind,.refl,?_⟩;unfold eZ;rw[a0];rfl
def Lu(us:List Un)(id:Int)(m':M)(H:aeM):Prop:=match cj us id with
 |some _=>∃acc r,H=.tuple #[.agg #[r],.int .i64 0]/\bP acc=vE us id/\dg m' acc r
 |none=>H=.tuple #[.agg #[.slice none 0 0],.int .i64 120]
theorem JO(hX:cC X){l:List UW}{v:aeM}(h:dg m l v)(hP:cn (bP l))(id:Int):
  ∃rv m',C X (.func 304) [.agg #[v],aeP id] m m.n rv m'/\Ext m m'/\Lu (bP l) id m' rv:=by
 have hl:l.length<=12:=by have:=hP.len;rwa[cS]at this
 have key:=Cl.gen (E:=TE) (X:=X) (f:=304) (args:=[.agg #[v],aeP id]) (m:=m) (R:=λrv m' b=>b=m.n/\Ext m m'/\Lu (bP l) id m' rv) (hX.no _ rfl) (aa3 func304) rfl ?_
 ·obtain⟨rv,m',b,hc,rfl,h⟩:=key;exact⟨rv,m',hc,h⟩
 rw[Zj];dsimp only[δ,ε,ζ,η,θ,ι,κ,ν,ξ,ο,ρ,ς,υ,φ,χ,ψ,ω]
 refine av λm1 p1 J0 r1=>?_
 refine av λm2 u1 K0 L0=>?_
 have r0:Ext m m2:=⟨by omega,by grind⟩
 have g1:m2.get m.n=.cells [v] 30 none:=by rw[L0 _ (by omega)];exact J0
 have g2:m2.get m1.n=.cells [aeQ] 30 none:=K0
 have i0:∀{mm:M} {b:Nat} {r:aeM},mm.get b=.cells [r] 30 none->ah TE mm 30 (aeK b 0)=some (.agg #[r]):=λh=>by rw[ez,aN h (by simp)];rfl
 have z0:∀{mm:M} {b:Nat} {r:aeM},mm.get b=.cells [r] 30 none->ah TE mm 28 (aeK b (0+0))=some r:=λh=>by rw[eO,aI h];rfl
 unfold ptrTo
 rw[i0 g1,ae]
 have⟨v1,m5,N0,s0,b0⟩:=yu (m:=m2) hX (h.aF r0) hP id
 refine aE N0 ?_
 have n5:=s0.n
 unfold eZ at b0
 have O0:aJ TE 30 []=some (.agg #[aeQ]):=Bn
 cases j0:cj (bP l) id with
 |none=>
  rw[j0]at b0;dsimp only at b0;subst b0;rw[aH,aH];simp only[aa8,aa7,ae];refine av λm9 Q0 u0 A0=>?_;refine aC du u0 rfl rfl rfl λm10 B0 C0 k0=>?_;rw[bj,ae,aj,acx,bL,O0,ae];have D0:m10.get m1.n=.cells [aeQ] 30 none:=by rw[k0 _ (by omega),A0 _ (by omega)];exact s0.cells g2
  refine aC oS D0 rfl rfl rfl λm14 j1 e0 k1=>?_;have e0:m14.get m1.n=.cells [aeQ] 30 none:=e0;rw[i0 e0,ae];refine .inl ⟨rfl,by omega,by grind,.refl,?_⟩;unfold Lu;rw[j0];rfl
 |some u=>
  rw[j0]at b0;obtain⟨w',rfl,a1⟩:=b0;rw[aH,aH];simp only[aa8,aa7,ae];refine av λm9 Q0 u0 A0=>?_;refine aC du u0 rfl rfl (Un.cR a1.one) λm10 B0 C0 k0=>?_;have g0:Ext m5 m10:=⟨by omega,by grind⟩
  rw[bj,ae,aj,ab7,aO];refine av λm17 l1 l0 E0=>?_;obtain⟨oc,b1⟩:∃oc,oc=m10.n:=⟨_,rfl⟩
  rw[<-b1]at l0⊢;have v0:Ext m2 m17:=s0.trans (g0.trans ⟨by omega,E0⟩);have n10:=g0.n;simp only[bO,ae];refine Lp.intro (γ:=Nat) (λi=>l.length-i) (λi vs mm lo=>∃(acc:List UW) (r:aeM),vs=[aeP i]/\i<=l.length/\Fb oc mm acc r/\(∀c,c < oc->mm.get c=m17.get c)/\m.n<=lo/\m17.n<=mm.n/\bP acc=vE ((bP l).take i) id/\acc.length<=i) 0 ⟨[],_,rfl,abh _,⟨l0,.nil,λx hx=>(by cases hx),λx hx=>(by cases hx)⟩,λc hc=>rfl,by omega,aa4 _,rfl,aa4 _⟩ ?_;rintro i vs mm w1 ⟨acc,r,rfl,hi,H,hk,d1,e1,d0,y1⟩;have a0:Ext m2 mm:=⟨by grind,λc hc=>by rw[hk c (by omega),v0.get c hc]⟩
  have gf:=a0.cells g1;have hF:=(h.aF r0).aF a0;rw[aB,z0 gf,ae,hF.sl.len dF,aA,aM,ae,aj];refine ak (λF0=>?_) (λh1=>?_)
  ·have F0:i < l.length:=by grind
   obtain⟨x,hx⟩:∃x,l[i]?=some x:=⟨_,aa5 F0⟩
   have n0:=abb hx;have G0:(bP l).take (i+1)=(bP l).take i++ [x.u]:=by rw[abt,ja hx];rfl
   have⟨q,q0,f1,f2,f3⟩:=sy hF.sl hx;have⟨q',q1,q2,ow⟩:=hF.sl.gj (k:=.i64) hx;obtain rfl:q=q':=Option.some.inj (f1.symm.trans q1);rw[ae,f1,ae,f2,ae,f3,ae,bR,ae,aj];refine ak (λc=>?_) (λc=>?_)
   ·rw[z0 H.cell,ae,ae,q1,ae,q2,ae];obtain⟨z1,A1,B1,r',C1,D1,c1,c2,c3,c4,c5,c6,c7⟩:=mR hX H (hF.sh x n0) (h.ln x n0) (by omega);refine aE c1 ⟨aa4 _,?_⟩;rw[c2,aA,c3,aA,c4,aA,aQ,ae,wrap64 (by omega) (by omega)];have:=c7.n;refine⟨i+1,by omega,_,r',rfl,by omega,c6,λc hc=>by rw[c7.lo c hc,hk c hc],by omega,by omega,?_,by grind⟩;rw[G0];unfold vE at d0⊢;rw[abK,<-d0,abZ,abe c];unfold bP;simp
   rw[aQ,ae,wrap64 (by omega) (by omega)];refine⟨i+1,by omega,acc,r,rfl,by omega,H,hk,d1,e1,?_,by omega⟩;rw[G0];unfold vE at d0⊢;rw[abK,<-d0,abZ,abd (by grind),acK,abJ]
  have i1:i=l.length:=by have:¬(i:Int)< (l.length:Int):=aa6 h1;omega
  subst i1;rw[aby (by rw[cS];exact aa4 _)]at d0;rw[i0 H.cell,ae];have gz:mm.get m1.n=.cells [aeQ] 30 none:=a0.cells g2;refine aC oS gz rfl rfl (by show(one r && true)=true;rw[H.ow.sl.one];rfl) λH0 o1 h0 o0=>?_;have h0:H0.get m1.n=.cells [r] 30 none:=h0;rw[i0 h0,ae]
  have p0:∀y0:M,dg y0 acc r->Lu (bP l) id y0 (bC [.agg #[r],aeP 0]):=λy0 hf=>by unfold Lu;rw[j0];exact⟨acc,r,rfl,d0,hf⟩
  by_cases I0:acc=[]
  ·subst I0;rcases H.ow with⟨rfl,_⟩ |⟨b,cs,_,h2,_⟩;·exact .inl ⟨rfl,by omega,by grind,.refl,p0 m ⟨.nil,λx hx=>(by cases hx),λx hx=>(by cases hx),.inl rfl⟩⟩
   simp at h2
  obtain⟨b,rfl,hb⟩:=mV H.ow I0;refine .inr ⟨.inl rfl,by omega,⟨by omega,λc hc=>by rw[o0 c (by omega),a0.get c (by omega),r0.get c hc]⟩,p0 H0 (H.tR.aY λc cs t g hb ht=>?_)⟩
  have:c≠m1.n:=by rintro rfl;rw[gz]at hb;cases hb;rcases ht with ht |ht <;>exact absurd ht (by decide)
  rw[o0 c this,hb]
theorem Px{b:Option Addr}{a c p q:Nat}{d:Addr}:bB (.agg #[.slice b a c,.slice (some d) p q])=false:=by simp[bB,dG,bF]
theorem Bj(hX:cC X){l:List UW}{ms:List Mk}{v vm:aeM}(h:dg m l v)(hlen:l.length < 1000)(hm:Sl m ms vm)(k0:ms.length<=1000):
  ∃acc r r2 m',C X (.func 184) [.agg #[v,vm]] m m.n (.agg #[r,r2]) m'/\Ext m m'/\bP acc=bP l/\dg m' acc r/\Sl m' ms r2:=by
 have key:=Cl.gen (E:=TE) (X:=X) (f:=184) (args:=[.agg #[v,vm]]) (m:=m) (R:=λrv m' bb=>bb=m.n/\Ext m m'/\∃acc r r2,rv=.agg #[r,r2]/\bP acc=bP l/\dg m' acc r/\Sl m' ms r2) (hX.no _ rfl) (aa3 func184) rfl ?_
 ·obtain⟨rv,m',bb,H,rfl,hx,acc,r,r2,rfl,hr⟩:=key;exact⟨acc,r,r2,m',H,hx,hr⟩
 rw[ZW];dsimp only[δ,ε,θ,ι,κ,ν,ρ,ς,υ,χ,ω];refine av λm1 A0 l0 B0=>?_;refine av λm2 C0 n0 o0=>?_;have i0:Ext m m2:=⟨by omega,by grind⟩
 have g1:m2.get m.n=.cells [v,vm] 33 none:=by rw[o0 _ (by omega)];exact l0
 have g2:m2.get m1.n=.cells [aeQ,aeQ] 33 none:=n0;unfold ptrTo;simp only[bZ,cN,ae];rw[(kD g1).1,ae];have⟨acc,r,m6,p0,a0,q0,j0,r0,s0⟩:=FF (m:=m2) hX (h.aF i0) hlen;refine aE p0 ⟨by omega,?_⟩;have n6:=a0.n;rw[iQ,aA];obtain⟨m9,g0⟩:∃x,x=m6.push (.cells [] 137 none):=⟨_,rfl⟩
 rw[<-g0];have D0:m9.n=m6.n+1:=by rw[g0];exact M.mr
 have u0:m9.get m6.n=.cells [] 137 none:=by rw[g0];exact M.aU
 have d0:Ext m6 m9:=g0 ▸ Ext.refl.push;have v0:=i0.trans (a0.trans d0);rw[(kD ((a0.trans d0).cells g1)).2.2.1,ae];obtain⟨r2,m13,a1,a2,a3,a4,⟨aa,ap,aq,rfl⟩,a6⟩:=CK (n1:=m6.n) (hm.aF v0) k0 u0 (aa4 _);rw[a1,aA];have n13:=a3.n;have y0:=j0.sl.one;obtain⟨b0,c0,rfl⟩:=j0.sl.form;rw[nY rfl rfl,ae];have G2:=((a0.trans d0).trans a3).cells g2;refine aC fJ G2 rfl rfl rfl λm15 z0 e0 h0=>?_;have e0:m15.get m1.n=.cells _ 33 none:=e0;rw[(kD e0).2.2.2,ae]
 have aY:∀c cs t g,m13.get c=.cells cs t g->t≠33->m15.get c=.cells cs t g:=λc cs t g H ht=>by
  by_cases e:c=m1.n;·subst e;rw[G2]at H;cases H;exact absurd rfl ht
  rw[h0 c e,H]
 have hF:=(V1 j0 r0 s0).aF (d0.trans a3);refine .inr ⟨.inl Px,by omega,⟨by omega,λc H=>?_⟩,acc,_,_,rfl,q0,hF.aY λc cs t g H ht=>aY c cs t g H (by grind),a2.aY λc cs t g H ht=>aY c cs t g H ?_⟩;·rw[h0 c (by omega),a3.get c (by omega),d0.get c (by omega),a0.get c (by omega),i0.get c H]
 have:t=137:=by simpa[aZ.ty,aZ.eB]using ht
 subst this;decide
theorem yP(u:Un):∀us:List Un,∃p q,us=p++q/\gJ u us=p++u::q
 |[]=>⟨[],[],rfl,rfl⟩
 |a::r=>by
  rw[gJ]
  by_cases e:u.id < a.id
  ·rw[abe e];exact⟨[],a::r,rfl,rfl⟩
  ·rw[abd e]
   have⟨p,q,h1,H⟩:=yP u r
   grind
theorem yQ{u:Un}:∀{us:List Un},(us.Pairwise λa b=>a.id < b.id)->(∀v∈us,v.id≠u.id)->gJ u us=uO us u
 |[],_,_=>rfl
 |a::r,h,H=>by
  have h0:=H a abN
  have⟨h1,h2⟩:=aca.1 h
  rw[gJ]
  by_cases e:u.id < a.id
  ·rw[abe e]
   have e1:(a::r).filter (λy=>decide (y.id < u.id))=[]:=by
    rw[adI]
    grind
   have e2:(a::r).filter (λy=>decide (u.id < y.id))=a::r:=by
    rw[acH]
    grind
   unfold uO
   grind
  ·rw[abd e,yQ h2 λv hv=>H v (abS _ hv)]
   unfold uO
   grind
theorem Iq{us:List Un}{u:Un}(h:cn us):fQ (gJ u us)=He us u:=by
 rw[adv,ng];constructor
 ·intro hF;rw[qf];obtain⟨p,q,rfl,e⟩:=yP u us;rw[e]at hF;have h1:=hF.len;have h3:=ab8.1 hF.Ll;have h4:=ab8.1 hF.CW;rw[abO,abr]at h1;refine⟨hF.val u (by simp),by grind,λv H=>?_,λv H=>?_⟩
  ·rcases abC.1 H with H |H;·have:=h3.2.2 v H u (by simp);omega
   have:=(aca.1 h3.2.1).1 v H;omega
  rcases abC.1 H with H |H;·rw[nG];exact h4.2.2 v H u (by simp)
  ·simp_all
 intro ha;rw[yQ h.Ll (qf.1 ha).2.2.1];exact h.ins ha
def Qk(us:List Un)(u:Un)(m':M)(H:aeM):Prop:=match qO us u with
 |some vs=>∃l' r,H=.tuple #[.agg #[r],.int .i64 0]/\bP l'=vs/\dg m' l' r
 |none=>H=.tuple #[.agg #[.slice none 0 0],.int .i64 120]
theorem oM.put{l:List UW}{u:Un}{m':M}{rv:aeM}(H:cn (bP l))(h:oM l u m' rv):Qk (bP l) u m' rv:=by
 unfold oM at h;unfold Qk qO;by_cases e:He (bP l) u=true
 ·rw[abe ⟨fH H,by rw[Iq H];exact e⟩]at h;rw[abe e];have⟨l',r,h1,h2,h3⟩:=h;exact⟨l',r,h1,by rw[h2,yQ H.Ll (qf.1 e).2.2.1],h3⟩
 ·rw[abd λc=>e (by rw[<-Iq H];exact c.2)]at h
  grind
def gR(vs:List Un)(H:List Mk)(m':M)(v:aeM):Prop:=∃acc r r2,v=.agg #[r,r2]/\bP acc=vs/\dg m' acc r/\Sl m' H r2
theorem oZ{α:Type}[aZ α]{m':M}{l:List α}{v:aeM}(h:Sl m' l v)(H:Go.D.bF v)(m:M):l=[]/\Sl m l v:=by
 rcases h with⟨h1,h2⟩ |⟨b,o,c,bc,g,h1,_⟩;·exact⟨h2,.inl ⟨h1,h2⟩⟩
 rw[h1]at H;simp[Go.D.bF]at H
theorem gR.flat{vs:List Un}{ns:List Mk}{m':M}{r r2:aeM}{t:aeM}(h:gR vs ns m' (.agg #[r,r2]))(hf:bB (.tuple #[.agg #[r,r2],t]))(m:M):gR vs ns m (.agg #[r,r2]):=by have⟨acc,r',a0,e,h1,h2,h3⟩:=h;cases e;have H:((Go.D.bF r && (Go.D.bF r2 && true)) && (dG t && true)):=hf;rw[abc,abc,abc]at H;have⟨e1,k1⟩:=oZ h2.sl H.1.1 m;have⟨e2,k2⟩:=oZ h3 H.1.2.1 m;subst e1;exact⟨[],r,r2,rfl,h1,⟨k1,λx hx=>(by cases hx),λx hx=>(by cases hx),.inl rfl⟩,k2⟩
theorem gR.aY{vs:List Un}{ns:List Mk}{m' m'':M}{v:aeM}(h:gR vs ns m' v)(hk:∀c cs t g,m'.get c=.cells cs t g->t≠33->m''.get c=.cells cs t g):gR vs ns m'' v:=by
 have⟨acc,r,r2,e,h1,h2,h3⟩:=h
 exact⟨acc,r,r2,e,h1,h2.aY λc cs t g H ht=>hk c cs t g H (by grind),h3.aY λc cs t g H ht=>hk c cs t g H (by
  have:t=137:=by simpa[aZ.ty,aZ.eB]using ht
  grind)⟩
def Sw(us:List Un)(ms:List Mk)(a:Ac)(m':M)(H:aeM):Prop:=match oN us ms a with
 |some (vs,ns)=>∃v,H=.tuple #[v,.bool true]/\gR vs ns m' v
 |none=>∃r r2,H=.tuple #[.agg #[r,r2],.bool false]/\one r=true/\one r2=true
theorem Ft{b:Nat}{v vm r:aeM}{g:Option Nat}{P:M->Nat->Prop}(h:m.get b=.cells [v,vm] 33 g)(h1:one r)(H:∀m1,m1.n=m.n->m1.get b=.cells [r,vm] 33 g->(∀c,c≠b->m1.get c=m.get c)->P m1 b):
  aP (aD TE m 30 (aeK b (0+0)) (.agg #[r])) P:=
 cg oS h rfl (by show 0+0+1<=2;decide) (by show(one r && true)=true;rw[h1];rfl) λm1 hn hg hk=>H m1 hn hg hk
theorem BG{b n k:Nat}{o:Option Addr}{v vm:aeM}{g:Option Nat}{P:M->Nat->Prop}(h:m.get b=.cells [v,vm] 33 g)(h1:one (.slice o n k))(H:∀m1,m1.n=m.n->m1.get b=.cells [v,.slice o n k] 33 g->(∀c,c≠b->m1.get c=m.get c)->P m1 b):
  aP (aD TE m 31 (aeK b (0+1)) (.slice o n k)) P:=
 cg MS h rfl (by show 0+1+1<=2;decide) (by show(one (.slice o n k) && true)=true;rw[h1];rfl) λm1 hn hg hk=>H m1 hn hg hk
theorem JY(hX:cC X){l:List UW}{ms:List Mk}{v vm w:aeM}{a:Ac}(hF:dg m l v)(hP:cn (bP l))(hm:Sl m ms vm)(N1:ms.length<=100)(hw:Sl m a.un.shape w)(O1:a.un.shape.length < 1000000)(P1:a.kind=1\/a.kind=2):
  ∃rv m',C X (.func 229) [.agg #[v,vm],a.v w] m m.n rv m'/\Ext m m'/\Sw (bP l) ms a m' rv:=by
 have y2:l.length<=12:=by have:=hP.len;rwa[cS]at this
 have key:=Cl.gen (E:=TE) (X:=X) (f:=229) (args:=[.agg #[v,vm],a.v w]) (m:=m) (R:=λrv m' bb=>bb=m.n/\Ext m m'/\Sw (bP l) ms a m' rv) (hX.no _ rfl) (aa3 func229) rfl ?_
 ·obtain⟨rv,m',bb,hc,rfl,hx,hr⟩:=key;exact⟨rv,m',hc,hx,hr⟩
 rw[Zz];dsimp only[δ,ε,η,θ,ι,κ,ν,ξ,ο,ρ,ς,υ,φ,χ,aaN,Γ,Δ,Θ,Φ,Ψ,Ω];refine av λm1 I2 K0 T1=>?_;refine av λm2 J2 L0 N0=>?_;refine av λm3 K2 O0 G0=>?_;have Q0:Ext m m3:=⟨by omega,by grind⟩
 have g1:m3.get m.n=.cells [v,vm] 33 none:=by rw[G0 _ (by omega),N0 _ (by omega)];exact K0
 have ga:m3.get m1.n=.cells (a.c w) 184 none:=by rw[G0 _ (by omega)];exact L0
 have gr:m3.get m2.n=.cells [aeQ,aeQ] 33 none:=O0;unfold ptrTo;simp only[bZ,cN,jZ,jY,jX,ae];rw[iQ,aA];obtain⟨m5,l0⟩:∃x,x=m3.push (.cells [] 137 none):=⟨_,rfl⟩
 rw[<-l0];have L2:m5.n=m3.n+1:=by rw[l0];exact M.mr
 have b1:m5.get m3.n=.cells [] 137 none:=by rw[l0];exact M.aU
 have H0:Ext m3 m5:=l0 ▸ Ext.refl.push;rw[(kD (H0.cells g1)).2.2.1,ae];obtain⟨r2,m9,a1,a2,a3,a4,⟨aa,ap,aq,rfl⟩,a6⟩:=CK (n1:=m3.n) (hm.aF (Q0.trans H0)) (by omega) b1 (aa4 _);rw[a1,aA];have n9:=a3.n;rw[GO rfl,ae];refine av λm11 z2 C0 c1=>?_;refine aC fJ C0 rfl rfl rfl λm12 A2 D0 d1=>?_;have go:m12.get m9.n=.cells [aeQ,.slice (some aa) ap aq] 33 none:=D0;have E0:Ext m9 m12:=⟨by omega,by grind⟩
 have v0:=(H0.trans a3).trans E0;have a0:=Q0.trans v0;have g1:=v0.cells g1;have ga:=v0.cells ga;have gr:=v0.cells gr;have b2:=a2.aF E0;clear a1 a2 a3 a6 D0 d1 C0 c1 b1 l0 K0 L0 O0 T1 N0 G0;obtain⟨fk,c2, -, -, -, -⟩:=YD ga;rw[fk,ae,aS,ae,aj]
 have fin:∀{mm b0:M} {r r2:aeM} {b:Bool} {lo:Nat} {Q:Prop},Q->one r->one r2->(∀c,c < m.n->mm.get c=m.get c)->m.n<=mm.n->(b->∃vs ns,oN (bP l) ms a=some (vs,ns)/\gR vs ns mm (.agg #[r,r2]))->(b=false->oN (bP l) ms a=none)->mm.get m2.n=.cells [aeQ,aeQ] 33 none->
   b0.n=mm.n->(∀c,c≠m2.n->b0.get c=mm.get c)->m.n<=lo->
   (bB (bC [.agg #[r,r2],.bool b])/\m.n<=lo/\(Q/\Ext m m/\Sw (bP l) ms a m (bC [.agg #[r,r2],.bool b])))\/((bB (bC [.agg #[r,r2],.bool b])=false\/lo < m.n)/\(min m.n lo=m.n/\Ext m b0/\Sw (bP l) ms a b0 (bC [.agg #[r,r2],.bool b]))):=by
  intro mm b0 r r2 b lo Q hQ h1 h2 hk hn ht hf hg i0 j0 d2
  have hx:Ext m b0:=⟨by omega,by grind⟩
  have I0:bB (.tuple #[.agg #[r,r2],.bool b])->Sw (bP l) ms a m (.tuple #[.agg #[r,r2],.bool b]):=λI0=>by
   unfold Sw
   cases b with
   |true=>have⟨vs,ns,e1,e2⟩:=ht rfl;rw[e1];exact⟨_,rfl,e2.flat I0 m⟩
   |false=>
    grind
  have g2:Sw (bP l) ms a b0 (.tuple #[.agg #[r,r2],.bool b]):=by
   unfold Sw
   cases b with
   |true=>
    have⟨vs,ns,e1,e2⟩:=ht rfl
    rw[e1]
    refine⟨_,rfl,e2.aY λc cs t g hc ht=>?_⟩
    grind
   |false=>
    grind
  cases e:bB (.tuple #[.agg #[r,r2],.bool b])
  ·exact .inr ⟨.inl e,by omega,hx,g2⟩
  ·exact .inl ⟨e,d2,hQ,.refl,I0 e⟩
 refine ak (λk1=>?_) (λk1=>?_)
 ·have k1:a.kind=1:=aba k1
  rw[(kD g1).1,ae,Qe ga,ae]
  obtain⟨rv,m22,i2,d0,ar⟩:=Qc (m:=m12) hX (hF.aF a0) (by omega) (hw.aF a0) O1
  refine aE i2 ?_
  have n22:=d0.n
  have hd:oN (bP l) ms a=(qO (bP l) a.un).map (·,ms):=by unfold oN;rw[abe k1]
  have ar:=ar.put hP
  unfold Qk at ar
  cases hs:qO (bP l) a.un with
  |none=>
   rw[hs]at ar hd;subst ar;rw[aH,aH];simp only[aa8,aa7,ae];refine Ft (d0.cells go) rfl λn0 i1 o0 H=>?_;rw[(kD o0).2.2.2,ae,aS,ae];have G2:n0.get m2.n=.cells [aeQ,aeQ] 33 none:=by rw[H _ (by omega)];exact d0.cells gr
   refine aC fJ G2 rfl rfl rfl λb0 i0 p0 j0=>?_;rw[(kD p0).2.2.2,ae];refine fin (mm:=n0) ?_ ?_ ?_ ?_ ?_ ?_ ?_ G2 i0 j0 ?_;·first |rfl |trivial
   ·exact rfl
   ·exact rfl
   ·exact λc hc=>by rw[H c (by omega),d0.get c (by omega),a0.get c hc]
   ·omega
   ·exact λe=>absurd e (by decide)
   ·exact λ_=>hd
   omega
  |some vs=>
   rw[hs]at ar hd;obtain⟨l',r,rfl,e1,e2⟩:=ar;rw[aH,aH];simp only[aa8,aa7,ae];refine Ft (d0.cells go) e2.sl.one λn0 i1 o0 H=>?_;rw[(kD o0).2.2.2,ae,aS,ae];have G2:n0.get m2.n=.cells [aeQ,aeQ] 33 none:=by rw[H _ (by omega)];exact d0.cells gr
   refine aC fJ G2 rfl rfl (by show(one r && (true && true))=true;rw[e2.sl.one];rfl) λb0 i0 p0 j0=>?_;rw[(kD p0).2.2.2,ae];refine fin (mm:=n0) ?_ ?_ ?_ ?_ ?_ ?_ ?_ G2 i0 j0 ?_;·first |rfl |trivial
   ·exact e2.sl.one
   ·exact rfl
   ·exact λc hc=>by rw[H c (by omega),d0.get c (by omega),a0.get c hc]
   ·omega
   ·refine λ_=>⟨vs,ms,hd,?_⟩
    have:gR vs ms m22 (.agg #[r,.slice (some aa) ap aq]):=⟨l',r,_,rfl,e1,e2,b2.aF d0⟩
    exact this.aY λc cs t g hc ht=>by rw[H c (λe=>by subst e;rw[d0.cells go]at hc;cases hc;exact ht rfl),hc]
   ·exact λe=>absurd e (by decide)
   omega
 ·have k2:a.kind=2:=P1.resolve_left (aa6 k1)
  have hd:oN (bP l) ms a=if(cj (bP l) a.id).isSome=true then some (vE (bP l) a.id,fI ms a.id)else none:=by unfold oN;rw[abd (by omega),abe k2]
  rw[(kD g1).1,ae,c2,ae]
  have⟨rv,y0,j2,q0,fr⟩:=yu (m:=m12) hX (hF.aF a0) hP a.id
  refine aE j2 ?_
  have n39:=q0.n
  unfold eZ at fr
  cases hf:cj (bP l) a.id with
  |none=>
   rw[hf]at fr hd;subst fr;rw[aH,aH];simp only[aa8,aa7,ae];refine av λl2 j1 r0 l1=>?_;refine aC du r0 rfl rfl rfl λe0 o1 p1 r1=>?_;rw[bj,ae,aj];refine ak (λ_=>?_) (λc=>by cases c);have kp:∀c,c < y0.n->e0.get c=y0.get c:=by grind
   have go':e0.get m9.n=.cells [aeQ,.slice (some aa) ap aq] 33 none:=by rw[kp _ (by omega)];exact q0.cells go
   have G2:e0.get m2.n=.cells [aeQ,aeQ] 33 none:=by rw[kp _ (by omega)];exact q0.cells gr
   rw[(kD go').2.2.2,ae];refine aC fJ G2 rfl rfl rfl λM2 u1 v1 w1=>?_;rw[(kD v1).2.2.2,ae];refine fin (mm:=e0) ?_ ?_ ?_ ?_ ?_ ?_ ?_ G2 u1 w1 ?_;·first |rfl |trivial
   ·exact rfl
   ·exact rfl
   ·exact λc hc=>by rw[kp c (by omega),q0.get c (by omega),a0.get c hc]
   ·omega
   ·exact λe=>absurd e (by decide)
   ·exact λ_=>hd
   omega
  |some u=>
   rw[hf]at fr hd;obtain⟨w',rfl,o2⟩:=fr;rw[aH,aH];simp only[aa8,aa7,ae];refine av λl2 j1 r0 l1=>?_;refine aC du r0 rfl rfl (Un.cR o2.one) λe0 o1 p1 r1=>?_;rw[bj,ae,aj];refine ak (λc=>by cases c) (λ_=>?_);have kp:∀c,c < y0.n->e0.get c=y0.get c:=by grind
   have z0:Ext m12 e0:=q0.trans ⟨by omega,kp⟩;obtain⟨N2,y1, -, -, -, -⟩:=YD (z0.cells ga);rw[(kD (z0.cells g1)).1,ae,y1,ae];have⟨rv,A0,u2,z1,rr⟩:=JO (m:=e0) hX (hF.aF (a0.trans z0)) hP a.id;refine aE u2 ?_;have O2:=z1.n;unfold Lu at rr;rw[hf]at rr;obtain⟨acc,r,rfl,e1,e2⟩:=rr;rw[aH,aH];simp only[aa8,aa7,ae];refine av λP2 B2 A1 C2=>?_;refine aC oS A1 rfl rfl (Q7 e2.sl.one) λB0 D2 s0 E2=>?_;have s0:B0.get A0.n=.cells [r] 30 none:=s0;have F0:Ext A0 B0:=⟨by omega,by grind⟩
   have g0:Ext m12 B0:=(z0.trans z1).trans F0;obtain⟨B1,J0, -, -, -, -⟩:=YD (g0.cells ga);rw[B1,ae,aS,ae,aj];refine ak (λ_=>?_) (λc=>absurd k2 (aa6 c));rw[(kD (g0.cells g1)).2.2.1,ae,J0,ae];have⟨rm,v2,w2,h0,ow⟩:=Bv (m:=B0) (id:=a.id) hX (hm.aF (a0.trans g0)) N1;refine aE w2 ?_;have Q2:=h0.n;have n61:=g0.n;have C1:=ow.sl.one;have⟨bo,bc,D1⟩:=ow.sl.form;rw[D1];refine BG ((g0.trans h0).cells go) (by grind) λE1 F2 F1 k0=>?_;have gF:E1.get A0.n=.cells [r] 30 none:=by rw[k0 _ (by omega)];exact h0.cells s0
   rw[show ah TE E1 30 (aeK A0.n 0)=some (.agg #[r]) by rw[ez,aN gF (by simp)];rfl,ae];refine Ft F1 e2.sl.one λG1 H2 H1 u0=>?_;rw[(kD H1).2.2.2,ae];have G2:G1.get m2.n=.cells [aeQ,aeQ] 33 none:=by rw[u0 _ (by omega),k0 _ (by omega)];exact(g0.trans h0).cells gr
   rw[<-D1];refine aC fJ G2 rfl rfl (by show(one r && (one rm && true))=true;rw[e2.sl.one,C1];rfl) λT2 I1 J1 K1=>?_;rw[(kD J1).2.2.2,ae];refine fin (mm:=G1) ?_ ?_ ?_ ?_ ?_ ?_ ?_ G2 I1 K1 ?_;·first |rfl |trivial
   ·exact e2.sl.one
   ·exact C1
   ·exact λc hc=>by rw[u0 c (by omega),k0 c (by omega),h0.get c (by omega),g0.get c (by omega),a0.get c hc]
   ·omega
   ·refine λ_=>⟨_,_,hd,?_⟩
    have:gR (vE (bP l) a.id) (fI ms a.id) v2 (.agg #[r,rm]):=⟨acc,r,_,rfl,e1,e2.aF (F0.trans h0),ow.sl⟩
    have go':=(g0.trans h0).cells go
    exact this.aY λc cs t g hc ht=>by
     have L1:c≠m9.n:=by grind
     rw[u0 c L1,k0 c L1,hc]
   ·exact λe=>absurd e (by decide)
   omega
end
section
variable {X:aK} {m:M}
open Classical in
def rE(us:List Un)(ms:List Mk)(a:Ac):Option (List Un×List Mk):=if(fQ us && iI us ms)=true then Hp us ms a else none
def nj(D:Option (List Un×List Mk))(m':M)(H:aeM):Prop:=match D with
 |some (vs,ns)=>∃r r2,H=.tuple #[.agg #[r,r2],.int .i64 0]/\gR vs ns m' (.agg #[r,r2])
 |none=>H=.tuple #[.agg #[.slice none 0 0,.slice none 0 0],.int .i64 170]
def AP(D:Option (List Un×List Mk)):Option (List Un×List Mk):=match D with
 |some (H,ns)=>if iI H ns=true then some (H,ns)else none
 |none=>none
theorem QN{us:List Un}{ms:List Mk}{a:Ac}(h1:fQ us)(H:iI us ms)(h3:eC a):rE us ms a=AP (oN us ms a):=by
 unfold rE Hp AP
 grind
theorem QM{us:List Un}{ms:List Mk}{a:Ac}(h:(fQ us && iI us ms && eC a)=false):rE us ms a=none:=by
 unfold rE Hp
 grind
theorem GH(ms:List Mk)(id:Int):(fI ms id).length<=ms.length:=by unfold fI;exact acn _ _
theorem Jy{ms H:List Mk}{id:Int}{o:Bool}(h:mK ms id o=some H):H.length=ms.length:=by
 unfold mK at h
 grind
theorem Ao{mm:M}{o z L:Nat}{r r2:aeM}{b:Bool}{D:Option (List Un×List Mk)}{R:aeN->M->Nat->Prop}(hX:cC X)(go:mm.get o=.cells [r,r2] 33 none)(gz:mm.get z=.cells [aeQ,aeQ] 33 none)
  (hT:match D with |some (vs,H)=>b=true/\gR vs H mm (.agg #[r,r2])/\cn vs/\H.length < 4611686018427387904 |none=>b=false) (hL:m.n<=L) (hz:m.n<=z) (J0:m.n<=mm.n) (hk:∀c,c < m.n->mm.get c=m.get c)
  (hR:∀(v:aeM) (e:Int) (m':M) (lo:Nat),m.n<=lo->Ext m m'->nj (AP D) m' (.tuple #[v,aeP e])->R [v,aeP e] m' lo):
  jn (λR4=>ai (cZ .not (.bool b)) λv49=>aR v49 (R4 [aeR] mm L) (ai (ah TE mm 33 (aeK o 0)) λv50=>bh TE X (.func 176) [v50] mm λv51 r0 s0=>ai (cZ .not v51) λv54=>R4 [v54] r0 (min L s0)))
   (λl0 i0 g0=>un l0 λv55 _=>aR v55 (ai (aJ TE 33 []) λv57=>aP (aD TE i0 33 (aeK z 0) v57) λj0 u0=>ai (ah TE j0 33 (aeK z 0)) λv60=>R [v60,aeP 170] j0 (min g0 u0)) (ai (ah TE i0 33 (aeK o 0)) λv0=>bh TE X (.func 184) [v0] i0 λy0 k0 z0=>aP (aD TE k0 33 (aeK z 0) y0) λd0 A0=>ai (ah TE d0 33 (aeK z 0)) λv67=>R [v67,aeP 0] d0 (min (min g0 z0) A0))):=by
 refine aW (λvs m' lo=>m'=mm/\m.n<=lo/\∃bad:Bool,vs=[.bool bad]/\(bad->AP D=none)/\(bad=false->∃vs H,AP D=some (vs,H)/\gR vs H mm (.agg #[r,r2])/\cn vs/\H.length<=20)) (λQ hQ=>?_) ?_
 ·rw[bj,ae,aj]
  cases D with
  |none=>rw[hT];refine ak (λ_=>hQ _ _ _ ⟨rfl,hL,true,rfl,λ_=>rfl,λe=>by cases e⟩) (λc=>by cases c)
  |some d=>
   have⟨vs,H⟩:=d;have⟨hb,hS,a0,n0⟩:=hT;rw[hb];refine ak (λc=>by cases c) (λ_=>?_);rw[(kD go).2.2.2,ae];have⟨acc,r',B0,e,e1,e2,e3⟩:=hS;cases e;have C0:acc.length<=12:=by have:=a0.len;rwa[<-e1,cS]at this
   refine aE (kW hX e2 (by omega) e3 n0) ?_;rw[bj,ae,e1,fH a0,abG];have D0:AP (some (vs,H))=if iI vs H=true then some (vs,H)else none:=rfl
   refine hQ _ _ _ ⟨rfl,by omega,_,rfl,λc=>?_,λc=>?_⟩
   ·grind
   rw[abu]at c;rw[D0,abe c];exact⟨vs,H,rfl,⟨acc,_,_,rfl,e1,e2,e3⟩,a0,(fY.1 c).len⟩
 rintro _ _ lo ⟨rfl,K0,bad,rfl,h1,h2⟩;rw[aB,aj];refine ak (λc=>?_) (λc=>?_)
 ·rw[qK,ae]
  refine aC fJ gz rfl rfl rfl λj0 G0 o0 H0=>?_
  rw[(kD o0).2.2.2,ae]
  refine hR _ _ _ _ (by omega) ⟨by omega,by grind⟩ ?_
  unfold nj
  grind
 have⟨vs,H,e,hS,a0,n0⟩:=h2 c;rw[(kD go).2.2.2,ae];have⟨acc,r',B0,e',e1,e2,e3⟩:=hS;cases e';have C0:acc.length<=12:=by have:=a0.len;rwa[<-e1,cS]at this
 obtain⟨p0,q,q2,k0,E0,e0,F0,f63,q0⟩:=Bj hX e2 (by omega) e3 (by omega);refine aE E0 ?_;have L0:=e0.n;refine aC fJ (e0.cells gz) rfl rfl (by show(one q && (one q2 && true))=true;rw[f63.sl.one,q0.one];rfl) λd0 I0 b0 h0=>?_;have b0:d0.get z=.cells [q,q2] 33 none:=b0;rw[(kD b0).2.2.2,ae];refine hR _ _ _ _ (by omega) ⟨by omega,λc hc=>by rw[h0 c (by omega),e0.get c (by omega),hk c hc]⟩ ?_;unfold nj;rw[e];have:gR vs H k0 (.agg #[q,q2]):=⟨p0,q,q2,rfl,by rw[F0,e1],f63,q0⟩
 exact⟨q,q2,rfl,this.aY λc cs t g hc ht=>by rw[h0 c (λe=>by subst e;rw[e0.cells gz]at hc;cases hc;exact ht rfl),hc]⟩
end
section
variable {X:aK} {m:M}
theorem nj.flat{D:Option (List Un×List Mk)}{m':M}{v t:aeM}(h:nj D m' (.tuple #[v,t]))(H:bB (.tuple #[v,t]))(m:M):nj D m (.tuple #[v,t]):=by
 unfold nj at h⊢;split at h
 ·have⟨r,r2,e,hs⟩:=h;cases e;exact⟨r,r2,rfl,hs.flat H m⟩
 exact h
theorem JC(hX:cC X){l:List UW}{ms:List Mk}{v vm w:aeM}{a:Ac}(hF:dg m l v)(hlen:l.length < 1000)(hm:Sl m ms vm)(c1:ms.length < 4611686018427387904)(hw:Sl m a.un.shape w)(i1:a.un.shape.length < 1000000)(h3:a.kind≠3)(h4:a.kind≠4):
  ∃rv m',C X (.func 185) [.agg #[v,vm],a.v w] m m.n rv m'/\Ext m m'/\nj (rE (bP l) ms a) m' rv:=by
 have key:=Cl.gen (E:=TE) (X:=X) (f:=185) (args:=[.agg #[v,vm],a.v w]) (m:=m) (R:=λrv m' bb=>bb=m.n/\Ext m m'/\nj (rE (bP l) ms a) m' rv) (hX.no _ rfl) (aa3 func185) rfl ?_
 ·obtain⟨rv,m',bb,hc,rfl,hx,hr⟩:=key;exact⟨rv,m',hc,hx,hr⟩
 have H:∀R:aeN->M->Nat->Prop,(∀(v:aeM) (e:Int) (m':M) (lo:Nat),m.n<=lo->Ext m m'->nj (rE (bP l) ms a) m' (.tuple #[v,aeP e])->R [v,aeP e] m' lo)->eL TE (aL TE X) f185 [.agg #[v,vm],a.v w] m R:=by
  intro R hR;rw[ZV];dsimp only[δ,ε,η,θ,ι,ξ,ο,ρ,ς,υ,φ,χ,Γ,ψ,ω];refine av λm1 C1 E0 F0=>?_;refine av λm2 D1 G0 B0=>?_;refine av λm3 E1 H0 o0=>?_;have l0:Ext m m3:=⟨by omega,λc hc=>by rw[o0 c (by omega),B0 c (by omega),F0 c hc]⟩
  have g1:m3.get m.n=.cells [v,vm] 33 none:=by rw[o0 _ (by omega),B0 _ (by omega)];exact E0
  have ga:m3.get m1.n=.cells (a.c w) 184 none:=by rw[o0 _ (by omega)];exact G0
  have gr:m3.get m2.n=.cells [aeQ,aeQ] 33 none:=H0;unfold ptrTo;simp only[bZ,cN,jZ,jX,oD,ae];refine aW (λvs mm lo=>vs=[.bool (!(fQ (bP l) && iI (bP l) ms && eC a))]/\m3=mm/\lo=m.n) (λQ hQ=>?_) ?_
  ·rw[(kD g1).2.2.2,ae];refine aE (kW hX (hF.aF l0) hlen (hm.aF l0) c1) ?_;rw[bj,ae,aj];refine ak (λc=>hQ _ _ _ ⟨?_,rfl,by omega⟩) (λc=>?_)
   ·rw[abz]at c;rw[c];rfl
   rw[abu]at c;rw[show ah TE m3 184 (aeK m1.n 0)=some (a.v w) by rw[Ed,aN (n:=15) ga (by show 0+15<=15;decide)];rfl,ae];refine aE (Eu hX (hw.aF l0) (by omega)) ?_;rw[bj,ae];exact hQ _ _ _ ⟨by rw[c,abG],rfl,by omega⟩
  rintro _ _ _ ⟨rfl,rfl,rfl⟩;rw[aB,aj];refine ak (λc=>?_) (λc=>?_)
  ·rw[abz]at c;rw[qK,ae];refine aC fJ gr rfl rfl rfl λC0 z1 I0 J0=>?_;rw[(kD I0).2.2.2,ae];refine hR _ _ _ _ (by omega) ⟨by omega,λc hc=>by rw[J0 c (by omega),l0.get c hc]⟩ ?_;rw[QM c];rfl
  rw[abu,abc,abc]at c;have⟨⟨K0,L0⟩,p0⟩:=c;have hP:=ng.1 K0;have hM:=fY.1 L0;have j1:=hM.len;rw[QN K0 L0 p0]at hR;rw[(kD g1).1,ae,zs rfl,ae];refine av λF1 A1 s0 u0=>?_;refine aC fJ s0 rfl rfl (by show(one v && (true && true))=true;rw[hF.sl.one];rfl) λq0 B1 v0 y0=>?_;have go:q0.get m3.n=.cells [v,aeQ] 33 none:=v0;have i0:Ext m3 q0:=⟨by omega,λc hc=>by rw[y0 c (by omega),u0 c hc]⟩
  have j0:=l0.trans i0;have g1:=i0.cells g1;have ga:=i0.cells ga;have gr:=i0.cells gr;have N0:=hF.aF j0;have r0:=hm.aF j0;clear F0 B0 o0 E0 G0 H0 s0 u0 v0 y0;obtain⟨fk,O0, -, -, -, -⟩:=YD ga
  have tail:∀{g0 e0:M} {r:aeM} {b:Bool} {L:Nat},Ext q0 g0->e0.n=g0.n->e0.get m3.n=.cells [v,r] 33 none->(∀c,c≠m3.n->e0.get c=g0.get c)->m.n<=L->(match oN (bP l) ms a with |some (vs,ns)=>b=true/\vs=bP l/\Sl g0 ns r/\ns.length<=100 |none=>b=false)->
    jn (λR4=>ai (cZ .not (.bool b)) λv49=>aR v49 (R4 [aeR] e0 L) (ai (ah TE e0 33 (aeK m3.n 0)) λv50=>bh TE X (.func 176) [v50] e0 λv51 k1 l1=>ai (cZ .not v51) λv54=>R4 [v54] k1 (min L l1)))
   (λQ0 D0 z0=>un Q0 λv55 _=>aR v55 (ai (aJ TE 33 []) λv57=>aP (aD TE D0 33 (aeK m2.n 0) v57) λC0 o1=>ai (ah TE C0 33 (aeK m2.n 0)) λv60=>R [v60,aeP 170] C0 (min z0 o1)) (ai (ah TE D0 33 (aeK m3.n 0)) λp1=>bh TE X (.func 184) [p1] D0 λr1 u1 v1=>aP (aD TE u1 33 (aeK m2.n 0) r1) λa1 w1=>ai (ah TE a1 33 (aeK m2.n 0)) λv67=>R [v67,aeP 0] a1 (min (min z0 v1) w1))):=by
   intro g0 e0 r b L b0 h0 d0 a0 hL hd
   have n38:=b0.n
   refine Ao (m:=m) (D:=oN (bP l) ms a) hX d0 (by rw[a0 _ (by omega)];exact b0.cells gr) ?_ hL (by omega) (by omega) (λc hc=>by rw[a0 c (by omega),b0.get c (by omega),j0.get c hc]) hR
   cases e:oN (bP l) ms a with
   |none=>rw[e]at hd;exact hd
   |some d=>
    have⟨vs,ns⟩:=d;rw[e]at hd;obtain⟨d1,rfl,d3,d4⟩:=hd;have n0:=b0.cells go;have:gR (bP l) ns g0 (.agg #[v,r]):=⟨l,v,r,rfl,rfl,N0.aF b0,d3⟩
    exact⟨d1,this.aY λc cs t g hc ht=>by rw[a0 c (λe=>by subst e;rw[n0]at hc;cases hc;exact ht rfl),hc],hP,by omega⟩
  rw[fk,ae,aS,ae,aj];refine ak (λk5=>?_) (λk5=>?_)
  ·have k5:a.kind=5:=aba k5;rw[(kD g1).2.2.1,ae,Qf ga,ae];have⟨g0,r,b,k0,b0,hr⟩:=Br (x:=a.zN) hX r0 hM.xN j1;refine aE k0 ?_;rw[aH,aH];simp only[aa8,aa7,ae];have hd:oN (bP l) ms a=if(ms.any λy=>decide (y.id=a.zN.id))=true then none else some (bP l,nc ms a.zN):=by unfold oN;rw[abd (by omega),abd (by omega),abd (by omega),abd (by omega),abe k5]
   obtain⟨o,n,k,rfl,h1⟩:∃o n k,r=.slice o n k/\one r:=by
    rcases hr with⟨_,rfl,_⟩ |⟨_,_,h⟩;·exact⟨_,_,_,rfl,rfl⟩
    have⟨o,k,e⟩:=h.sl.form;exact⟨_,_,_,e,h.sl.one⟩
   refine BG (b0.cells go) h1 λe0 h0 d0 a0=>?_;refine tail b0 h0 d0 a0 (by omega) ?_;rw[hd];rcases hr with⟨hb,_,h⟩ |⟨hb,h,ho⟩;·rw[abe h];exact hb
   rw[abd (by rw[h];decide)];exact⟨hb,rfl,ho.sl,by have:=yR ms a.zN;omega⟩
  have k5:a.kind≠5:=aa6 k5
  have A0:∀{g0:M} {r:aeM} {b:Bool} {o:Bool},Bs ms a.id o g0 r b->(a.kind=6\/a.kind=7)->o=decide (a.kind=7)->(∃o n k,r=.slice o n k/\one r)/\(match oN (bP l) ms a with |some (vs,ns)=>b=true/\vs=bP l/\Sl g0 ns r/\ns.length<=100 |none=>b=false):=by
   intro g0 r b o ht hk ho
   have hd:oN (bP l) ms a=(mK ms a.id o).map (bP l,·):=by unfold oN;rw[abd (by omega),abd (by omega),abd (by omega),abd (by omega),abd (by omega),ho]
   unfold Bs at ht
   rw[hd]
   cases e:mK ms a.id o with
   |none=>rw[e]at ht;have⟨hb,ns,hs,_⟩:=ht;have⟨p,q,e'⟩:=hs.form;exact⟨⟨_,_,_,e',hs.one⟩,hb⟩
   |some ns=>rw[e]at ht;have⟨hb,hs⟩:=ht;have⟨p,q,e'⟩:=hs.form;exact⟨⟨_,_,_,e',hs.one⟩,hb,rfl,hs,by rw[Jy e];omega⟩
  rw[aS,ae,aj];refine ak (λk6=>?_) (λk6=>?_)
  ·have k6:a.kind=6:=aba k6;rw[(kD g1).2.2.1,ae,O0,ae];obtain⟨r,b,g0,k0,b0,hr⟩:=vK (id:=a.id) (o:=false) hX r0 (by omega);refine aE k0 ?_;rw[aH,aH];simp only[aa8,aa7,ae];obtain⟨⟨o,n,k,rfl,h1⟩,hd⟩:=A0 hr (.inl k6) (by rw[k6];rfl);refine BG (b0.cells go) h1 λe0 h0 d0 a0=>?_;exact tail b0 h0 d0 a0 (by omega) hd
  have k6:a.kind≠6:=aa6 k6;rw[aS,ae,aj];refine ak (λk7=>?_) (λk7=>?_)
  ·have k7:a.kind=7:=aba k7;rw[(kD g1).2.2.1,ae,O0,ae];obtain⟨r,b,g0,k0,b0,hr⟩:=vK (id:=a.id) (o:=true) hX r0 (by omega);refine aE k0 ?_;rw[aH,aH];simp only[aa8,aa7,ae];obtain⟨⟨o,n,k,rfl,h1⟩,hd⟩:=A0 hr (.inr k7) (by rw[k7];rfl);refine BG (b0.cells go) h1 λe0 h0 d0 a0=>?_;exact tail b0 h0 d0 a0 (by omega) hd
  have k7:a.kind≠7:=aa6 k7
  have b1:a.kind=1\/a.kind=2:=by
   by_cases e1:a.kind=1;·exact .inl e1
   by_cases e2:a.kind=2;·exact .inr e2
   exfalso;unfold eC nB at p0;rw[abd e1,abd e2,abd h3,abd h4,abd k5,abd (by omega)]at p0;simp at p0
  rw[(kD g1).2.2.2,ae,show ah TE q0 184 (aeK m1.n 0)=some (a.v w) by rw[Ed,aN (n:=15) ga (by show 0+15<=15;decide)];rfl,ae];obtain⟨rv,g0,k0,b0,hr⟩:=JY hX N0 hP r0 (by omega) (hw.aF j0) i1 b1;refine aE k0 ?_;have n38:=b0.n;unfold Sw at hr
  have fin:∀{r r2:aeM} {b:Bool},rv=.tuple #[.agg #[r,r2],.bool b]->one r->one r2->(match oN (bP l) ms a with |some (vs,ns)=>b=true/\gR vs ns g0 (.agg #[r,r2])/\cn vs/\ns.length < 4611686018427387904 |none=>b=false)->∀e0:M,e0.n=g0.n->e0.get m3.n=.cells [r,r2] 33 none->(∀c,c≠m3.n->e0.get c=g0.get c)->(match oN (bP l) ms a with |some (vs,ns)=>b=true/\gR vs ns e0 (.agg #[r,r2])/\cn vs/\ns.length < 4611686018427387904 |none=>b=false):=by
   intro r r2 b _ _ _ hd e0 h0 d0 a0
   cases e:oN (bP l) ms a with
   |none=>rw[e]at hd;exact hd
   |some d=>have⟨vs,ns⟩:=d;rw[e]at hd;have⟨d1,d2,d3⟩:=hd;have n0:=b0.cells go;exact⟨d1,d2.aY λc cs t g hc ht=>by rw[a0 c (λe=>by subst e;rw[n0]at hc;cases hc;exact ht rfl),hc],d3⟩
  obtain⟨r,r2,b,rfl,h1,h2,hd⟩:∃r r2 b,rv=.tuple #[.agg #[r,r2],.bool b]/\one r/\one r2/\(match oN (bP l) ms a with |some (vs,ns)=>b=true/\gR vs ns g0 (.agg #[r,r2])/\cn vs/\ns.length < 4611686018427387904 |none=>b=false):=by
   cases e:oN (bP l) ms a with
   |none=>rw[e]at hr;have⟨r,r2,e1,e2,e3⟩:=hr;exact⟨r,r2,false,e1,e2,e3,rfl⟩
   |some d=>
    have⟨vs,ns⟩:=d;rw[e]at hr;obtain⟨_,e1,acc,r,r2,rfl,e2,e3,e4⟩:=hr
    have G1:ns.length<=ms.length:=by
     unfold oN at e;rcases b1 with k |k
     ·rw[abe k]at e
      cases e5:qO (bP l) a.un with
      |none=>rw[e5]at e;cases e
      |some q=>rw[e5]at e;cases e;exact aa4 _
     rw[abd (by omega),abe k]at e;split at e;·cases e;exact GH _ _
     cases e
    exact⟨r,r2,true,e1,e3.sl.one,e4.one,rfl,⟨acc,r,r2,rfl,e2,e3,e4⟩,Iy hP e,by omega⟩
  rw[aH,aH];simp only[aa8,aa7,ae];refine aC fJ (b0.cells go) rfl rfl (by show(one r && (one r2 && true))=true;rw[h1,h2];rfl) λe0 h0 d0 a0=>?_;have d0:e0.get m3.n=.cells [r,r2] 33 none:=d0;exact Ao (m:=m) (D:=oN (bP l) ms a) hX d0 (by rw[a0 _ (by omega)];exact b0.cells gr) (fin rfl h1 h2 hd e0 h0 d0 a0) (by omega) (by omega) (by omega) (λc hc=>by rw[a0 c (by omega),b0.get c (by omega),j0.get c hc]) hR
 refine H _ λv e m' lo y1 hx hs=>?_;show(bB (.tuple #[v,aeP e])/\m.n<=lo/\(m.n=m.n/\Ext m m/\nj _ m (.tuple #[v,aeP e])))\/((bB (.tuple #[v,aeP e])=false\/lo < m.n)/\(min m.n lo=m.n/\Ext m m'/\nj _ m' (.tuple #[v,aeP e])));cases hf:bB (.tuple #[v,aeP e]);·exact .inr ⟨.inl rfl,by omega,hx,hs⟩
 exact .inl ⟨rfl,y1,rfl,.refl,hs.flat hf m⟩
theorem eT{α:Type}[aZ α]{T:TypeId}(hT:ur TE T α)(g0:aZ.eB α=[]){n1:Nat}{acc:List α}{r v:aeM}{cs:aeN}{x:α}(hw:Ow n1 m acc r)(hn:n1<=m.n)(h0:acc.length < 1000000)
  (b0:aG TE m T 1 [(0,v)]=some (aeL m.n 0 1 1,m.push (.cells cs (aZ.ty α) none))) (hr:∀m',aZ.rep m' x cs) {P:aeM->M->Prop}
  (hP:∀r' m2,Ow n1 m2 (acc++ [x]) r'->m.n<=m2.n->(∀c,c < n1->m2.get c=m.get c)->(∀c,c < m.n->(∀cs g,m.get c≠.cells cs (aZ.ty α) g)->m2.get c=m.get c)->n1<=m2.low->P r' m2):
  aP (aG TE m T 1 [(0,v)]) λa m1=>aP (aw TE (M.wl m1 (M.n m1)) .append [T,T] [r,a]) λr' m2=>P r' m2:=by
 rw[b0,aA]
 obtain⟨m1,H⟩:∃y,y=m.push (.cells cs (aZ.ty α) none):=⟨_,rfl⟩
 rw[<-H]
 have a0:Ext m m1:=by rw[H];exact Ext.refl.push
 have i0:m1.n=m.n+1:=by rw[H];rfl
 have d0:m1.get m.n=.cells cs (aZ.ty α) none:=by rw[H];exact M.aU
 have e0:=hw.aF a0
 obtain⟨r',m2,e1,h1,h2,h3,h4⟩:=e0.append hT (by grind) (iD d0 (hr _)) (by omega) (by grind)
 rw[e1,aA]
 refine hP r' m2 h1 (by have:=h2.n;omega) (λc hc=>by rw[h2.get c hc,a0.get c (by omega)]) (λc hc j0=>?_) h3
 rw[fx e1 (by omega) λad n k e he=>?_,a0.get c hc]
 have⟨k0,g',l0,_⟩:=pz hw e
 grind
end
theorem ZG{X:aK}{x0 x1:aeM}{m:M}{R:aeN->M->Nat->Prop}:eL TE (aL TE X) f222 [x0,x1] m R=ρ m x1 141 λa=>Lp (λa b c d=>un b λb f=>un f λf g=>un g λg _=>κ c .len [58] [x0] λh _=>η .lss 3 g h λh=>aR h (ζ 58 x0 g λh=>δ c 141 h λh=>χ X 299 [x0,g] c λi j k=>(c.n<=k)/\(δ j 141 (υ m) λc=>χ X 223 [h,i,c] j λc h i=>η .lss 3 c (φ 0) λj=>aR j (R [φ (-1)] h (ψ d k i)) (η .eql 3 c (φ 0) λc=>aR c (η .add 3 g (φ 1) λc=>a [b,φ 0,c] h (ψ d k i)) (η .add 3 g (φ 1) λc=>a [b,f,c] h (ψ d k i))))) (R [f] c d)) [φ 0,φ 1,φ 0] a m.n:=by kernel_rfl
section
variable {X:aK} {m:M}
theorem yM{l:List Pl}{p:Pl}:∀(n i:Nat),i<=n->fZ l p n<=fZ l p i
 |0,i,h=>by grind
 |n+1,i,h=>by
  by_cases e:i=n+1
  ·grind
  ·have H:=yM (l:=l) (p:=p) n i (by omega)
   rw[fZ]
   grind
theorem IA{x:Int}(h:0 < x):dt x 0=1:=by unfold dt;rw[abd (by omega),abe h]
theorem Dk(hX:cC X){l:List Pl}{v:aeM}{p:Pl}(hl:Sl m l v)(hb:l.length < 1000000)(e0:∀a∈l,a.sm 1000000)(hp:p.sm 1000000):C X (.func 222) [v,p.v] m m.n (aeP (DB l p)) m:=by
 refine Cl.flat (hX.no _ rfl) (aa3 func222) rfl rfl ?_;rw[ZG];dsimp only[δ,ζ,η,κ,ρ,υ,φ,χ,ψ];refine av λm1 n0 H g0=>?_;have H:m1.get m.n=.cells p.c 141 none:=H;have h0:Ext m m1:=⟨by omega,g0⟩
 have a0:=hl.aF h0;have i0:ah TE m1 141 (aeK m.n 0)=some p.v:=by rw[lh,aN H (by simp[Pl.c])];rfl
 unfold ptrTo;refine Lp.intro (γ:=Nat) (λi=>l.length-i) (λi vs mm lo=>∃w0,vs=[w0,aeP (dt (fZ l p i) 0),aeP i]/\i<=l.length/\m1=mm/\m.n<=lo/\0<=fZ l p i) 0 ⟨_,rfl,abh _,rfl,aa4 _,(show(0:Int)<=4611686018427387903 by decide)⟩ ?_;rintro i vs mm lo ⟨w0,rfl,hi,rfl,j0,l0⟩;rw[aB,aB,aB,a0.len cx,aA,aM,ae,aj];refine ak (λb0=>?_) (λo0=>?_)
 ·have b0:i < l.length:=by grind
  obtain⟨a,ha⟩:∃a,l[i]?=some a:=⟨_,aa5 b0⟩
  obtain⟨b,d0⟩:∃b,l[(i+1)%l.length]?=some b:=⟨_,aa5 (acQ _ (by omega))⟩
  have⟨q,e1,e2⟩:=a0.dZ (k:=.i64) ha;have p0:fZ l p (i+1)=min (fZ l p i) (di a b p):=by rw[fZ,ha,d0]
  rw[e1,ae,e2,ae];refine aE (Gt hX a0 (by omega) b0 d0) ⟨aa4 _,?_⟩;rw[i0,ae];refine aE (yq hX (e0 a (abb ha)) (e0 b (abb d0)) hp) ?_;rw[aM,ae,aj];refine ak (λh1=>?_) (λh1=>?_)
  ·have h1:di a b p < 0:=by grind
   have h2:=yM (l:=l) (p:=p) l.length (i+1) (by omega)
   have:DB l p= -1:=by unfold DB dt;rw[abe (by omega)]
   rw[this];exact⟨rfl,by omega⟩
  have h1:¬di a b p < 0:=by grind
  rw[aS,ae,aj];refine ak (λh2=>?_) (λh2=>?_)
  ·have h2:di a b p=0:=by grind
   rw[aQ,ae,wrap64 (by omega) (by omega)]
   have:dt (fZ l p (i+1)) 0=0:=by unfold dt;rw[abd (by omega),abd (by omega)]
   exact⟨i+1,by omega,w0,by grind,by omega,rfl,by omega,by omega⟩
  have h2:¬di a b p=0:=by grind
  rw[aQ,ae,wrap64 (by omega) (by omega)]
  have:dt (fZ l p (i+1)) 0=dt (fZ l p i) 0:=by
   by_cases e:0 < fZ l p i;·rw[IA e,IA (by omega)]
   rw[show fZ l p i=0 by omega,show fZ l p (i+1)=0 by omega]
  exact⟨i+1,by omega,w0,by grind,by omega,rfl,by omega,by omega⟩
 have k0:i=l.length:=by
  have:¬(i:Int)< (l.length:Int):=by grind
  omega
 subst k0;exact⟨rfl,j0⟩
def jk(x y:Nat):List Pl:=((List.range x).flatMap λ(i:Nat)=>(List.range 41).map λ(j:Nat)=>(⟨(i:Int),(j:Int)⟩:Pl))++(List.range y).map λ(j:Nat)=>⟨(x:Int),(j:Int)⟩
theorem yT(x y:Nat):jk x (y+1)=jk x y++ [⟨(x:Int),(y:Int)⟩]:=by unfold jk;rw[acO (n:=y),abM,abL];rfl
theorem Es(x:Nat):jk (x+1) 0=jk x 41:=by unfold jk;rw[acO (n:=x),acG];simp
theorem yU(x:Nat):∀y,(jk x y).length<=41*x+y:=by
 induction x with
 |zero=>intro y;unfold jk;simp
 |succ x H=>
  intro y
  induction y with
  |zero=>rw[Es];have:=H 41;omega
  |succ y a0=>rw[yT,abO];simp only[abr,abI];omega
def zv(a b:List Pl)(p:Pl):Bool:=decide (DB a p=0) && decide (DB b p=0)
def mD(a b:List Pl):List Pl:=(jk 41 0).filter (zv a b)
def BQ(a b:List Pl):Option (Pl×Pl):=if(mD a b).length < 2 then none else some (if a.any (λx=>decide (di ((mD a b).getD 0 ⟨0,0⟩) ((mD a b).getD ((mD a b).length-1) ⟨0,0⟩) x < 0))=true then((mD a b).getD ((mD a b).length-1) ⟨0,0⟩,(mD a b).getD 0 ⟨0,0⟩)else((mD a b).getD 0 ⟨0,0⟩,(mD a b).getD ((mD a b).length-1) ⟨0,0⟩))
def fV(a b:List Pl):Option (Pl×Pl):=if(bJ a && bJ b && !fA a b)=true then BQ a b else none
theorem No{mm:M}{z:Nat}{o:Option (Pl×Pl)}{P:M->Nat->aeM->Prop}(g:mm.get z=.cells sJ 143 none)(hP:∀m',m'.n=mm.n->P m' z (.agg (iE o).toArray)):
  aP (aD TE mm 143 (aeK z 0) (.agg (iE o).toArray)) λm' b=>ai (ah TE m' 143 (aeK z 0)) λv=>P m' b v:=by
 refine aC oU g (by rw[aT];exact fG _) (by rw[aT];exact fG _) (by rw[aT];exact uL _) λm' a0 H b0=>?_
 rw[aT]at H
 rw[show ah TE m' 143 (aeK z 0)=some (.agg (iE o).toArray) by rw[mY,aN (n:=4) H (by simp only[aex];rw[fG];decide)];simp only[aex,abU];rw[aby (by rw[fG];exact aa4 _)];rfl,ae]
 grind
theorem Nn(hX:cC X){a b:List Pl}{va vb:aeM}(ha:Sl m a va)(hb:Sl m b vb)(la:a.length < 1000000)(lb:b.length < 1000000):
  C X (.func 175) [va,vb] m m.n (.tuple #[.agg (iE (fV a b)).toArray,.bool (fV a b).isSome]) m:=by
 refine Cl.flat (hX.no _ rfl) (aa3 func175) rfl (by cases fV a b <;>rfl) ?_;rw[Z5];dsimp only[δ,ζ,η,θ,ι,κ,ν,ο,ς,υ,φ,χ,ψ,ω];refine av λm1 L1 g1 h1=>?_;have g0:m1.get m.n=.cells sJ 143 none:=g1;have r0:Ext m m1:=⟨by omega,h1⟩
 have I0:=ha.aF r0;have J0:=hb.aF r0;unfold ptrTo;refine aW (λvs m' lo=>vs=[.bool (!(bJ a && bJ b && !fA a b))]/\m1=m'/\m.n<=lo) (λR hR=>?_) ?_
 ·refine aE (mQ hX I0 (by omega)) ?_;rw[bj,ae,aj];refine ak (λc=>hR _ _ _ ⟨?_,rfl,by omega⟩) (λc=>?_)
  ·rw[abz]at c;rw[c];rfl
  rw[abu]at c;refine aE (mQ hX J0 (by omega)) ?_;rw[bj,ae,aj];refine ak (λd=>hR _ _ _ ⟨?_,rfl,by omega⟩) (λd=>?_)
  ·rw[abz]at d;rw[c,d];rfl
  rw[abu]at d;refine aE (vV hX I0 J0 la lb) ?_;exact hR _ _ _ ⟨by simp_all,rfl,by omega⟩
 rintro _ _ lo ⟨rfl,rfl,K0⟩;rw[aB,aj]
 have d0:∀{H:M} {lo:Nat},H.get m.n=.cells sJ 143 none->m.n<=lo->fV a b=none->ai (aJ TE 143 []) λE0=>aP (aD TE H 143 (aeK m.n 0) E0) λm20 F0=>ai (ah TE m20 143 (aeK m.n 0)) λv22=>bC [v22,aeS]=.tuple #[.agg (iE (fV a b)).toArray,.bool (fV a b).isSome]/\m.n<=min lo F0:=by intro H lo g hl e;rw[show aJ TE 143 []=some (.agg (iE none).toArray)from pV,ae];refine No g λm' j1=>⟨by rw[e];rfl,by omega⟩
 have e0:∀{H:M} {lo:Nat} {p q:Pl},H.get m.n=.cells sJ 143 none->m.n<=lo->fV a b=some (p,q)->ai (aJ TE 143 [(0,p.v),(1,q.v)]) λE0=>aP (aD TE H 143 (aeK m.n 0) E0) λm20 F0=>ai (ah TE m20 143 (aeK m.n 0)) λv22=>bC [v22,aeR]=.tuple #[.agg (iE (fV a b)).toArray,.bool (fV a b).isSome]/\m.n<=min lo F0:=by intro H lo p q g hl e;rw[show aJ TE 143 [(0,p.v),(1,q.v)]=some (.agg (iE (some (p,q))).toArray)from lL,ae];refine No g λm' j1=>⟨by rw[e];rfl,by omega⟩
 refine ak (λc=>?_) (λc=>?_)
 ·rw[abz]at c;exact d0 g0 K0 (by unfold fV;rw[abd (by grind)])
 rw[abu]at c;have L0:fV a b=BQ a b:=by unfold fV;rw[abe c]
 rw[abc,abc]at c;have sa:=jy c.1.1;have sb:=jy c.1.2;refine Lp.intro (γ:=Nat) (λx=>41-x) (λx vs H lo=>∃r,vs=[r,aeP x]/\x<=41/\Ext m1 H/\m.n<=lo/\Ow m1.n H ((jk x 0).filter (zv a b)) r) 0 ⟨_,rfl,by omega,.refl,K0,Ow.nil⟩ ?_;rintro x vs H N1 ⟨r,rfl,hx,b0,v0,ho⟩;rw[aB,aB,cp,ae,aj];refine ak (λn0=>?_) (λk1=>?_)
 ·have n0:(x:Int)<=40:=aba n0;refine Lp.intro (γ:=Nat) (λy=>41-y) (λy vs H lo=>∃r,vs=[r,aeP y]/\y<=41/\Ext m1 H/\m.n<=lo/\Ow m1.n H ((jk x y).filter (zv a b)) r) 0 ⟨_,rfl,by omega,b0,v0,ho⟩ ?_;rintro y vs H fS ⟨r,rfl,hy,b0,N0,ho⟩;have nm:=b0.n;rw[aB,aB,cp,ae,aj];refine ak (λO0=>?_) (λO1=>?_)
  ·have O0:(y:Int)<=40:=aba O0;obtain⟨p,hp⟩:∃p:Pl,p=⟨(x:Int),(y:Int)⟩:=⟨_,rfl⟩
   have s0:p.sm 1000000:=by rw[hp];refine⟨?_,?_,?_,?_⟩ <;>(simp only[];omega)
   rw[show aJ TE 141 [(0,aeP x),(1,aeP y)]=some p.v by rw[mE rfl rfl,hp];rfl,ae];refine av λP1 y1 Q0 z1=>?_;refine aC dh Q0 rfl rfl rfl λG0 A1 h0 B1=>?_;have h0:G0.get H.n=.cells p.c 141 none:=h0;have k0:Ext H G0:=⟨by omega,by grind⟩
   have b1:=r0.trans (b0.trans k0);have y0:=ho.aF k0;refine aW (λvs m' lo=>vs=[.bool (zv a b p)]/\G0=m'/\m.n<=lo) (λR hR=>?_) ?_
   ·rw[bS h0,ae];refine aE (Dk hX (ha.aF b1) la sa s0) ?_;rw[aS,ae,aj];refine ak (λd=>?_) (λd=>?_)
    ·rw[bS h0,ae];refine aE (Dk hX (hb.aF b1) lb sb s0) ?_;rw[aS,ae];exact hR _ _ _ ⟨by unfold zv;rw[d,abG],rfl,by omega⟩
    exact hR _ _ _ ⟨by unfold zv;rw[d,acS],rfl,by omega⟩
   rintro _ _ o1 ⟨rfl,rfl,z0⟩;have T1:=yU x y;have C1:=acn (zv a b) (jk x y);rw[aB,aj];refine ak (λd=>?_) (λd=>?_)
   ·rw[bS h0,ae];refine eT (x:=p) zC rfl y0 (by omega) (by omega) FR (λ_=>rfl) λr' b2 w2 n2 k2 c2 l2=>?_;rw[aQ,ae,wrap64 (by omega) (by omega)];refine⟨y+1,by omega,r',rfl,by omega,⟨by omega,λc hc=>by rw[k2 c hc,k0.get c (by omega),b0.get c hc]⟩,by omega,?_⟩;rw[yT,abK,<-hp,abZ,abe d];exact w2
   rw[aQ,ae,wrap64 (by omega) (by omega)];refine⟨y+1,by omega,r,rfl,by omega,b0.trans k0,z0,?_⟩;rw[yT,abK,<-hp,abZ,abd (by grind),acK,abJ];exact y0
  have p1:y=41:=by
   grind
  subst p1;rw[aQ,ae,wrap64 (by omega) (by omega)];exact⟨x+1,by omega,r,rfl,by omega,b0,N0,by rw[Es];exact ho⟩
 have r1:x=41:=by
  grind
 subst r1;have ho:Ow m1.n H (mD a b) r:=ho;have nm:=b0.n;have gz:=b0.cells g0;have d2:(mD a b).length<=1681:=acb (acn _ _) (yU 41 0);rw[ho.sl.len cx,aA,aM,ae,aj];refine ak (λh2=>?_) (λh2=>?_)
 ·have h2:(mD a b).length < 2:=by grind
  exact d0 gz v0 (by rw[L0];unfold BQ;rw[abe h2])
 have h2:¬(mD a b).length < 2:=by grind
 obtain⟨k,hk⟩:∃k,k=(mD a b).length-1:=⟨_,rfl⟩
 obtain⟨p,hp⟩:∃p,(mD a b)[0]?=some p:=⟨_,aa5 (by omega)⟩
 obtain⟨q,hq⟩:∃q,(mD a b)[k]?=some q:=⟨_,aa5 (by omega)⟩
 have A0:∀z∈mD a b,z.sm 1000000:=by
  intro z hz;have hz:=(abW.1 hz).1;unfold jk at hz;simp only[abC,ad9,abQ,acE]at hz;rcases hz with⟨i,hi,j,hj,rfl⟩ |⟨j,hj,_⟩;·refine⟨?_,?_,?_,?_⟩ <;>(simp only[];omega)
  omega
 have s0:=A0 p (abb hp);have u1:=A0 q (abb hq);have v1:(mD a b).getD 0 ⟨0,0⟩=p:=by grind
 have w1:(mD a b).getD k ⟨0,0⟩=q:=by grind
 have B0:fV a b=some (if a.any (λx=>decide (di p q x < 0))=true then(q,p)else(p,q)):=by rw[L0];unfold BQ;rw[abd h2,<-hk,v1,w1]
 have⟨a0,i0,l0⟩:=ho.sl.dZ (k:=.i64) hp;have i0:an TE 58 r (aeP 0)=some a0:=i0;rw[i0,ae,l0,ae];refine av λe2 D1 c1 E1=>?_;refine aC dh c1 rfl rfl rfl λu0 F1 o0 G1=>?_;have o0:u0.get H.n=.cells p.c 141 none:=o0;have p0:Ext H u0:=⟨by omega,by grind⟩
 have C0:=ho.aF p0;have⟨a1,i1,l1⟩:=C0.sl.dZ (k:=.i64) hq;rw[C0.sl.len cx,aA,dD,ae,wrap64 (by omega) (by omega),show((mD a b).length:Int)-1=(k:Int) by omega,i1,ae,l1,ae];refine av λg2 H1 d1 I1=>?_;refine aC dh d1 rfl rfl rfl λH0 J1 j0 K1=>?_;have j0:H0.get u0.n=.cells q.c 141 none:=j0;have q0:Ext u0 H0:=⟨by omega,by grind⟩
 have gp:=q0.cells o0;have gz:=q0.cells (p0.cells gz);have D0:=ha.aF (r0.trans ((b0.trans p0).trans q0));refine Lp.intro (γ:=Nat) (λi=>a.length-i) (λi vs H lo=>∃z,vs=[z,aeP i]/\i<=a.length/\H0=H/\m.n<=lo/\∀j w,j < i->a[j]?=some w->¬di p q w < 0) 0 ⟨_,rfl,abh _,rfl,by omega,λj w hj=>by omega⟩ ?_;rintro i vs _ o1 ⟨z,rfl,hi,rfl,z0,e1⟩;rw[aB,aB,D0.len cx,aA,aM,ae,aj];refine ak (λn0=>?_) (λk1=>?_)
 ·have n0:i < a.length:=by grind
  obtain⟨w,hw⟩:∃w,a[i]?=some w:=⟨_,aa5 n0⟩
  have⟨a2,i2,l2⟩:=D0.dZ (k:=.i64) hw;rw[bS gp,ae,bS j0,ae,i2,ae,l2,ae];refine aE (yq hX s0 u1 (sa w (abb hw))) ?_;rw[aM,ae,aj];refine ak (λd=>?_) (λd=>?_)
  ·rw[bS j0,ae,bS gp,ae];refine e0 gz (by omega) ?_;rw[B0,abe (acA.2 ⟨w,abb hw,d⟩)]
  rw[aQ,ae,wrap64 (by omega) (by omega)];refine⟨i+1,by omega,z,rfl,by omega,rfl,by omega,λj y hj hy=>?_⟩;by_cases e:j=i
  ·subst e;rw[hw]at hy;cases hy;exact aa6 d
  exact e1 j y (by omega) hy
 have j2:i=a.length:=by
  grind
 rw[bS gp,ae,bS j0,ae];refine e0 gz (by omega) ?_;rw[B0,abd];intro e;have⟨w,hw,hd⟩:=acA.1 e;have⟨j,hj⟩:=abx hw;exact e1 j w (by grind) hj (aba hd)
def ew(u v:Un):Option Ct:=if ke u v then(fV u.shape v.shape).map λs=>⟨u.id,v.id,s.1,s.2,max u.back v.back,min u.front v.front⟩else none
theorem qp(hX:cC X){a b:Un}{va vb:aeM}(ha:Sl m a.shape va)(hb:Sl m b.shape vb)(la:a.shape.length < 1000000)(lb:b.shape.length < 1000000):
  C X (.func 130) [a.v va,b.v vb] m m.n (.tuple #[.agg (Dc (ew a b)).toArray,.bool (ew a b).isSome]) m:=by
 refine Cl.flat (hX.no _ rfl) (aa3 func130) rfl (by cases ew a b <;>rfl) ?_
 rw[aar];dsimp only[δ,ε,θ,ι,κ,ξ,ο,ρ,ς,υ,φ,χ,Γ,ψ]
 refine av λm1 s0 k0 u0=>?_
 refine av λm2 v0 l0 y0=>?_
 refine av λm3 z0 n0 A0=>?_
 simp only[aT]at k0 l0
 have g0:Ext m m3:=⟨by omega,by grind⟩
 have g1:m3.get m.n=.cells (a.c va) 60 none:=by grind
 have g2:m3.get m1.n=.cells (b.c vb) 60 none:=by grind
 have g3:m3.get m2.n=.cells Ct.zc 145 none:=n0
 obtain⟨a0, -, -,a3,a4,a5⟩:=kU g1
 obtain⟨b0, -, -,b3,b4,b5⟩:=kU g2
 have h0:=ha.aF g0
 have i0:=hb.aF g0
 unfold ptrTo
 rw[bT g1,ae,bT g2,ae]
 refine aE (vT (m:=m3) hX h0 i0 (by omega) (by omega)) ?_
 rw[bj,ae,aj]
 refine ak (λh=>?_) (λh=>?_)
 ·have h:ke a b=false:=by grind
  have e:ew a b=none:=by unfold ew;rw[abd (by grind)]
  rw[kS,ae];refine mB g3 rfl λm' hn=>?_;rw[e];exact⟨rfl,by omega⟩
 have h:ke a b:=by grind
 have e:ew a b=(fV a.shape b.shape).map λs=>⟨a.id,b.id,s.1,s.2,max a.back b.back,min a.front b.front⟩:=by unfold ew;rw[abe h]
 rw[bH,ae,a3,ae,bH,ae,b3,ae]
 refine aE (Nn hX h0 i0 la lb) ?_
 rw[aH,aH]
 simp only[aa8,aa7,ae]
 refine av λB0 o0 j0 p0=>?_
 refine aC oU j0 (by rw[aT];exact fG _) (by rw[aT];exact fG _) (by rw[aT];exact uL _) λH q0 e0 r0=>?_
 rw[aT]at e0
 have e0:H.get m3.n=.cells (iE (fV a.shape b.shape)) 143 none:=e0
 have C0:∀c,c < m3.n->H.get c=m3.get c:=by grind
 have r3:H.get m2.n=.cells Ct.zc 145 none:=by grind
 rw[bj,ae,aj]
 cases hs:fV a.shape b.shape with
 |none=>show iW true _ _;rw[bL,kS,ae];refine mB r3 rfl λm' hn=>?_;rw[e,hs];exact⟨rfl,by omega⟩
 |some s=>
  show iW false _ _;rw[aO];have r1:H.get m.n=.cells (a.c va) 60 none:=by grind
  have r2:H.get m1.n=.cells (b.c vb) 60 none:=by grind
  rw[hs]at e0;obtain⟨c0, -, -, -,c4,c5⟩:=kU r1;obtain⟨d0, -, -, -,d4,d5⟩:=kU r2;simp only[bs,cK,cJ,ae];rw[c0,ae,d0,ae];rw[show ah TE H 143 (aeK m3.n 0)=some (.agg (jB s.1 s.2).toArray) by rw[mY,aN e0 (by rw[fG];exact aa4 _)];rfl,ae,c4,ae,d4,ae];rw[show aw TE H .max [3,3] [aeP a.back,aeP b.back]=some (aeP (max a.back b.back),H)from qz,aA,c5,ae,d5,ae];rw[show aw TE H .min [3,3] [aeP a.front,aeP b.front]=some (aeP (min a.front b.front),H)from ko,aA,tZ,ae];refine mB r3 rfl λm' hn=>?_;rw[e,hs];refine⟨?_,by omega⟩;first |rfl |trivial
def nM(l:List Pl):List Pl:=l.filter λp=>decide (p.y=0)
def eI(u:Un):Option Ct:=if jO u then(if(nM u.shape).length=2 then some (if((nM u.shape).getD 1 ⟨0,0⟩).x < ((nM u.shape).getD 0 ⟨0,0⟩).x then⟨u.id, -1,(nM u.shape).getD 1 ⟨0,0⟩,(nM u.shape).getD 0 ⟨0,0⟩,u.back,u.front⟩else⟨u.id, -1,(nM u.shape).getD 0 ⟨0,0⟩,(nM u.shape).getD 1 ⟨0,0⟩,u.back,u.front⟩)else none)else none
theorem FB(hX:cC X){a:Un}{va:aeM}(ha:Sl m a.shape va)(la:a.shape.length < 1000000):
  C X (.func 129) [a.v va] m m.n (.tuple #[.agg (Dc (eI a)).toArray,.bool (eI a).isSome]) m:=by
 refine Cl.flat (hX.no _ rfl) (aa3 func129) rfl (by cases eI a <;>rfl) ?_;rw[aas];dsimp only[δ,ε,ζ,η,θ,ι,κ,ν,ο,ρ,ς,υ,φ,χ,ψ,ω];refine av λm1 o1 G0 r1=>?_;refine av λm2 u1 H0 v1=>?_;simp only[aT]at G0;have I0:Ext m m2:=⟨by omega,by grind⟩
 have g1:m2.get m.n=.cells (a.c va) 60 none:=by grind
 have g2:m2.get m1.n=.cells Ct.zc 145 none:=H0;have v0:=ha.aF I0;unfold ptrTo;simp only[bs,bH,cK,cJ,ae];rw[bT g1,ae];refine aE (je hX v0 (by omega)) ?_;rw[bj,ae,aj];refine ak (λh=>?_) (λh=>?_)
 ·have h:jO a=false:=by grind
  have e:eI a=none:=by unfold eI;rw[abd (by grind)]
  rw[kS,ae];refine mB g2 rfl λm' hn=>?_;rw[e];exact⟨rfl,by omega⟩
 have h:jO a:=by grind
 refine Lp.intro (γ:=Nat) (λi=>a.shape.length-i) (λi vs mm lo=>∃r,vs=[r,aeP i]/\i<=a.shape.length/\Ext m2 mm/\m.n<=lo/\Ow m2.n mm (nM (a.shape.take i)) r) 0 ⟨_,rfl,abh _,.refl,by omega,Ow.nil⟩ ?_;rintro i vs mm lo ⟨r,rfl,hi,H,J0,ho⟩;have nm:=H.n;obtain⟨c0, -, -,c3,c4,c5⟩:=kU (H.cells g1);have q0:=v0.aF H;rw[aB,aB,c3,ae,q0.len cx,aA,aM,ae,aj];refine ak (λy0=>?_) (λK0=>?_)
 ·have y0:i < a.shape.length:=by grind
  obtain⟨p,hp⟩:∃p,a.shape[i]?=some p:=⟨_,aa5 y0⟩
  have⟨b0,o0,bc,g0,cs,e0,r0,h0,_,s0⟩:=q0.gM cx (k:=.i64) hp;have h0:cs=p.c:=h0;subst h0;have⟨a0,i0,l0⟩:=q0.dZ (k:=.i64) hp;obtain rfl:a0=aeK b0 o0:=Option.some.inj (i0.symm.trans e0);have z0:a.shape.take (i+1)=a.shape.take i++ [p]:=by rw[abt,hp];rfl
  have w1:(nM (a.shape.take i)).length<=i:=by have:=acn (λp:Pl=>decide (p.y=0)) (a.shape.take i);rw[acr]at this;unfold nM;omega
  rw[ae,e0,ae,cO,ae,show ah TE mm 3 (aeK b0 (o0+1))=some (aeP p.y) by rw[bI,aI r0,s0 1 (by decide)];rfl,ae,aS,ae,aj];refine ak (λd=>?_) (λd=>?_)
  ·rw[ae,e0,ae,l0,ae];refine eT (x:=p) zC rfl ho nm (by omega) FR (λ_=>rfl) λr' y1 w2 n2 k2 z1 l2=>?_;rw[aQ,ae,wrap64 (by omega) (by omega)];refine⟨i+1,by omega,r',rfl,by omega,⟨by omega,λc hc=>by rw[k2 c hc,H.get c hc]⟩,by omega,?_⟩;rw[z0];unfold nM at w2⊢;rw[abK,abZ,abe d];exact w2
  rw[aQ,ae,wrap64 (by omega) (by omega)];refine⟨i+1,by omega,r,rfl,by omega,H,J0,?_⟩;rw[z0];unfold nM at ho⊢;rw[abK,abZ,abd (by grind),acK,abJ];exact ho
 have L0:i=a.shape.length:=by have:¬(i:Int)< (a.shape.length:Int):=aa6 K0;omega
 subst L0;rw[aby (aa4 _)]at ho;have A0:=H.cells g2;rw[ho.sl.len cx,aA,bR,ae,aj];refine ak (λd=>?_) (λd=>?_)
 ·have d:(nM a.shape).length≠2:=by intro e;rw[e]at d;simp at d
  have e:eI a=none:=by unfold eI;rw[abe h,abd d]
  rw[kS,ae];refine mB A0 rfl λm' hn=>?_;rw[e];exact⟨rfl,by omega⟩
 have d:(nM a.shape).length=2:=by simp at d;omega
 obtain⟨p,hp⟩:∃p,(nM a.shape)[0]?=some p:=⟨_,aa5 (by omega)⟩
 obtain⟨q,hq⟩:∃q,(nM a.shape)[1]?=some q:=⟨_,aa5 (by omega)⟩
 have N0:(nM a.shape).getD 0 ⟨0,0⟩=p:=by grind
 have O0:(nM a.shape).getD 1 ⟨0,0⟩=q:=by grind
 have p0:eI a=some (if q.x < p.x then⟨a.id, -1,q,p,a.back,a.front⟩else⟨a.id, -1,p,q,a.back,a.front⟩):=by unfold eI;rw[abe h,abe d,N0,O0]
 have n0:∀{m':M} {k:Nat} {z:Pl},Ext mm m'->(nM a.shape)[k]?=some z->∃ad,an TE 58 r (aeP k)=some ad/\ah TE m' 141 ad=some z.v/\∃B0,af TE 141 ad 0=some B0/\ah TE m' 3 B0=some (aeP z.x):=by intro m' k z hx hz;have hs:=ho.sl.aF hx;have⟨b0,o0,bc,g0,cs,e0,r0,h0,_,s0⟩:=hs.gM cx (k:=.i64) hz;have h0:cs=z.c:=h0;subst h0;have⟨a0,i0,l0⟩:=hs.dZ (k:=.i64) hz;obtain rfl:a0=aeK b0 o0:=Option.some.inj (i0.symm.trans e0);exact⟨_,i0,l0,_,bY,by rw[bI,aI r0,s0 0 (by decide)];rfl⟩
 obtain⟨pa,p1,p2, -, -, -⟩:=n0 .refl hp;obtain⟨qa,q1,q2, -, -, -⟩:=n0 .refl hq;have p1:an TE 58 r (aeP 0)=some pa:=p1;have q1:an TE 58 r (aeP 1)=some qa:=q1;rw[p1,ae,p2,ae,q1,ae,q2,ae,lL,ae];refine av λA1 h1 C0 i1=>?_;refine aC oU C0 rfl rfl rfl λD0 j1 j0 k1=>?_;have j0:D0.get mm.n=.cells (jB p q) 143 none:=j0;have d0:Ext mm D0:=⟨by omega,by grind⟩
 have⟨Q0,a1,b1,px,p3,p4⟩:=n0 d0 hp;have⟨c1,d1,e1,qx,q3,q4⟩:=n0 d0 hq;obtain rfl:pa=Q0:=Option.some.inj (p1.symm.trans a1);obtain rfl:qa=c1:=Option.some.inj (q1.symm.trans d1);have E0:∀{m':M} {x y:Pl},m'.get mm.n=.cells (jB x y) 143 none->ah TE m' 143 (aeK mm.n 0)=some (.agg (jB x y).toArray):=λh=>by rw[mY,aN (n:=4) h (by show 0+4<=4;decide)];rfl
 rw[ae,p3,ae,p4,ae,ae,q3,ae,q4,ae,bV,ae,aj];obtain⟨f0, -, -, -,f4,f5⟩:=kU (d0.cells (H.cells g1));refine ak (λc=>?_) (λc=>?_)
 ·have c:q.x < p.x:=aba c;rw[ae,e1,ae,ae,b1,ae,lL,ae];refine aC oU j0 rfl rfl rfl λu0 l1 k0 F0=>?_;have k0:u0.get mm.n=.cells (jB q p) 143 none:=k0;obtain⟨f0, -, -, -,f4,f5⟩:=kU (show u0.get m.n=.cells (a.c va) 60 none by rw[F0 _ (by omega)];exact d0.cells (H.cells g1));rw[f0,ae,E0 k0,ae,f4,ae,f5,ae,tZ,ae];refine mB (show u0.get m1.n=.cells Ct.zc 145 none by grind) rfl λm' hn=>?_;rw[p0,abe c];exact⟨rfl,by omega⟩
 have c:¬q.x < p.x:=aa6 c;rw[f0,ae,E0 j0,ae,f4,ae,f5,ae,tZ,ae];refine mB (d0.cells A0) rfl λm' hn=>?_;rw[p0,abd c];exact⟨rfl,by omega⟩
def uN(us:List Un)(i:Nat):List Ct:=match us[i]? with
 |some u=>(eI u).toList++(us.drop (i+1)).filterMap (ew u)
 |none=> []
def km(us:List Un)(i:Nat):List Ct:=(List.range i).flatMap (uN us)
def rK(us:List Un):List Ct:=if fQ us=true then km us us.length else []
theorem nD(us:List Un)(i:Nat):km us (i+1)=km us i++uN us i:=by unfold km;rw[acO,acG];simp
theorem FG(us:List Un)(i:Nat):(uN us i).length<=us.length+1:=by
 unfold uN
 grind
theorem pj(us:List Un):∀i,(km us i).length<=i*(us.length+1)
 |0=>by simp[km]
 |i+1=>by
  rw[nD,abO,Nat.succ_mul]
  have:=pj us i
  have:=FG us i
  omega
theorem FM{α:Type}[aZ α]{l:List α}{r:aeM}{m':M}{lo:Nat}{Q:Prop}(hQ:Q)(h:Ow m.n m' l r)(H:m.n<=lo)(hx:Ext m m'):
  (bB (bC [r])/\m.n<=lo/\(Q/\Ext m m/\Ow m.n m l r))\/((bB (bC [r])=false\/lo < m.n)/\(min m.n lo=m.n/\Ext m m'/\Ow m.n m' l r)):=by
 by_cases hl:l=[]
 ·subst hl;rcases h with⟨rfl,_⟩ |⟨b,cs,h1,h⟩;·exact .inl ⟨rfl,H,hQ,.refl,Ow.nil⟩
  ·grind
 obtain⟨b,rfl,_⟩:=mV h hl;exact .inr ⟨.inl rfl,by omega,hx,h⟩
theorem BS(hX:cC X){l:List UW}{v:aeM}(h:dg m l v)(hlen:l.length < 1000000):
  ∃r m',C X (.func 69) [.agg #[v]] m m.n r m'/\Ext m m'/\Ow m.n m' (rK (bP l)) r:=by
 have key:=Cl.gen (E:=TE) (X:=X) (f:=69) (args:=[.agg #[v]]) (m:=m) (R:=λrv m' bb=>bb=m.n/\Ext m m'/\Ow m.n m' (rK (bP l)) rv) (hX.no _ rfl) (aa3 func69) rfl ?_
 ·obtain⟨rv,m',bb,hc,rfl,hx,hr⟩:=key;exact⟨rv,m',hc,hx,hr⟩
 rw[F69];dsimp only[δ,ε,ζ,η,ι,κ,ν,ξ,ο,ρ,ς,υ,φ,χ,ψ,ω];refine av λm1 y1 j0 L0=>?_;have j0:m1.get m.n=.cells [v] 30 none:=j0;have z0:Ext m m1:=⟨by omega,L0⟩
 have v0:=h.aF z0;unfold ptrTo;simp only[bO,ae];rw[show ah TE m1 30 (aeK m.n 0)=some (.agg #[v]) by rw[ez,aN j0 (by simp)];rfl,ae];refine aE (kX hX v0 hlen) ?_;rw[bj,ae,aj];refine ak (λc=>?_) (λc=>?_)
 ·rw[abz]at c;refine FM (m':=m1) (by grind) ?_ (by omega) z0;unfold rK;rw[abd (by grind)];exact Ow.nil
 rw[abu]at c;have hP:=ng.1 c;have l1:l.length<=12:=by have:=hP.len;rwa[cS]at this
 have N0:(bP l).length=l.length:=cS;have A0:∀{m':M},m'.get m.n=.cells [v] 30 none->ah TE m' 28 (aeK m.n (0+0))=some v:=λh=>by rw[eO,aI h];rfl
 refine Lp.intro (γ:=Nat) (λi=>l.length-i) (λi vs mm lo=>∃r,vs=[r,aeP i]/\i<=l.length/\Ext m1 mm/\m.n<=lo/\Ow m1.n mm (km (bP l) i) r) 0 ⟨_,rfl,abh _,.refl,by omega,Ow.nil⟩ ?_;rintro i vs mm lo ⟨r,rfl,hi,k0,A1,ho⟩;have nm:=k0.n;have hF:=v0.aF k0;rw[aB,aB,A0 (k0.cells j0),ae,hF.sl.len dF,aA,aM,ae,aj];refine ak (λB0=>?_) (λO0=>?_)
 ·have B0:i < l.length:=by grind
  obtain⟨x,hx⟩:∃x,l[i]?=some x:=⟨_,aa5 B0⟩
  have e0:=abb hx
  have Q0:=ja hx
  have B1:=pj (bP l) i
  have yS:i*((bP l).length+1)<=12*13:=aeq (by omega) (by omega)
  have⟨q,q1,q2,ow⟩:=hF.sl.gj (k:=.i64) hx
  rw[ae,q1,ae,q2,ae]
  refine aE (FB hX (hF.sh x e0) (hF.ln x e0)) ?_
  rw[aH,aH]
  simp only[aa8,aa7,ae]
  refine av λC1 o1 C0 u1=>?_
  refine aC oT C0 (by rw[aT];exact eP _) (by rw[aT];exact eP _) (by rw[aT];exact nW _) λD0 v1 h0 w1=>?_
  rw[aT]at h0
  have h0:D0.get mm.n=.cells (Dc (eI x.u)) 145 none:=h0
  have y0:Ext mm D0:=⟨by omega,by grind⟩
  have E0:=ho.aF y0
  have l0:=k0.trans y0
  have c1:uN (bP l) i=(eI x.u).toList++((bP l).drop (i+1)).filterMap (ew x.u):=by unfold uN;rw[Q0]
  rw[aj]
  cases hs:eI x.u with
  |some t=>
   show iW true _ _;rw[hs]at h0;rw[bL,Cj h0,ae];refine eT (x:=t) Hc rfl E0 (by omega) (by omega) FT (λ_=>rfl) λr1 a1 w2 n2 k2 F0 l2=>?_;rw[aQ,ae,wrap64 (by omega) (by omega)];have G0:Ext m1 a1:=⟨by omega,λc hc=>by rw[k2 c hc,l0.get c hc]⟩
   refine Lp.intro (γ:=Nat) (λd=>l.length-d) (λd vs mm lo=>∃r,vs=[r,aeP ((i+1+d:Nat):Int)]/\i+1+d<=l.length/\Ext m1 mm/\m.n<=lo/\Ow m1.n mm (km (bP l) i++((eI x.u).toList++(((bP l).drop (i+1)).take d).filterMap (ew x.u))) r) 0 ⟨r1,rfl,by omega,G0,by omega,by grind⟩ ?_;rintro d vs n0 fS ⟨r,rfl,hd,H,o0,g0⟩;have b1:=H.n;have b0:=v0.aF H;rw[aB,aB,A0 (H.cells j0),ae,b0.sl.len dF,aA,aM,ae,aj];refine ak (λi0=>?_) (λp0=>?_)
   ·have i0:i+1+d < l.length:=by grind
    obtain⟨y,hy⟩:∃y,l[i+1+d]?=some y:=⟨_,aa5 i0⟩
    have q0:=abb hy
    have⟨p,p1,p2,pw⟩:=b0.sl.gj (k:=.i64) hx
    have⟨z,z1,z2,zw⟩:=b0.sl.gj (k:=.i64) hy
    have r0:((bP l).drop (i+1)).take (d+1)=((bP l).drop (i+1)).take d++ [y.u]:=by rw[abt,acz,ja hy];rfl
    have d1:=adB (ew x.u) (((bP l).drop (i+1)).take d)
    have e1:(((bP l).drop (i+1)).take d).length<=d:=by grind
    have g1:(eI x.u).toList.length<=1:=by grind
    rw[ae,p1,ae,p2,ae,ae,z1,ae,z2,ae]
    refine aE (qp hX (b0.sh x e0) (b0.sh y q0) (b0.ln x e0) (b0.ln y q0)) ⟨aa4 _,?_⟩
    rw[aH,aH]
    simp only[aa8,aa7,ae]
    refine av λh1 H0 s0 I0=>?_
    refine aC oT s0 (by rw[aT];exact eP _) (by rw[aT];exact eP _) (by rw[aT];exact nW _) λu0 J0 a0 K0=>?_
    rw[aT]at a0
    have a0:u0.get n0.n=.cells (Dc (ew x.u y.u)) 145 none:=a0
    have d0:Ext n0 u0:=⟨by omega,by grind⟩
    rw[aj]
    cases ht:ew x.u y.u with
    |none=>show iW false _ _;rw[aO,aQ,ae,wrap64 (by omega) (by omega)];refine⟨d+1,by omega,r,rfl,by omega,H.trans d0,by omega,?_⟩;rw[r0,adq,adh,ht,adk,abJ];exact g0.aF d0
    |some t=>show iW true _ _;rw[ht]at a0;rw[bL,Cj a0,ae];refine eT (x:=t) Hc rfl (g0.aF d0) (by omega) (by grind) FT (λ_=>rfl) λr' i1 w2 n2 k2 F0 l2=>?_;rw[aQ,ae,wrap64 (by omega) (by omega)];refine⟨d+1,by omega,r',rfl,by omega,⟨by omega,λc hc=>by rw[k2 c hc,d0.get c (by omega),H.get c hc]⟩,by omega,?_⟩;rw[r0,adq,adh,ht,adk];rw[<-abL,<-abL];rw[<-abL]at w2;exact w2
   have j1:i+1+d=l.length:=by have:¬((i+1+d:Nat):Int)< (l.length:Int):=aa6 p0;omega
   rw[ae];refine⟨i+1,by omega,r,rfl,by omega,H,o0,?_⟩;rw[nD,c1];rw[aby (by grind)]at g0;exact g0
  |none=>
   show iW false _ _;rw[aO,aQ,ae,wrap64 (by omega) (by omega)];refine Lp.intro (γ:=Nat) (λd=>l.length-d) (λd vs mm lo=>∃r,vs=[r,aeP ((i+1+d:Nat):Int)]/\i+1+d<=l.length/\Ext m1 mm/\m.n<=lo/\Ow m1.n mm (km (bP l) i++((eI x.u).toList++(((bP l).drop (i+1)).take d).filterMap (ew x.u))) r) 0 ⟨r,rfl,by omega,l0,by omega,by grind⟩ ?_;rintro d vs n0 fS ⟨r,rfl,hd,H,o0,g0⟩;have b1:=H.n;have b0:=v0.aF H;rw[aB,aB,A0 (H.cells j0),ae,b0.sl.len dF,aA,aM,ae,aj];refine ak (λi0=>?_) (λp0=>?_)
   ·have i0:i+1+d < l.length:=by grind
    obtain⟨y,hy⟩:∃y,l[i+1+d]?=some y:=⟨_,aa5 i0⟩
    have q0:=abb hy
    have⟨p,p1,p2,pw⟩:=b0.sl.gj (k:=.i64) hx
    have⟨z,z1,z2,zw⟩:=b0.sl.gj (k:=.i64) hy
    have r0:((bP l).drop (i+1)).take (d+1)=((bP l).drop (i+1)).take d++ [y.u]:=by rw[abt,acz,ja hy];rfl
    have d1:=adB (ew x.u) (((bP l).drop (i+1)).take d)
    have e1:(((bP l).drop (i+1)).take d).length<=d:=by grind
    have g1:(eI x.u).toList.length<=1:=by grind
    rw[ae,p1,ae,p2,ae,ae,z1,ae,z2,ae]
    refine aE (qp hX (b0.sh x e0) (b0.sh y q0) (b0.ln x e0) (b0.ln y q0)) ⟨aa4 _,?_⟩
    rw[aH,aH]
    simp only[aa8,aa7,ae]
    refine av λh1 H0 s0 I0=>?_
    refine aC oT s0 (by rw[aT];exact eP _) (by rw[aT];exact eP _) (by rw[aT];exact nW _) λu0 J0 a0 K0=>?_
    rw[aT]at a0
    have a0:u0.get n0.n=.cells (Dc (ew x.u y.u)) 145 none:=a0
    have d0:Ext n0 u0:=⟨by omega,by grind⟩
    rw[aj]
    cases ht:ew x.u y.u with
    |none=>show iW false _ _;rw[aO,aQ,ae,wrap64 (by omega) (by omega)];refine⟨d+1,by omega,r,rfl,by omega,H.trans d0,by omega,?_⟩;rw[r0,adq,adh,ht,adk,abJ];exact g0.aF d0
    |some t=>show iW true _ _;rw[ht]at a0;rw[bL,Cj a0,ae];refine eT (x:=t) Hc rfl (g0.aF d0) (by omega) (by grind) FT (λ_=>rfl) λr' i1 w2 n2 k2 F0 l2=>?_;rw[aQ,ae,wrap64 (by omega) (by omega)];refine⟨d+1,by omega,r',rfl,by omega,⟨by omega,λc hc=>by rw[k2 c hc,d0.get c (by omega),H.get c hc]⟩,by omega,?_⟩;rw[r0,adq,adh,ht,adk];rw[<-abL,<-abL];rw[<-abL]at w2;exact w2
   have j1:i+1+d=l.length:=by have:¬((i+1+d:Nat):Int)< (l.length:Int):=aa6 p0;omega
   rw[ae];refine⟨i+1,by omega,r,rfl,by omega,H,o0,?_⟩;rw[nD,c1];rw[aby (by grind)]at g0;exact g0
 have k1:i=l.length:=by have:¬(i:Int)< (l.length:Int):=aa6 O0;omega
 subst k1;refine FM (m':=mm) (by grind) ?_ (by omega) (z0.trans k0);unfold rK;rw[abe c,N0];exact ho.mono (by omega)
end
def Cu{α:Type}(f:α->Int)(l:List α)(x:α):List α:=(l.filter λy=>decide (f y < f x))++x::(l.filter λy=>decide (f x < f y))
theorem vj{α:Type}(f:α->Int)(x:α):∀{l:List α},(∀y∈l,f y≠f x)->(Cu f l x).Perm (x::l)
 |[],_=>List.Perm.refl _
 |a::r,h=>by
  have h0:=h a abN
  have H:=vj f x (l:=r) λy hy=>h y (abS _ hy)
  unfold Cu at H⊢
  rw[abZ,abZ]
  by_cases e:f a < f x
  ·rw[abe (by grind),abd (by grind),aci]
   exact(H.cons a).trans (List.Perm.swap x a r)
  ·rw[abd (by grind),abe (by grind)]
   have:=(List.perm_middle (a:=a) (l₁:=(r.filter λy=>decide (f y < f x))++ [x]) (l₂:=r.filter λy=>decide (f x < f y)))
   simp only[abL,aci,ab6]at this
   exact this.trans ((H.cons a).trans (List.Perm.swap x a r))
theorem OA{α:Type}{f:α->Int}{x:α}{l:List α}(h:l.Pairwise λa b=>f a < f b):(Cu f l x).Pairwise λa b=>f a < f b:=by
 unfold Cu
 rw[ab8,aca]
 refine⟨h.filter _,⟨by grind,h.filter _⟩,λa H b hb=>?_⟩
 grind
structure Tk where
 kind:Int
 un:Un
 id:Int
 other:Int
 side:Int
 dA:Int
structure Kp where
 un:Un
 ms:List Mk
structure Mo where
 a:Int
 b:Int
 dA:Int
structure Yd where
 us:List Un
 ms:List Mk
 st:List Kp
 rc:List Fc
 mo:List Mo
def dS(t:Tk):Bool:=
 if t.kind=1 then jO t.un && cQ t.un.kind 6 8 && decide (t.id=0) && decide (t.other=0) && decide (t.side=0) && decide (t.dA=0)
 else if t.kind=2\/t.kind=3\/t.kind=6\/t.kind=7 then eX t.un && decide (t.un.id=0) && cQ t.id 0 99 && decide (t.other=0) && decide (t.side=0) && decide (t.dA=0)
 else if t.kind=4 then eX t.un && decide (t.un.id=0) && cQ t.id 0 99 && decide (t.other=0) && decide (t.side=0) && cQ t.dA 0 7
 else if t.kind=5\/t.kind=8 then eX t.un && decide (t.un.id=0) && cQ t.id 0 99 && decide (t.other=0) && cQ t.side (-2) 7 && decide (t.dA=0)
 else if t.kind=9 then eX t.un && decide (t.un.id=0) && cQ t.id 0 99 && cQ t.other 0 99 && decide (t.side=0) && cQ t.dA 0 7 && decide (t.id < t.other)
 else false
def ik(a b:Fc):Prop:=a.un < b.un\/a.un=b.un/\a.side < b.side
def lP(a b:Mo):Prop:=a.a < b.a\/a.a=b.a/\a.b < b.b
instance (a b:Fc):Decidable (ik a b):=by unfold ik;infer_instance
instance (a b:Mo):Decidable (lP a b):=by unfold lP;infer_instance
def allM(ms:List Mk)(st:List Kp):List Mk:=ms++st.flatMap Kp.ms
structure rz(y:Yd):Prop where
 tR:cn y.us
 HO:iV y.us y.ms
 Tx:y.st.length<=12
 TJ:y.rc.length<=60
 WQ:y.mo.length<=20
 xN:y.st.Pairwise λa b=>a.un.id < b.un.id
 off:∀k∈y.st,∀u∈y.us,u.id≠k.un.id
 Ox:∀k∈y.st,cn [k.un]
 Gd:∀k∈y.st,iV [k.un] k.ms
 Qm:((allM y.ms y.st).map Mk.id).Nodup
 Lx:(allM y.ms y.st).length<=20
 Ns:∀f∈y.rc,(0<=f.un/\f.un<=99)/\ -2<=f.side/\f.side<=7
 DH:y.rc.Pairwise ik
 NW:∀x∈y.mo,0<=x.a/\x.a < x.b/\x.b<=99/\0<=x.dA/\x.dA<=7
 DX:y.mo.Pairwise lP
def Ac.bare(k:Int):Ac:=⟨k,⟨0,0,0,[],0,0⟩,0,0,0,⟨0,0,0,0,false⟩⟩
def fP(u:Un):Ac:={Ac.bare 1 with un:=u}
def lR(k id:Int):Ac:={Ac.bare k with id:=id}
def kg(x:Mk):Ac:={Ac.bare 5 with zN:=x}
def ze(us:List Un)(id side:Int):Bool:=match cj us id with
 |some u=>decide (side= -1) ||decide (side= -2) ||decide (0<=side) && decide (side < (u.shape.length:Int))
 |none=>false
def se(t:Tk)(x:Mk):Bool:=decide (x.un=t.id) && decide (x.side=t.side) && x.LB && (decide (x.kind=1) ||decide (x.kind=4) ||decide (x.kind=5))
def jc(gG:Un->Un->Bool)(suits softer:Int->Int->Bool)(y:Yd)(t:Tk):Option (List Ac):=
 if t.kind=1 then(if(y.st.any λk=>decide (k.un.id=t.un.id))=true then none else some [fP t.un])
 else if t.kind=2 then(if((cj y.us t.id).isSome && decide (y.st.length < 12))=true then some [lR 2 t.id]else none)
 else if t.kind=3 then(y.st.find? λk=>decide (k.un.id=t.id)).map λk=>fP k.un::k.ms.map kg
 else if t.kind=4 then(cj y.us t.id).bind λu=>if(y.us.all λv=> !gG u v ||suits t.dA v.dA)=true then some [lR 2 t.id,fP {u with dA:=t.dA}]else none
 else if t.kind=5 then(if ze y.us t.id t.side=true then some ((y.ms.filter (se t)).map λx=>lR 6 x.id)else none)
 else if t.kind=6 then some [lR 7 t.id]
 else if t.kind=7 then some [lR 6 t.id]
 else if t.kind=8 then(if(ze y.us t.id t.side && (decide (y.rc.length < 60) ||decide ((⟨t.id,t.side⟩:Fc)∈y.rc)))=true then some []else none)
 else(cj y.us t.id).bind λu=>(cj y.us t.other).bind λv=>if(gG u v && softer t.dA u.dA && softer t.dA v.dA && (decide (y.mo.length < 20) ||y.mo.any λx=>decide (x.a=t.id) && decide (x.b=t.other)))=true then some []else none
def fT:List Un->List Mk->List Ac->Option (List Un×List Mk)
 |us,ms,[]=>some (us,ms)
 |us,ms,a::r=>match rE us ms a with
  |some (H,ns)=>fT H ns r
  |none=>none
def Fu(y:Yd)(t:Tk):List Kp:=
 if t.kind=2 then(match cj y.us t.id with |some u=>Cu (λk:Kp=>k.un.id) y.st ⟨u,y.ms.filter λx=>decide (x.un=t.id)⟩ |none=>y.st)
 else if t.kind=3 then y.st.filter λk=> !decide (k.un.id=t.id)else y.st
def FH(y:Yd)(t:Tk):List Fc:=if t.kind=8/\(⟨t.id,t.side⟩:Fc)∉y.rc then(y.rc.filter λf=>decide (ik f ⟨t.id,t.side⟩))++⟨t.id,t.side⟩::(y.rc.filter λf=>decide (ik ⟨t.id,t.side⟩ f))else y.rc
def Rg(y:Yd)(t:Tk):List Mo:=if t.kind=9 then(y.mo.filter λx=>decide (lP x ⟨t.id,t.other,t.dA⟩))++⟨t.id,t.other,t.dA⟩::(y.mo.filter λx=>decide (lP ⟨t.id,t.other,t.dA⟩ x))else y.mo
def Ho(gG:Un->Un->Bool)(suits softer:Int->Int->Bool)(y:Yd)(t:Tk):Option Yd:=
 match jc gG suits softer y t with
 |none=>none
 |some l=>(fT y.us y.ms l).map λp=>⟨p.1,p.2,Fu y t,FH y t,Rg y t⟩
theorem kE{us vs:List Un}{ms ns:List Mk}{a:Ac}(h:rE us ms a=some (vs,ns)):cn us/\iV us ms/\eC a/\oN us ms a=some (vs,ns)/\cn vs/\iV vs ns:=by
 unfold rE Hp at h;split at h
 ·rename_i H;rw[abc]at H;split at h
  ·rename_i hf;split at h
   ·rename_i a0 b0 hd;split at h
    ·rename_i hm;cases h;exact⟨ng.1 H.1,fY.1 H.2,hf,hd,Iy (ng.1 H.1) hd,fY.1 hm⟩
    cases h
   cases h
  cases h
 cases h
theorem Hv{us vs:List Un}{ms H:List Mk}{l:List Ac}(hf:cn us)(hm:iV us ms)(h:fT us ms l=some (vs,H)):cn vs/\iV vs H:=by
 induction l generalizing us ms with
 |nil=>cases h;exact⟨hf,hm⟩
 |cons a r ih=>
  rw[fT]at h;split at h
  ·rename_i a0 b0 hs
   obtain⟨-, -, -, -,h1,h2⟩:=kE hs
   grind
  cases h
theorem zl{us vs:List Un}{ms H:List Mk}{u:Un}(h:oN us ms (fP u)=some (vs,H)):He us u/\vs=uO us u/\H=ms:=by
 unfold oN at h
 have hk:(fP u).kind=1:=rfl
 rw[abe hk]at h
 have h:(qO us u).map (·,ms)=some (vs,H):=h
 unfold qO at h
 grind
theorem Bh{us vs:List Un}{ms H:List Mk}{id:Int}(h:oN us ms (lR 2 id)=some (vs,H)):(cj us id).isSome/\vs=vE us id/\H=fI ms id:=by
 unfold oN at h;have hk:(lR 2 id).kind=2:=rfl;rw[abd (by rw[hk];decide),abe hk]at h;split at h
 ·rename_i ha;cases h;exact⟨ha,rfl,rfl⟩
 cases h
theorem R6{us vs:List Un}{ms H:List Mk}{x:Mk}(h:oN us ms (kg x)=some (vs,H)):(ms.any λy=>decide (y.id=x.id))=false/\vs=us/\H=nc ms x:=by
 unfold oN at h
 have hk:(kg x).kind=5:=rfl
 rw[abd (by rw[hk];decide),abd (by rw[hk];decide),abd (by rw[hk];decide),abd (by rw[hk];decide),abe hk]at h
 split at h
 ·cases h
 ·rename_i ha
  cases h
  exact⟨Bool.eq_false_iff.2 ha,rfl,rfl⟩
theorem Jz{ms H:List Mk}{id:Int}{o:Bool}(h:mK ms id o=some H):H.map Mk.id=ms.map Mk.id:=by
 unfold mK at h;split at h
 ·rename_i k hk;split at h
  ·rename_i y hy;split at h;·cases h
   ·cases h
    rw[List.map_set]
    apply aco
    grind
  cases h
 cases h
theorem CH{us vs:List Un}{ms ns:List Mk}{k id:Int}(hk:k=6\/k=7)(h:oN us ms (lR k id)=some (vs,ns)):vs=us/\ns.map Mk.id=ms.map Mk.id:=by
 unfold oN at h
 have H:(lR k id).kind=k:=rfl
 rw[H,abd (by omega),abd (by omega),abd (by omega),abd (by omega),abd (by omega)]at h
 cases ht:mK ms (lR k id).id (decide (k=7))with
 |none=>rw[ht]at h;cases h
 |some l=>rw[ht]at h;cases h;exact⟨rfl,Jz ht⟩
theorem Aw{us:List Un}:∀{l:List Mk} {ms H:List Mk} {vs:List Un},fT us ms (l.map λx=>lR 6 x.id)=some (vs,H)->vs=us/\H.map Mk.id=ms.map Mk.id
 |[],ms,H,vs,h=>by cases h;exact⟨rfl,rfl⟩
 |x::r,ms,H,vs,h=>by
  rw[acN,fT]at h
  split at h
  ·rename_i a0 b0 hs
   obtain⟨-, -, -,hd, -, -⟩:=kE hs
   obtain⟨rfl,e⟩:=CH (.inl rfl) hd
   have⟨e1,e2⟩:=Aw h
   grind
  ·cases h
theorem Kq{ms:List Mk}{x:Mk}(h:(ms.any λy=>decide (y.id=x.id))=false):(nc ms x).Perm (x::ms):=by
 refine vj Mk.id x λy H e=>?_
 grind
theorem Ax{us:List Un}:∀{l:List Mk} {ms H:List Mk} {vs:List Un},fT us ms (l.map kg)=some (vs,H)->vs=us/\H.Perm (l++ms)
 |[],ms,H,vs,h=>by cases h;exact⟨rfl,List.Perm.refl _⟩
 |x::r,ms,H,vs,h=>by
  rw[acN,fT]at h
  split at h
  ·rename_i a0 b0 hs
   obtain⟨-, -, -,hd, -, -⟩:=kE hs
   obtain⟨e0,rfl,rfl⟩:=R6 hd
   have⟨e1,e2⟩:=Ax h
   refine⟨e1,e2.trans (((Kq e0).append_left r).trans ?_)⟩
   grind
  ·cases h
theorem rz.next{y:Yd}(h:rz y){vs:List Un}{H:List Mk}{st:List Kp}{rc:List Fc}{mo:List Mo}(hf:cn vs)(hm:iV vs H)(s1:st.length<=12)(s2:st.Pairwise λa b=>a.un.id < b.un.id)(s3:∀k∈st,∀u∈vs,u.id≠k.un.id)
  (s4:∀k∈st,cn [k.un]/\iV [k.un] k.ms) (s5:∃w:List Int,w.Sublist ((allM y.ms y.st).map Mk.id)/\((allM H st).map Mk.id).Perm w)
  (r1:rc.length<=60) (r2:∀f∈rc,(0<=f.un/\f.un<=99)/\ -2<=f.side/\f.side<=7) (r3:rc.Pairwise ik) (q1:mo.length<=20) (q2:∀x∈mo,0<=x.a/\x.a < x.b/\x.b<=99/\0<=x.dA/\x.dA<=7) (q3:mo.Pairwise lP):rz ⟨vs,H,st,rc,mo⟩:=by
 have⟨w,h1,h2⟩:=s5;refine⟨hf,hm,s1,r1,q1,s2,s3,λk hk=>(s4 k hk).1,λk hk=>(s4 k hk).2,?_,?_,r2,r3,q2,q3⟩;·exact h2.nodup_iff.2 (h1.nodup h.Qm)
 ·have e1:=h2.length_eq
  have e2:=h1.length_le
  have e3:=h.Lx
  grind
theorem GG(ms:List Mk)(id:Int):(fI ms id++ms.filter λx=>decide (x.un=id)).Perm ms:=by unfold fI;exact List.perm_append_comm.trans (adD (λx:Mk=>decide (x.un=id)) ms)
theorem Gg{l:List Fc}{x:Fc}(h:l.Pairwise ik):((l.filter λf=>decide (ik f x))++x::(l.filter λf=>decide (ik x f))).Pairwise ik:=by
 rw[ab8,aca];refine⟨h.filter _,⟨λz hz=>by simpa using(abW.1 hz).2,h.filter _⟩,λa ha b H=>?_⟩;have ha:ik a x:=by simpa using(abW.1 ha).2
 rcases abp.1 H with rfl |H;·exact ha
 have H:ik x b:=by simpa using(abW.1 H).2
 unfold ik at ha H⊢;omega
theorem Gf{l:List Mo}{x:Mo}(h:l.Pairwise lP):((l.filter λf=>decide (lP f x))++x::(l.filter λf=>decide (lP x f))).Pairwise lP:=by
 rw[ab8,aca];refine⟨h.filter _,⟨λz hz=>by simpa using(abW.1 hz).2,h.filter _⟩,λa ha b H=>?_⟩;have ha:lP a x:=by simpa using(abW.1 ha).2
 rcases abp.1 H with rfl |H;·exact ha
 have H:lP x b:=by simpa using(abW.1 H).2
 unfold lP at ha H⊢;omega
theorem sB{α:Type}{p q:α->Bool}(h:∀x,p x->q x->False):∀l:List α,(l.filter p).length+(l.filter q).length<=l.length
 |[]=>by simp
 |a::r=>by
  have H:=sB h r
  grind
theorem xY{α:Type}{p q:α->Bool}(h:∀x,p x->q x->False){a:α}:∀{l:List α},a∈l->p a=false->q a=false->(l.filter p).length+(l.filter q).length+1<=l.length
 |[],hm,_,_=>by cases hm
 |b::r,hm,H,hq=>by
  rw[abZ,abZ]
  rcases abp.1 hm with rfl |hm
  ·have:=sB h r
   grind
  ·have ih:=xY h hm H hq
   grind
section
variable {gG:Un->Un->Bool} {suits softer:Int->Int->Bool} {y:Yd} {t:Tk}
theorem Ik{n lo hi:Int}:cQ n lo hi↔lo<=n/\n<=hi:=by unfold cQ;simp
theorem rU(h:dS t):1<=t.kind/\t.kind<=9:=by
 unfold dS at h
 grind
theorem RO(h:dS t)(hk:t.kind=8):(0<=t.id/\t.id<=99)/\ -2<=t.side/\t.side<=7:=by
 unfold dS at h
 rw[abd (by omega),abd (by omega),abd (by omega),abe (by omega)]at h
 simp only[abc,Ik]at h
 grind
theorem RN(h:dS t)(hk:t.kind=9):0<=t.id/\t.id < t.other/\t.other<=99/\0<=t.dA/\t.dA<=7:=by
 unfold dS at h
 rw[abd (by omega),abd (by omega),abd (by omega),abd (by omega),abe hk]at h
 simp only[abc,Ik,abv]at h
 grind
theorem TK(H:rz y)(hf:dS t){l:List Ac}(ha:jc gG suits softer y t=some l):(FH y t).length<=60/\(∀f∈FH y t,(0<=f.un/\f.un<=99)/\ -2<=f.side/\f.side<=7)/\(FH y t).Pairwise ik:=by
 unfold FH;by_cases e:t.kind=8/\(⟨t.id,t.side⟩:Fc)∉y.rc
 ·rw[abe e]
  have hlen:y.rc.length < 60:=by
   unfold jc at ha
   grind
  have h2:=sB (p:=λf:Fc=>decide (ik f ⟨t.id,t.side⟩)) (q:=λf:Fc=>decide (ik ⟨t.id,t.side⟩ f)) (λx h1 h2=>by
   unfold ik at h1 h2
   grind) y.rc
  refine⟨by grind,λf hm=>?_,Gg H.DH⟩;rw[abC,abp,abW,abW]at hm;rcases hm with hm |rfl |hm;·exact H.Ns f hm.1
  ·exact RO hf e.1
  exact H.Ns f hm.1
 rw[abd e];exact⟨H.TJ,H.Ns,H.DH⟩
theorem T7(hy:rz y)(hf:dS t){l:List Ac}(H:jc gG suits softer y t=some l):(Rg y t).length<=20/\(∀x∈Rg y t,0<=x.a/\x.a < x.b/\x.b<=99/\0<=x.dA/\x.dA<=7)/\(Rg y t).Pairwise lP:=by
 unfold Rg;by_cases e:t.kind=9
 ·rw[abe e]
  have hex:∀x:Mo,decide (lP x ⟨t.id,t.other,t.dA⟩)->decide (lP ⟨t.id,t.other,t.dA⟩ x)->False:=λx h1 h2=>by
   unfold lP at h1 h2
   grind
  have hlen:(y.mo.filter λx=>decide (lP x ⟨t.id,t.other,t.dA⟩)).length+(y.mo.filter λx=>decide (lP ⟨t.id,t.other,t.dA⟩ x)).length+1<=20:=by
   unfold jc at H;rw[abd (by omega),abd (by omega),abd (by omega),abd (by omega),abd (by omega),abd (by omega),abd (by omega),abd (by omega)]at H;have⟨u,hu,H⟩:=ab3.1 H;have⟨v,hv,H⟩:=ab3.1 H;split at H
   ·rename_i hc;simp only[abc,acI,abv]at hc;rcases hc.2 with h |h
    ·have:=sB hex y.mo;omega
    have⟨x,hx,a0⟩:=acA.1 h;rw[abc,abv,abv]at a0;have:=xY hex hx (by rw[acj];unfold lP;simp only[];omega) (by rw[acj];unfold lP;simp only[];omega);have:=hy.WQ;omega
   cases H
  refine⟨by grind,λf hm=>?_,Gf hy.DX⟩;rw[abC,abp,abW,abW]at hm;rcases hm with hm |rfl |hm;·exact hy.NW f hm.1
  ·exact RN hf e
  exact hy.NW f hm.1
 rw[abd e];exact⟨hy.WQ,hy.NW,hy.DX⟩
theorem sN{us vs:List Un}{ms H:List Mk}{a:Ac}(h:fT us ms [a]=some (vs,H)):oN us ms a=some (vs,H):=by
 rw[fT]at h;split at h
 ·rename_i hs;cases h;exact(kE hs).2.2.2.1
 cases h
theorem PC{u:Un}(h:jO u):cn [u]:=CC (by simp) (by grind) (by simp) (by simp)
structure WJ(y:Yd)(vs:List Un)(ns:List Mk)(st:List Kp):Prop where
 s1:st.length<=12
 s2:st.Pairwise λa b=>a.un.id < b.un.id
 s3:∀k∈st,∀u∈vs,u.id≠k.un.id
 s4:∀k∈st,cn [k.un]/\iV [k.un] k.ms
 s5:∃w:List Int,w.Sublist ((allM y.ms y.st).map Mk.id)/\((allM ns st).map Mk.id).Perm w
theorem WJ.same(H:rz y){vs:List Un}{ns:List Mk}(h3:∀k∈y.st,∀u∈vs,u.id≠k.un.id)(h5:(ns.map Mk.id).Sublist (y.ms.map Mk.id)):WJ y vs ns y.st:=by
 refine⟨H.Tx,H.xN,h3,λk hk=>⟨H.Ox k hk,H.Gd k hk⟩,_,?_,List.Perm.refl _⟩
 unfold allM
 grind
theorem MW(hy:rz y)(hf:dS t){l:List Ac}(H:jc gG suits softer y t=some l){vs:List Un}{ns:List Mk}(hr:fT y.us y.ms l=some (vs,ns)):WJ y vs ns (Fu y t):=by
 unfold jc at H;unfold Fu;by_cases k1:t.kind=1
 ·rw[abe k1]at H;rw[abd (by omega),abd (by omega)];split at H;·cases H
  rename_i hn;cases H;obtain⟨e1,rfl,rfl⟩:=zl (sN hr);refine .same hy (λk hk u hu=>?_) (List.Sublist.refl _);rcases sS hu with rfl |hu
  ·grind
  exact hy.off k hk u hu
 rw[abd k1]at H;by_cases k2:t.kind=2
 ·rw[abe k2]at H⊢;split at H
  ·rename_i hc;cases H;rw[abc,abv]at hc;obtain⟨-,rfl,rfl⟩:=Bh (sN hr);have⟨u,hu⟩:=adf.1 hc.1;have⟨b0,h0⟩:=gd hu;rw[hu];have i0:∀k∈y.st,k.un.id≠(⟨u,y.ms.filter λx=>decide (x.un=t.id)⟩:Kp).un.id:=λk hk=>λe=>hy.off k hk u b0 e.symm;have hp:=vj (λk:Kp=>k.un.id) ⟨u,y.ms.filter λx=>decide (x.un=t.id)⟩ i0;refine⟨?_,OA hy.xN,λk hk v hv=>?_,λk hk=>?_,_,List.Sublist.refl _,?_⟩
   ·have:=hp.length_eq
    grind
   ·have hv:=abW.1 hv;rcases abp.1 (hp.mem_iff.1 hk)with rfl |hk
    ·grind
    exact hy.off k hk v hv.1
   ·rcases abp.1 (hp.mem_iff.1 hk)with rfl |hk
    ·refine⟨PC (hy.tR.val u b0),?_⟩
     have a0:(y.ms.filter λx=>decide (x.un=t.id)).Sublist y.ms:=aey
     refine⟨acb a0.length_le hy.HO.len,hy.HO.xN.filter _,λx hx=>hy.HO.ok x (a0.mem hx),λx hx=>?_⟩
     have⟨v,hv,h1,h2⟩:=hy.HO.un x (a0.mem hx)
     have⟨i,hi⟩:=abx hv
     have o0:=pK hy.tR hi
     grind
    exact⟨hy.Ox k hk,hy.Gd k hk⟩
   refine List.Perm.map _ ?_;unfold allM
   have h1:((Cu (λk:Kp=>k.un.id) y.st ⟨u,y.ms.filter λx=>decide (x.un=t.id)⟩).flatMap Kp.ms).Perm ((y.ms.filter λx=>decide (x.un=t.id))++y.st.flatMap Kp.ms):=by
    grind
   refine(h1.append_left _).trans ?_;rw[<-abL];exact(GG y.ms t.id).append_right _
  cases H
 rw[abd k2]at H⊢;by_cases k3:t.kind=3
 ·rw[abe k3]at H⊢;obtain⟨k,j0,rfl⟩:=abq.1 H;have k0:=acV j0;rw[fT]at hr;split at hr
  ·rename_i l0 n0 hs;obtain⟨e1,rfl,rfl⟩:=zl (kE hs).2.2.2.1;obtain⟨rfl,hp⟩:=Ax hr;obtain⟨p,q,e0⟩:=List.append_of_mem k0;have d0:=hy.xN;rw[e0]at d0;rw[ab8,aca]at d0
   have g0:(y.st.filter λk=> !decide (k.un.id=t.id))=p++q:=by
    rw[e0,abK,abZ,abd (by grind)];rw[acH.2 λz hz=>?_,acH.2 λz hz=>?_]
    ·grind
    ·grind
   rw[g0];have a0:(p++q).Sublist y.st:=by grind
   refine⟨acb a0.length_le hy.Tx,hy.xN.sublist a0,λj hj v hv=>?_,λj hj=>⟨hy.Ox j (a0.mem hj),hy.Gd j (a0.mem hj)⟩,_,List.Sublist.refl _,?_⟩
   ·rcases sS hv with rfl |hv
    ·grind
    exact hy.off j (a0.mem hj) v hv
   ·refine List.Perm.map _ ?_
    unfold allM
    grind
  cases hr
 rw[abd k3]at H⊢;by_cases k4:t.kind=4
 ·rw[abe k4]at H;have⟨u,hu,H⟩:=ab3.1 H;have⟨b0,h0⟩:=gd hu;split at H
  ·cases H;rw[fT]at hr;split at hr
   ·rename_i l0 n0 hs;obtain⟨-,rfl,rfl⟩:=Bh (kE hs).2.2.2.1;obtain⟨-,rfl,rfl⟩:=zl (sN hr);refine .same hy (λk hk v hv=>?_) (List.Sublist.map _ (by unfold fI;exact aey));rcases sS hv with rfl |hv;·exact hy.off k hk u b0
    exact hy.off k hk v (abW.1 hv).1
   cases hr
  cases H
 rw[abd k4]at H;by_cases k5:t.kind=5
 ·rw[abe k5]at H;split at H
  ·cases H;obtain⟨rfl,e⟩:=Aw hr;exact .same hy hy.off (by grind)
  cases H
 rw[abd k5]at H;by_cases k6:t.kind=6
 ·rw[abe k6]at H;cases H;obtain⟨rfl,e⟩:=CH (.inr rfl) (sN hr);exact .same hy hy.off (by grind)
 rw[abd k6]at H;by_cases k7:t.kind=7
 ·rw[abe k7]at H;cases H;obtain⟨rfl,e⟩:=CH (.inl rfl) (sN hr);exact .same hy hy.off (by grind)
 rw[abd k7]at H
 have hl:l=[]:=by
  by_cases k8:t.kind=8
  ·grind
  ·rw[abd k8]at H
   have⟨u,hu,H⟩:=ab3.1 H
   have⟨v,hv,H⟩:=ab3.1 H
   grind
 subst hl;cases hr;exact .same hy hy.off (List.Sublist.refl _)
theorem Dv(H:rz y)(hf:dS t){y':Yd}(h:Ho gG suits softer y t=some y'):rz y':=by
 unfold Ho at h;split at h;·cases h
 rename_i l ha;obtain⟨⟨vs,ns⟩,hr,rfl⟩:=abq.1 h;have⟨f,g⟩:=Hv H.tR H.HO hr;have s:=MW H hf ha hr;have r:=TK H hf ha;have q:=T7 H hf ha;exact H.next f g s.s1 s.s2 s.s3 s.s4 s.s5 r.1 r.2.1 r.2.2 q.1 q.2.1 q.2.2
end
section
variable {X:aK} {m:M}
abbrev Tk.c(t:Tk)(w:aeM):aeN:=[.int .i64 t.kind,.int .i64 t.un.id,.int .i64 t.un.kind,.int .i64 t.un.dA,w,.int .i64 t.un.back,.int .i64 t.un.front,.int .i64 t.id,.int .i64 t.other,.int .i64 t.side,.int .i64 t.dA]
abbrev Tk.v(t:Tk)(w:aeM):aeM:=.agg (t.c w).toArray
theorem Tk.cR{t:Tk}{w:aeM}(h:one w):(t.c w).all one:=by show(true && (true && (true && (true && (one w && true)))))=true;rw[h];rfl
structure TW where
 t:Tk
 w:aeM
abbrev TW.c(x:TW):aeN:=x.t.c x.w
abbrev TW.v(x:TW):aeM:=x.t.v x.w
instance:aZ TW where
 ty:=62
 sz:=11
 agg:=true
 eB:=[]
 rep _ x cs:=cs=x.c/\one x.w=true
 pos:=by decide
 one:=by grind
 len:=by simp_all
 fB:=by rintro _ x _ ⟨rfl,h⟩;exact Tk.cR h
 aY:=by grind
theorem jR:oP TE 39 62 TW:=⟨ag.t39,ag.t62,by kernel_rfl,⟨_,rfl⟩,rfl,by kernel_rfl,rfl,rfl⟩
theorem P6:ur TE 39 TW:=⟨ag.t39,ag.t62,by kernel_rfl,rfl,rfl,by kernel_rfl,by decide,rfl⟩
structure KW where
 u:Un
 w:aeM
 ms:List Mk
 mv:aeM
abbrev KW.c(x:KW):aeN:=[.int .i64 x.u.id,.int .i64 x.u.kind,.int .i64 x.u.dA,x.w,.int .i64 x.u.back,.int .i64 x.u.front,x.mv]
abbrev KW.v(x:KW):aeM:=.agg (x.c).toArray
abbrev KW.k(x:KW):Kp:=⟨x.u,x.ms⟩
theorem KW.cR{x:KW}(h1:one x.w)(H:one x.mv):(x.c).all one:=by show(true && (true && (true && (one x.w && (true && (true && (one x.mv && true)))))))=true;rw[h1,H];rfl
instance:aZ KW where
 ty:=113
 sz:=7
 agg:=true
 eB:=[]
 rep _ x cs:=cs=x.c/\one x.w=true/\one x.mv=true
 pos:=by decide
 one:=by grind
 len:=by simp_all
 fB:=by rintro _ x _ ⟨rfl,h1,h2⟩;exact KW.cR h1 h2
 aY:=by grind
theorem gZ:oP TE 34 113 KW:=⟨ag.t34,ag.t113,by kernel_rfl,⟨_,rfl⟩,rfl,by kernel_rfl,rfl,rfl⟩
theorem Ha:ur TE 34 KW:=⟨ag.t34,ag.t113,by kernel_rfl,rfl,rfl,by kernel_rfl,by decide,rfl⟩
abbrev Mo.c(x:Mo):aeN:=[.int .i64 x.a,.int .i64 x.b,.int .i64 x.dA]
abbrev Mo.v(x:Mo):aeM:=.agg (x.c).toArray
instance:aZ Mo where
 ty:=109
 sz:=3
 agg:=true
 eB:=[]
 rep _ x cs:=cs=x.c
 pos:=by decide
 one:=by grind
 len:=by grind
 fB:=by rintro _ _ _ rfl;rfl
 aY:=by grind
theorem ny:oP TE 36 109 Mo:=⟨ag.t36,ag.t109,by kernel_rfl,⟨_,rfl⟩,rfl,by kernel_rfl,rfl,rfl⟩
theorem WE:ur TE 36 Mo:=⟨ag.t36,ag.t109,by kernel_rfl,rfl,rfl,by kernel_rfl,by decide,rfl⟩
def Sr{α:Type}[aZ α](m:M)(l:List α)(v:aeM):Prop:=(l=[]/\v=.slice none 0 0)\/SlC m l v
theorem Sr.aY{α:Type}[aZ α]{l:List α}{v:aeM}{m':M}(h:Sr m l v)(hk:∀b c t g,m.get b=.cells c t g->t∈aZ.ty α::aZ.eB α->m'.get b=.cells c t g):Sr m' l v:=by
 rcases h with h |⟨h1,b,o,c,H,g,h2,h3,h4,h5⟩;·exact .inl h
 exact .inr ⟨h1.aY hk,b,o,c,H,g,h2,h3,hk _ _ _ _ h4 abN,h5⟩
theorem _root_.Go.D.Ow.sln{α:Type}[aZ α]{n1:Nat}{l:List α}{v:aeM}(h:Ow n1 m l v):Sr m l v:=by
 by_cases H:l=[]
 ·subst H;rcases h with⟨rfl,_⟩ |⟨b,cs,_,h,_⟩;·exact .inl ⟨rfl,rfl⟩
  ·grind
 exact .inr (h.slc H)
theorem Sr.to{α:Type}[aZ α]{T t:TypeId}(H:oP TE T t α){l:List α}{v:aeM}(h:Sr m l v)(h0:slice? TE m T aeQ none (some (aeP (0:Nat))) none=some aeQ){i:Nat}(hi:i<=l.length):
  ∃v',slice? TE m T v none (some (aeP i)) none=some v'/\Sl m (l.take i) v':=by
 rcases h with⟨rfl,rfl⟩ |⟨h1,b,o,c,bc,g,rfl,h3,h4,h5⟩
 ·obtain rfl:i=0:=by grind
  exact⟨_,h0,.nil⟩
 have⟨ti,te,t1,⟨e,t2⟩,t3,_⟩:=H;refine⟨_,Aq t1 t2 (by rw[t3];exact aZ.pos) h4 (by grind) h3 (by omega),?_⟩;have:=h1.part (i:=0) (k:=i) (c':=c) (by omega);rwa[abU,ac4,acY]at this
theorem Sr.from{α:Type}[aZ α]{T t:TypeId}(hT:oP TE T t α){l:List α}{v:aeM}(h:Sr m l v)(h0:slice? TE m T aeQ (some (aeP (0:Nat))) none none=some aeQ){i:Nat}(hi:i<=l.length):
  ∃v',slice? TE m T v (some (aeP i)) none none=some v'/\(Sl m (l.drop i) v'\/(l.drop i=[]/\∃H c',v'=.slice (some H) 0 c')):=by
 rcases h with⟨rfl,rfl⟩ |⟨h1,b,o,c,bc,g,rfl,h3,h4,h5⟩
 ·obtain rfl:i=0:=by grind
  exact⟨_,h0,.inl .nil⟩
 have⟨ti,te,t1,⟨e,t2⟩,t3,_⟩:=hT;obtain⟨H,e1,e2⟩:=oX (E:=TE) (T:=T) t1 t2 (by rw[t3];exact aZ.pos) h4 (by grind) h3 hi (o:=o);refine⟨_,e1,?_⟩;by_cases a0:i < l.length
 ·rw[e2 (by omega),t3]
  have:=h1.part (i:=i) (k:=l.length-i) (c':=c-i) (by omega)
  rw[aby (by grind)]at this
  grind
 ·grind
theorem _root_.Go.D.Ow.EV{α:Type}[aZ α]{T:TypeId}(hT:ur TE T α)(a0:aZ.eB α=[]){n1:Nat}{l ys:List α}{v y:aeM}(h:Ow n1 m l v)(H:l≠ [])(hy:Sl m ys y\/(ys=[]/\∃a' c',y=.slice (some a') 0 c'))(hn:n1<=m.n)(hs:l.length+ys.length<=1000000):
  ∃v' m1,aw TE (m.wl m.n) .append [T,T] [v,y]=some (v',m1)/\Ow n1 m1 (l++ys) v'/\m.n<=m1.n/\n1<=m1.low/\(∀c,c < n1->m1.get c=m.get c)/\((∃a n k,v=.slice (some a) n k/\∀c,c < m.n->c≠a.block->m1.get c=m.get c)):=by
 obtain⟨b,rfl,_⟩:=mV h H;rcases hy with hy |⟨rfl,a',c',rfl⟩
 ·obtain⟨v',m1,e1,ho,hf,hl,_⟩:=h.append hT (by grind) hy hn (by omega);obtain⟨ya,yc,rfl⟩:=hy.form;exact⟨v',m1,e1,ho,hf.n,hl,λc hc=>hf.get c hc,_,_,_,rfl,λc hc H=>fx e1 hc λad n k e=>by grind⟩
 refine⟨_,m.wl m.n,append_nil hT (aa4 _) (by grind) (.inl ⟨_,_,rfl⟩),?_,aa4 _,hn,λ_ _=>rfl,_,_,_,rfl,λ_ _ _=>rfl⟩;rw[abJ];exact h.aF Ext.refl.wl
structure Lv(m:M)(l:List KW)(v:aeM):Prop where
 sl:Sl m l v
 cap:Sr m l v
 sh:∀x∈l,Sl m x.u.shape x.w
 mv:∀x∈l,Sl m x.ms x.mv
 ln:∀x∈l,x.u.shape.length < 1000000
 lm:∀x∈l,x.ms.length < 1000000
theorem Lv.aY{l:List KW}{v:aeM}{m':M}(h:Lv m l v)(hk:∀c cs t g,m.get c=.cells cs t g->(t=113\/t=141\/t=137)->m'.get c=.cells cs t g):Lv m' l v:=
 ⟨h.sl.aY λc cs t g H ht=>hk c cs t g H (.inl (by simpa[aZ.ty,aZ.eB]using ht)),h.cap.aY λc cs t g H ht=>hk c cs t g H (.inl (by simpa[aZ.ty,aZ.eB]using ht)),λx hx=>(h.sh x hx).aY λc cs t g H ht=>hk c cs t g H (.inr (.inl (by simpa[aZ.ty,aZ.eB]using ht))),λx hx=>(h.mv x hx).aY λc cs t g H ht=>hk c cs t g H (.inr (.inr (by simpa[aZ.ty,aZ.eB]using ht))),h.ln,h.lm⟩
theorem Lv.aF{l:List KW}{v:aeM}{m':M}(h:Lv m l v)(H:Ext m m'):Lv m' l v:=h.aY λ_ _ _ _ hc _=>H.cells hc
theorem Lv.nil:Lv m [] aeQ:=⟨.nil,.inl ⟨rfl,rfl⟩,λx H=>(by cases H),λx H=>(by cases H),λx H=>(by cases H),λx H=>(by cases H)⟩
abbrev Qo(l:List KW):List Kp:=l.map KW.k
theorem tG{l:List KW}:(Qo l).length=l.length:=abH _
structure oO(m:M)(y:Yd)(r r2 st rc mo:aeM):Prop where
 tR:∃l,bP l=y.us/\dg m l r
 ms:Sl m y.ms r2
 st:∃k,Qo k=y.st/\Lv m k st
 rc:Sl m y.rc rc
 mo:Sl m y.mo mo
abbrev yc(r r2 st rc mo:aeM):aeN:=[r,r2,st,rc,mo]
abbrev yv(r r2 st rc mo:aeM):aeM:=.agg (yc r r2 st rc mo).toArray
theorem oO.aY{y:Yd}{r r2 st rc mo:aeM}{m':M}(h:oO m y r r2 st rc mo)(hk:∀c cs t g,m.get c=.cells cs t g->(t=60\/t=141\/t=137\/t=113\/t=53\/t=109)->m'.get c=.cells cs t g):oO m' y r r2 st rc mo:=by
 have⟨⟨l,h1,h2⟩,h3,⟨k,h4,h5⟩,h6,h7⟩:=h
 refine⟨⟨l,h1,h2.aY λc cs t g H ht=>hk c cs t g H (by grind)⟩,h3.aY λc cs t g H ht=>hk c cs t g H ?_,⟨k,h4,h5.aY λc cs t g H ht=>hk c cs t g H (by grind)⟩,h6.aY λc cs t g H ht=>hk c cs t g H ?_,h7.aY λc cs t g H ht=>hk c cs t g H ?_⟩ <;>
  (simp only[aZ.ty,aZ.eB,abp,ab0,or_false]at ht;subst ht;simp)
theorem oO.aF{y:Yd}{r r2 st rc mo:aeM}{m':M}(h:oO m y r r2 st rc mo)(H:Ext m m'):oO m' y r r2 st rc mo:=h.aY λ_ _ _ _ hc _=>H.cells hc
theorem oO.fB{y:Yd}{r r2 st rc mo:aeM}(h:oO m y r r2 st rc mo):(yc r r2 st rc mo).all one:=by have⟨⟨l,_,H⟩,h3,⟨k,_,h5⟩,h6,h7⟩:=h;show(one r && (one r2 && (one st && (one rc && (one mo && true)))))=true;rw[H.sl.one,h3.one,h5.sl.one,h6.one,h7.one];rfl
section
variable {b:Nat} {t:Tk} {w:aeM} {g:Option Nat}
theorem rB(h:m.get b=.cells (t.c w) 62 g):ah TE m 60 (aeK b (0+1))=some (t.un.v w):=by rw[qB,aN (n:=6) h (by simp_all)];rfl
theorem gQ(h:m.get b=.cells (t.c w) 62 g):ah TE m 62 (aeK b 0)=some (t.v w):=by rw[Rm,aN (n:=11) h (by simp_all)];rfl
theorem oK(h:m.get b=.cells (t.c w) 62 g):
  ah TE m 3 (aeK b (0+0))=some (aeP t.kind)/\ah TE m 3 (aeK b (0+7))=some (aeP t.id)/\ah TE m 3 (aeK b (0+8))=some (aeP t.other)/\
  ah TE m 3 (aeK b (0+9))=some (aeP t.side)/\ah TE m 3 (aeK b (0+10))=some (aeP t.dA):=by refine⟨?_,?_,?_,?_,?_⟩ <;>(rw[bI,aI h];rfl)
theorem vM(h:m.get b=.cells (t.c w) 62 g):
  ah TE m 3 (aeK b (0+1+0))=some (aeP t.un.id)/\ah TE m 3 (aeK b (0+1+1))=some (aeP t.un.kind)/\ah TE m 3 (aeK b (0+1+2))=some (aeP t.un.dA)/\
  ah TE m 58 (aeK b (0+1+3))=some w/\ah TE m 3 (aeK b (0+1+4))=some (aeP t.un.back)/\ah TE m 3 (aeK b (0+1+5))=some (aeP t.un.front):=by
 refine⟨?_,?_,?_,?_,?_,?_⟩;·rw[bI,aI h];rfl
 ·rw[bI,aI h];rfl
 ·rw[bI,aI h];rfl
 ·rw[tD,aI h];rfl
 ·rw[bI,aI h];rfl
 rw[bI,aI h];rfl
end
section
variable {b:Nat} {r r2 st rc mo:aeM} {g:Option Nat}
theorem fF(h:m.get b=.cells (yc r r2 st rc mo) 38 g):
  ah TE m 33 (aeK b (0+0))=some (.agg #[r,r2])/\ah TE m 34 (aeK b (0+2))=some st/\ah TE m 35 (aeK b (0+3))=some rc/\
  ah TE m 36 (aeK b (0+4))=some mo/\ah TE m 38 (aeK b 0)=some (yv r r2 st rc mo):=by
 refine⟨?_,?_,?_,?_,?_⟩;·rw[tE,aN (n:=2) h (by grind)];rfl
 ·rw[Rt,aI h];rfl
 ·rw[qC,aI h];rfl
 ·rw[Rs,aI h];rfl
 rw[HZ,aN (n:=5) h (by grind)];rfl
theorem xR(h:m.get b=.cells (yc r r2 st rc mo) 38 g):
  ah TE m 30 (aeK b (0+0+0))=some (.agg #[r])/\ah TE m 28 (aeK b (0+0+0+0))=some r/\ah TE m 31 (aeK b (0+0+1))=some r2:=by
 refine⟨?_,?_,?_⟩;·rw[ez,aN (n:=1) h (by grind)];rfl
 ·rw[eO,aI h];rfl
 rw[nN,aI h];rfl
end
deriving instance DecidableEq for Un
theorem JN(hX:cC X){a b:Un}{va vb:aeM}(ha:Sl m a.shape va)(hb:Sl m b.shape vb)(la:a.shape.length < 4611686018427387904):
  C X (.func 89) [a.v va,b.v vb] m m.n (.bool (decide (a=b))) m:=by
 refine Cl.flat (hX.no _ rfl) (aa3 func89) rfl rfl ?_;rw[F89];dsimp only[δ,ε,ζ,η,κ,ρ,υ,φ];refine av λm1 r0 o0 s0=>?_;refine av λm2 u0 j0 v0=>?_;simp only[aT]at o0 j0;have k0:Ext m m2:=⟨by omega,by grind⟩
 have g1:m2.get m.n=.cells (a.c va) 60 none:=by grind
 have g2:m2.get m1.n=.cells (b.c vb) 60 none:=j0;have⟨a0,a1,a2,a3,a4,a5⟩:=kU g1;have⟨b0,b1,b2,b3,b4,b5⟩:=kU g2;have g0:=ha.aF k0;have l0:=hb.aF k0;unfold ptrTo;simp only[bs,cM,cL,bH,cK,cJ,ae]
 have fin:∀{lo:Nat} {c:Bool},m.n<=lo->(c↔a=b)->bC [Value.bool c]=Value.bool (decide (a=b))/\m.n<=lo:=λ{lo c} d0 e=>⟨by
  have:c=decide (a=b):=by grind
  rw[this];rfl,d0⟩
 refine aW (λvs mm lo=>m2=mm/\m.n<=lo/\∃bad:Bool,vs=[.bool bad]/\(bad->a≠b)/\(bad=false->a.id=b.id/\a.kind=b.kind/\a.dA=b.dA/\a.back=b.back/\a.front=b.front/\a.shape.length=b.shape.length)) (λR hR=>?_) ?_
 ·have bad:∀(h:a≠b),∃bad:Bool,[Value.bool true]=[.bool bad]/\(bad->a≠b)/\(bad=false->a.id=b.id/\a.kind=b.kind/\a.dA=b.dA/\a.back=b.back/\a.front=b.front/\a.shape.length=b.shape.length):=λh=>⟨true,rfl,λ_=>h,λe=>by cases e⟩
  rw[a0,ae,b0,ae,bR,ae,aj];refine ak (λc=>hR _ _ _ ⟨rfl,aa4 _,bad λe=>?_⟩) (λc0=>?_);·rw[e]at c;simp at c
  rw[a1,ae,b1,ae,bR,ae,aj];refine ak (λc=>hR _ _ _ ⟨rfl,aa4 _,bad λe=>?_⟩) (λc1=>?_);·rw[e]at c;simp at c
  rw[a2,ae,b2,ae,bR,ae,aj];refine ak (λc=>hR _ _ _ ⟨rfl,aa4 _,bad λe=>?_⟩) (λc2=>?_);·rw[e]at c;simp at c
  rw[a4,ae,b4,ae,bR,ae,aj];refine ak (λc=>hR _ _ _ ⟨rfl,aa4 _,bad λe=>?_⟩) (λc4=>?_);·rw[e]at c;simp at c
  rw[a5,ae,b5,ae,bR,ae,aj];refine ak (λc=>hR _ _ _ ⟨rfl,aa4 _,bad λe=>?_⟩) (λc5=>?_);·rw[e]at c;simp at c
  rw[a3,ae,g0.len cx,aA,b3,ae,l0.len cx,aA,bR,ae];refine hR _ _ _ ⟨rfl,aa4 _,_,rfl,λc e=>?_,λc=>⟨by grind,by grind,by grind,by grind,by grind,?_⟩⟩;·rw[e]at c;simp at c
  have:(a.shape.length:Int)=(b.shape.length:Int):=by grind
  omega
 rintro _ _ lo ⟨rfl,d0,bad,rfl,h1,h2⟩;rw[aB,aj];refine ak (λc=>fin d0 ⟨λe=>(by cases e),λe=>absurd e (h1 c)⟩) (λc=>?_);have⟨f0,f1,f2,f4,f5,hlen⟩:=h2 c;refine Lp.intro (γ:=Nat) (λi=>a.shape.length-i) (λi vs mm lo=>vs=[aeS,aeP i]/\i<=a.shape.length/\m2=mm/\m.n<=lo/\∀j x y,j < i->a.shape[j]?=some x->b.shape[j]?=some y->x=y) 0 ⟨rfl,abh _,rfl,d0,λj x y hj=>by omega⟩ ?_;rintro i vs _ y0 ⟨rfl,hi,rfl,H,e0⟩;rw[aB,aB,a3,ae,g0.len cx,aA,aM,ae,aj];refine ak (λn0=>?_) (λz0=>?_)
 ·have n0:i < a.shape.length:=by grind
  obtain⟨x,hx⟩:∃x,a.shape[i]?=some x:=⟨_,aa5 n0⟩
  obtain⟨y,hy⟩:∃y,b.shape[i]?=some y:=⟨_,aa5 (by omega)⟩
  have⟨p,e1,e2⟩:=g0.dZ (k:=.i64) hx;have⟨q,e3,e4⟩:=l0.dZ (k:=.i64) hy;rw[ae,e1,ae,e2,ae,b3,ae,e3,ae,e4,ae,NU,ae,aj];refine ak (λp0=>fin H ⟨λe=>(by cases e),λe=>?_⟩) (λhe=>?_)
  ·rw[e,hy]at hx;cases hx;simp at p0
  rw[aQ,ae,wrap64 (by omega) (by omega)];refine⟨i+1,by omega,rfl,by omega,rfl,H,λj x' y' hj h0 i0=>?_⟩;by_cases q0:j < i;·exact e0 j x' y' q0 h0 i0
  have:j=i:=by omega
  subst this;rw[hx]at h0;rw[hy]at i0;cases h0;cases i0;simpa using he
 have A0:i=a.shape.length:=by
  grind
 have hs:a.shape=b.shape:=Gc hlen λj x y hj=>e0 j x y (by omega);refine fin H ⟨λ_=>?_,λ_=>rfl⟩;rcases a with⟨_,_,_,_,_,_⟩;rcases b with⟨_,_,_,_,_,_⟩;simp only[Un.mk.injEq];exact⟨f0,f1,f2,hs,f4,f5⟩
end
deriving instance DecidableEq for Tk
abbrev Un.z:Un:=⟨0,0,0,[],0,0⟩
def fN(t:Tk):List Int:=
 if t.kind=1 then [t.un.id,t.un.kind,t.un.dA,t.un.back,t.un.front]++t.un.shape.flatMap λp=> [p.x,p.y]
 else if t.kind=2\/t.kind=3\/t.kind=6\/t.kind=7 then [t.id]
 else if t.kind=4 then [t.id,t.dA]
 else if t.kind=5\/t.kind=8 then [t.id,t.side]
 else if t.kind=9 then [t.id,t.other,t.dA]
 else []
def hU:List Int->List Pl
 |x::y::r=>⟨x,y⟩::hU r
 |_=> []
theorem vX:∀l:List Pl,hU (l.flatMap λp=> [p.x,p.y])=l
 |[]=>rfl
 |p::r=>by
  show(⟨p.x,p.y⟩:Pl)::hU (r.flatMap λp=> [p.x,p.y])=p::r
  rw[vX r]
theorem tM:∀l:List Pl,(l.flatMap λp=> [p.x,p.y]).length=2*l.length
 |[]=>rfl
 |p::r=>by
  show(r.flatMap λp=> [p.x,p.y]).length+1+1=2*(r.length+1)
  rw[tM r];omega
def xI(k:Int)(l:List Int):Option Tk:=
 if k=1 then(if 11<=l.length/\l.length<=21/\l.length%2=1 then some ⟨1,⟨l.getD 0 0,l.getD 1 0,l.getD 2 0,hU (l.drop 5),l.getD 3 0,l.getD 4 0⟩,0,0,0,0⟩else none)
 else if k=4 then(if l.length=2 then some ⟨k,.z,l.getD 0 0,0,0,l.getD 1 0⟩else none)
 else if k=5\/k=8 then(if l.length=2 then some ⟨k,.z,l.getD 0 0,0,l.getD 1 0,0⟩else none)
 else if k=9 then(if l.length=3 then some ⟨k,.z,l.getD 0 0,l.getD 1 0,0,l.getD 2 0⟩else none)
 else(if l.length=1 then some ⟨k,.z,l.getD 0 0,0,0,0⟩else none)
def tK(t:Tk):Bool:=cQ t.kind 1 9 && decide (t.un.shape.length<=8) && decide (xI t.kind (fN t)=some t) &&
 (if t.kind=1 then jO t.un && cQ t.un.kind 6 8 else cQ t.id 0 99 && cQ t.other 0 99 && cQ t.side (-2) 7 && cQ t.dA 0 7 && (!decide (t.kind=9) ||decide (t.id < t.other)))
theorem xK{u:Un}:(eX u && decide (u.id=0))=decide (u=.z):=by
 have⟨a,b,c,s,d,e⟩:=u
 unfold eX
 grind
theorem OG(t:Tk):tK t=dS t:=by
 have⟨k,u,id,a0,side,dA⟩:=t;by_cases k1:k=1
 ·subst k1;unfold tK dS fN xI;simp only[acU,aci,ab6,List.getD_cons_zero,List.getD_cons_succ,acv,abU,vX,abr,tM];have⟨a,b,c,s,d,e⟩:=u;rw[adv];by_cases H:jO ⟨a,b,c,s,d,e⟩=true
  ·have h8:=jt H;have b0:3<=s.length/\s.length<=8:=eR (Hl H);have h8:s.length<=8:=h8;have hs:(⟨a,b,c,s,d,e⟩:Un).shape.length=s.length:=rfl;rw[abe ⟨by omega,by omega,by omega⟩];simp only[abc,abv,abf,Tk.mk.injEq,H,true_and,and_true,cQ];omega
  ·grind
 all_goals
  by_cases k2:k=2\/k=3\/k=6\/k=7
  ·rcases k2 with rfl |rfl |rfl |rfl <;>
   ·unfold tK dS fN xI
    simp only[xK]
    simp[cQ]
    grind
  by_cases k4:k=4
  ·subst k4
   unfold tK dS fN xI
   simp only[xK]
   simp[cQ]
   grind
  by_cases k5:k=5\/k=8
  ·rcases k5 with rfl |rfl <;>
   ·unfold tK dS fN xI
    simp only[xK]
    simp[cQ]
    grind
  by_cases k9:k=9
  ·subst k9
   unfold tK dS fN xI
   simp only[xK]
   simp[cQ]
   grind
  unfold tK dS
  have:cQ k 1 9=false:=by
   unfold cQ
   grind
  grind
section
section
variable {X:aK}{x0 x1 x2:aeM}{m:M}{R:aeN->M->Nat->Prop}{W:Words}
theorem Z3:dE TE (aL TE X) f177 [x0,x1,x2] m R=jn (λa=>η .geq 3 x0 x1 λb=>aR b (η .leq 3 x0 x2 λb=>a [b] m m.n) (a [aeS] m m.n)) (λa b c=>un a λa _=>R [a] b c):=by kernel_rfl
theorem Z1:dE TE W f179 [x0] m R=aaY W m x0 62 λa=>aaP W 62 (aa0 m) 0 λb=>aaO W a 3 b λb=>aaR W .eql 3 b (aa1 1) λc=>aR c (aaP W 62 (aa0 m) 1 λb=>aaP W 60 b 0 λb=>aaO W a 3 b λb=>aaP W 62 (aa0 m) 1 λc=>aaP W 60 c 1 λc=>aaO W a 3 c λc=>aaP W 62 (aa0 m) 1 λd=>aaP W 60 d 2 λd=>aaO W a 3 d λd=>aaP W 62 (aa0 m) 1 λf=>aaP W 60 f 4 λf=>aaO W a 3 f λf=>aaP W 62 (aa0 m) 1 λg=>aaP W 60 g 5 λg=>aaO W a 3 g λg=>aaV W a 26 5 [(0,b),(1,c),(2,d),(3,f),(4,g)] λa b=>W.Lp (λa b c d=>W.un b λb f=>W.un f λf _=>aaP W 62 (aa0 m) 1 λg=>aaP W 60 g 3 λg=>aaO W c 58 g λg=>aaU W c .len [58] [g] λg _=>aaR W .lss 3 f g λg=>aR g (aaP W 62 (aa0 m) 1 λg=>aaP W 60 g 3 λg=>aaO W c 58 g λg=>aaQ W 58 g f λg=>aaP W 141 g 0 λg=>aaO W c 3 g λg=>aaP W 62 (aa0 m) 1 λh=>aaP W 60 h 3 λh=>aaO W c 58 h λh=>aaQ W 58 h f λh=>aaP W 141 h 1 λh=>aaO W c 3 h λh=>aaV W c 26 2 [(0,g),(1,h)] λc g=>aaU W (M.wl g g.n) .append [26,26] [b,c] λb c=>aaR W .add 3 f (aa1 1) λf=>a [b,f] c (min d (M.low c))) (R [b] c d)) [a,aa1 0] b m.n) (W.jn (λc=>aaR W .eql 3 b (aa1 2) λd=>aR d (c [d] a m.n) (aaR W .eql 3 b (aa1 3) λd=>aR d (c [d] a m.n) (aaR W .eql 3 b (aa1 6) λd=>aR d (c [d] a m.n) (aaR W .eql 3 b (aa1 7) λb=>c [b] a m.n)))) (λa c d=>W.un a λa _=>aR a (aaP W 62 (aa0 m) 2 λa=>aaO W c 3 a λa=>aaV W c 26 1 [(0,a)] λa b=>R [a] b d) (aaR W .eql 3 b (aa1 4) λa=>aR a (aaP W 62 (aa0 m) 2 λa=>aaO W c 3 a λa=>aaP W 62 (aa0 m) 5 λb=>aaO W c 3 b λb=>aaV W c 26 2 [(0,a),(1,b)] λa b=>R [a] b d) (W.jn (λa=>aaR W .eql 3 b (aa1 5) λf=>aR f (a [f] c d) (aaR W .eql 3 b (aa1 8) λb=>a [b] c d)) (λa c d=>W.un a λa _=>aR a (aaP W 62 (aa0 m) 2 λa=>aaO W c 3 a λa=>aaP W 62 (aa0 m) 4 λb=>aaO W c 3 b λb=>aaV W c 26 2 [(0,a),(1,b)] λa b=>R [a] b d) (aaR W .eql 3 b (aa1 9) λa=>aR a (aaP W 62 (aa0 m) 2 λa=>aaO W c 3 a λa=>aaP W 62 (aa0 m) 3 λb=>aaO W c 3 b λb=>aaP W 62 (aa0 m) 5 λf=>aaO W c 3 f λf=>aaV W c 26 3 [(0,a),(1,b),(2,f)] λa b=>R [a] b d) (R [aeQ] c d))))))):=by kernel_rfl
theorem Z2:dE TE (aL TE X) f178 [x0,x1] m R=ς m [φ 0,φ 0,φ 0,φ 0,aeQ,φ 0,φ 0,φ 0,φ 0,φ 0,φ 0] 62 λa=>θ 62 [(0,x0)] λb=>ς a [φ 0,φ 0,φ 0,φ 0,aeQ,φ 0,φ 0,φ 0,φ 0,φ 0,φ 0] 62 λc=>ι c 62 (υ a) b λb c=>η .eql 3 x0 (φ 1) λd=>aR d (jn (λa=>κ b .len [26] [x1] λd _=>η .lss 3 d (φ 11) λd=>aR d (a [aeR] b (min m.n c)) (κ b .len [26] [x1] λd _=>η .gtr 3 d (φ 21) λd=>aR d (a [aeR] b (min m.n c)) (κ b .len [26] [x1] λd _=>η .rem 3 d (φ 2) λd=>η .eql 3 d (φ 0) λd=>a [d] b (min m.n c)))) (λb c d=>un b λb _=>aR b (θ 62 [] λa=>ι c 62 (υ m) a λa b=>ai (ah TE a 62 (υ m)) λc=>R [c,aeS] a (min d b)) (ζ 26 x1 (φ 0) λb=>δ c 3 b λb=>ζ 26 x1 (φ 1) λf=>δ c 3 f λf=>ζ 26 x1 (φ 2) λg=>δ c 3 g λg=>ζ 26 x1 (φ 3) λh=>δ c 3 h λh=>ζ 26 x1 (φ 4) λi=>δ c 3 i λi=>θ 60 [(0,b),(1,f),(2,g),(4,h),(5,i)] λb=>ε 62 (υ a) 1 λf=>ι c 60 f b λb c=>Lp (λb c d f=>un c λc _=>κ d .len [26] [x1] λg _=>η .lss 3 c g λg=>aR g (ε 62 (υ a) 1 λg=>ε 60 g 3 λg=>δ d 58 g λg=>ζ 26 x1 c λh=>δ d 3 h λh=>η .add 3 c (φ 1) λi=>ζ 26 x1 i λi=>δ d 3 i λi=>θ 141 [(0,h),(1,i)] λh=>ν d 58 1 [(0,h)] λd h=>κ (M.wl h h.n) .append [58,58] [g,d] λd g=>ε 62 (υ a) 1 λa=>ε 60 a 3 λa=>ι g 58 a d λa d=>η .add 3 c (φ 2) λc=>b [c] a (ψ f (M.low g) d)) (δ d 62 (υ a) λa=>ι d 62 (υ m) a λa b=>ai (ah TE a 62 (υ m)) λc=>R [c,aeR] a (min f b))) [φ 5] b (min d c)))) (jn (λa=>jn (λa=>η .eql 3 x0 (φ 4) λd=>aR d (a [aeR] b (min m.n c)) (η .eql 3 x0 (φ 5) λd=>aR d (a [aeR] b (min m.n c)) (η .eql 3 x0 (φ 8) λd=>a [d] b (min m.n c)))) (λb c d=>un b λb _=>aR b (a [φ 2] c d) (a [φ 1] c d))) (λb c d=>un b λb _=>jn (λa=>η .eql 3 x0 (φ 9) λf=>aR f (a [φ 3] c d) (a [b] c d)) (λb c d=>un b λb _=>κ c .len [26] [x1] λf _=>η .neq 3 f b λb=>aR b (θ 62 [] λa=>ι c 62 (υ m) a λa b=>ai (ah TE a 62 (υ m)) λc=>R [c,aeS] a (min d b)) (ζ 26 x1 (φ 0) λb=>δ c 3 b λb=>ε 62 (υ a) 2 λf=>ι c 3 f b λb c=>jn (λf=>η .eql 3 x0 (φ 4) λg=>aR g (ζ 26 x1 (φ 1) λg=>δ b 3 g λg=>ε 62 (υ a) 5 λa=>ι b 3 a g λa b=>f [] a (ψ d c b)) (f [] b (min d c))) (λ_ b c=>jn (λd=>jn (λa=>η .eql 3 x0 (φ 5) λd=>aR d (a [aeR] b c) (η .eql 3 x0 (φ 8) λd=>a [d] b c)) (λb c f=>un b λb _=>aR b (ζ 26 x1 (φ 1) λb=>δ c 3 b λb=>ε 62 (υ a) 4 λa=>ι c 3 a b λa b=>d [] a (min f b)) (d [] c f))) (λ_ b c=>jn (λd=>η .eql 3 x0 (φ 9) λf=>aR f (ζ 26 x1 (φ 1) λf=>δ b 3 f λf=>ε 62 (υ a) 3 λg=>ι b 3 g f λb f=>ζ 26 x1 (φ 2) λg=>δ b 3 g λg=>ε 62 (υ a) 5 λa=>ι b 3 a g λa b=>d [] a (ψ c f b)) (d [] b c)) (λ_ b c=>δ b 62 (υ a) λa=>ι b 62 (υ m) a λa b=>ai (ah TE a 62 (υ m)) λd=>R [d,aeR] a (min c b)))))))):=by kernel_rfl
theorem F39:dE TE (aL TE X) f39 [x0,x1] m R=ρ m x0 62 λa=>ρ a x1 62 λb=>jn (λc=>ε 62 (υ m) 0 λd=>δ b 3 d λd=>ε 62 (υ a) 0 λf=>δ b 3 f λf=>η .eql 3 d f λd=>aR d (ε 62 (υ m) 2 λd=>δ b 3 d λd=>ε 62 (υ a) 2 λf=>δ b 3 f λf=>η .eql 3 d f λd=>aR d (ε 62 (υ m) 3 λd=>δ b 3 d λd=>ε 62 (υ a) 3 λf=>δ b 3 f λf=>η .eql 3 d f λd=>aR d (ε 62 (υ m) 4 λd=>δ b 3 d λd=>ε 62 (υ a) 4 λf=>δ b 3 f λf=>η .eql 3 d f λd=>aR d (ε 62 (υ m) 5 λd=>δ b 3 d λd=>ε 62 (υ a) 5 λf=>δ b 3 f λf=>η .eql 3 d f λd=>aR d (ε 62 (υ m) 1 λd=>δ b 60 d λd=>ε 62 (υ a) 1 λa=>δ b 60 a λa=>χ X 89 [d,a] b λa b d=>c [a] b (min m.n d)) (c [aeS] b m.n)) (c [aeS] b m.n)) (c [aeS] b m.n)) (c [aeS] b m.n)) (c [aeS] b m.n)) (λa b c=>un a λa _=>R [a] b c):=by kernel_rfl
theorem aap:dE TE (aL TE X) f132 [x0] m R=ρ m x0 62 λa=>jn (λb=>ε 62 (υ m) 0 λc=>δ a 3 c λc=>χ X 177 [c,φ 1,φ 9] a λa c d=>ο .not a λa=>aR a (b [aeR] c (min m.n d)) (ε 62 (υ m) 1 λa=>ε 60 a 3 λa=>δ c 58 a λa=>κ c .len [58] [a] λa _=>η .gtr 3 a (φ 8) λa=>b [a] c (min m.n d))) (λa b c=>un a λa _=>aR a (R [aeS] b c) (ε 62 (υ m) 0 λa=>δ b 3 a λa=>δ b 62 (υ m) λd=>χ X 179 [d] b λd f g=>(b.n<=g)/\(χ X 178 [a,d] f λa b d=>(f.n<=d)/\(ξ a 0 λf=>ξ a 1 λa=>ς b [φ 0,φ 0,φ 0,φ 0,aeQ,φ 0,φ 0,φ 0,φ 0,φ 0,φ 0] 62 λh=>ι h 62 (υ b) f λf h=>jn (λi=>ο .not a λa=>aR a (i [aeR] f (ω c g d h)) (δ f 62 (υ b) λa=>δ f 62 (υ m) λb=>χ X 39 [a,b] f λa b f=>ο .not a λa=>i [a] b (Γ c g d h f))) (λa b c=>un a λa _=>aR a (R [aeS] b c) (ε 62 (υ m) 0 λa=>δ b 3 a λa=>η .eql 3 a (φ 1) λa=>aR a (jn (λa=>ε 62 (υ m) 1 λd=>δ b 60 d λd=>χ X 172 [d] b λb d f=>aR b (ε 62 (υ m) 1 λb=>ε 60 b 1 λb=>δ d 3 b λb=>χ X 177 [b,φ 6,φ 8] d λb d g=>a [b] d (ψ c f g)) (a [aeS] d (min c f))) (λa b c=>un a λa _=>R [a] b c)) (jn (λa=>ε 62 (υ m) 2 λd=>δ b 3 d λd=>χ X 177 [d,φ 0,φ 99] b λb d f=>aR b (ε 62 (υ m) 3 λb=>δ d 3 b λb=>χ X 177 [b,φ 0,φ 99] d λb d g=>aR b (ε 62 (υ m) 4 λb=>δ d 3 b λb=>χ X 177 [b,φ (-2),φ 7] d λb d h=>aR b (ε 62 (υ m) 5 λb=>δ d 3 b λb=>χ X 177 [b,φ 0,φ 7] d λb d i=>aR b (ε 62 (υ m) 0 λb=>δ d 3 b λb=>η .neq 3 b (φ 9) λb=>aR b (a [aeR] d (Γ c f g h i)) (ε 62 (υ m) 2 λb=>δ d 3 b λb=>ε 62 (υ m) 3 λj=>δ d 3 j λj=>η .lss 3 b j λb=>a [b] d (Γ c f g h i))) (a [aeS] d (Γ c f g h i))) (a [aeS] d (ω c f g h))) (a [aeS] d (ψ c f g))) (a [aeS] d (min c f))) (λa b c=>un a λa _=>R [a] b c)))))))):=by kernel_rfl
theorem F71:dE TE (aL TE X) f71 [x0,x1] m R=ρ m x0 33 λa=>ς a [φ 0,φ 0,φ 0,aeQ,φ 0,φ 0] 60 λb=>Lp (λb c d f=>un c λc g=>un g λg _=>ε 33 (υ m) 0 λh=>ε 30 h 0 λh=>δ d 28 h λh=>κ d .len [28] [h] λh _=>η .lss 3 g h λh=>aR h (ε 33 (υ m) 0 λh=>ε 30 h 0 λh=>δ d 28 h λh=>ζ 28 h g λh=>ε 60 h 0 λh=>δ d 3 h λh=>η .eql 3 h x1 λh=>aR h (ε 33 (υ m) 0 λb=>ε 30 b 0 λb=>δ d 28 b λb=>ζ 28 b g λb=>δ d 60 b λb=>ι d 60 (υ a) b λb c=>ai (ah TE b 60 (υ a)) λa=>R [a,aeR] b (min f c)) (η .add 3 g (φ 1) λa=>b [c,a] d f)) (θ 60 [] λb=>ι d 60 (υ a) b λb c=>ai (ah TE b 60 (υ a)) λa=>R [a,aeS] b (min f c))) [aeS,φ 0] b m.n:=by kernel_rfl
theorem Z0:dE TE (aL TE X) f180 [x0,x1] m R=ρ m x0 38 λa=>Lp (λa b c d=>un b λb f=>un f λf _=>ε 38 (υ m) 1 λg=>δ c 34 g λg=>κ c .len [34] [g] λg _=>η .lss 3 f g λg=>aR g (ε 38 (υ m) 1 λg=>δ c 34 g λg=>ζ 34 g f λg=>ε 113 g 0 λg=>ε 60 g 0 λg=>δ c 3 g λg=>η .eql 3 g x1 λg=>aR g (R [f] c d) (η .add 3 f (φ 1) λf=>a [b,f] c d)) (R [φ (-1)] c d)) [φ 0,φ 0] a m.n:=by kernel_rfl
theorem F73:dE TE (aL TE X) f73 [x0,x1] m R=ρ m x0 53 λa=>ρ a x1 53 λb=>jn (λc=>ε 53 (υ m) 0 λd=>δ b 3 d λd=>ε 53 (υ a) 0 λf=>δ b 3 f λf=>η .lss 3 d f λd=>aR d (c [aeR] b m.n) (ε 53 (υ m) 0 λd=>δ b 3 d λd=>ε 53 (υ a) 0 λf=>δ b 3 f λf=>η .eql 3 d f λd=>aR d (ε 53 (υ m) 1 λd=>δ b 3 d λd=>ε 53 (υ a) 1 λa=>δ b 3 a λa=>η .lss 3 d a λa=>c [a] b m.n) (c [aeS] b m.n))) (λa b c=>un a λa _=>R [a] b c):=by kernel_rfl
theorem aaq:dE TE (aL TE X) f131 [x0] m R=ρ m x0 38 λa=>jn (λb=>ε 38 (υ m) 0 λc=>δ a 33 c λc=>χ X 176 [c] a λa c d=>ο .not a λa=>aR a (b [aeR] c (min m.n d)) (ε 38 (υ m) 1 λa=>δ c 34 a λa=>κ c .len [34] [a] λa _=>η .gtr 3 a (φ 12) λa=>aR a (b [aeR] c (min m.n d)) (ε 38 (υ m) 2 λa=>δ c 35 a λa=>κ c .len [35] [a] λa _=>η .gtr 3 a (φ 60) λa=>aR a (b [aeR] c (min m.n d)) (ε 38 (υ m) 3 λa=>δ c 36 a λa=>κ c .len [36] [a] λa _=>η .gtr 3 a (φ 20) λa=>b [a] c (min m.n d))))) (λa b c=>un a λa _=>aR a (R [aeS] b c) (ν b 31 0 [] λa b=>ε 38 (υ m) 0 λd=>ε 33 d 1 λd=>δ b 31 d λd=>κ (M.wl b b.n) .append [31,31] [a,d] λa b=>Lp (λa b c d=>un b λb f=>un f λf g=>un g λg _=>ε 38 (υ m) 1 λh=>δ c 34 h λh=>κ c .len [34] [h] λh _=>η .lss 3 g h λh=>aR h (ε 38 (υ m) 1 λh=>δ c 34 h λh=>ζ 34 h g λh=>δ c 113 h λh=>ς c [φ 0,φ 0,φ 0,aeQ,φ 0,φ 0,aeQ] 113 λi=>ι i 113 (υ c) h λh i=>ε 38 (υ m) 0 λj=>δ h 33 j λj=>ε 113 (υ c) 0 λk=>ε 60 k 0 λk=>δ h 3 k λk=>χ X 71 [j,k] h λh j k=>ξ h 0 λl=>ξ h 1 λh=>ς j [φ 0,φ 0,φ 0,aeQ,φ 0,φ 0] 60 λn=>ι n 60 (υ j) l λj l=>jn (λa=>aR h (a [aeR] j (ω d i k l)) (η .gtr 3 g (φ 0) λb=>aR b (ε 113 (υ c) 0 λb=>ε 60 b 0 λb=>δ j 3 b λb=>ε 38 (υ m) 1 λf=>δ j 34 f λf=>η .sub 3 g (φ 1) λg=>ζ 34 f g λf=>ε 113 f 0 λf=>ε 60 f 0 λf=>δ j 3 f λf=>η .leq 3 b f λb=>aR b (a [aeR] j (ω d i k l)) (ε 113 (υ c) 0 λb=>δ j 60 b λb=>ν j 28 1 [(0,b)] λb f=>θ 30 [(0,b)] λb=>ε 113 (υ c) 1 λc=>δ f 31 c λc=>θ 33 [(0,b),(1,c)] λb=>χ X 176 [b] f λb c f=>ο .not b λb=>a [b] c (Γ d i k l f))) (ε 113 (υ c) 0 λb=>δ j 60 b λb=>ν j 28 1 [(0,b)] λb f=>θ 30 [(0,b)] λb=>ε 113 (υ c) 1 λc=>δ f 31 c λc=>θ 33 [(0,b),(1,c)] λb=>χ X 176 [b] f λb c f=>ο .not b λb=>a [b] c (Γ d i k l f)))) (λd h i=>un d λd _=>aR d (R [aeS] h i) (ε 113 (υ c) 1 λc=>δ h 31 c λc=>κ (M.wl h h.n) .append [31,31] [f,c] λc d=>η .add 3 g (φ 1) λf=>a [b,c,f] d (min i (M.low d))))) (Lp (λa b c d=>un b λb g=>un g λg _=>κ c .len [31] [f] λh _=>η .lss 3 g h λh=>aR h (Lp (λb c d h=>un c λc i=>un i λi _=>η .lss 3 i g λj=>aR j (ζ 31 f g λa=>ε 137 a 0 λa=>δ d 3 a λa=>ζ 31 f i λf=>ε 137 f 0 λf=>δ d 3 f λf=>η .eql 3 a f λa=>aR a (R [aeS] d h) (η .add 3 i (φ 1) λa=>b [c,a] d h)) (η .add 3 g (φ 1) λb=>a [c,b] d h)) [b,φ 0] c d) (κ c .len [31] [f] λa _=>η .gtr 3 a (φ 20) λa=>aR a (R [aeS] c d) (Lp (λa b c d=>un b λb f=>un f λf _=>ε 38 (υ m) 2 λg=>δ c 35 g λg=>κ c .len [35] [g] λg _=>η .lss 3 f g λg=>aR g (ε 38 (υ m) 2 λg=>δ c 35 g λg=>ζ 35 g f λg=>δ c 53 g λg=>ς c [φ 0,φ 0] 53 λh=>ι h 53 (υ c) g λg h=>jn (λa=>ε 53 (υ c) 0 λb=>δ g 3 b λb=>χ X 177 [b,φ 0,φ 99] g λb g i=>ο .not b λb=>aR b (a [aeR] g (ψ d h i)) (ε 53 (υ c) 1 λb=>δ g 3 b λb=>χ X 177 [b,φ (-2),φ 7] g λb g j=>ο .not b λb=>aR b (a [aeR] g (ω d h i j)) (η .gtr 3 f (φ 0) λb=>aR b (ε 38 (υ m) 2 λb=>δ g 35 b λb=>η .sub 3 f (φ 1) λf=>ζ 35 b f λb=>δ g 53 b λb=>δ g 53 (υ c) λc=>χ X 73 [b,c] g λb c f=>ο .not b λb=>a [b] c (Γ d h i j f)) (a [aeS] g (ω d h i j))))) (λc d g=>un c λc _=>aR c (R [aeS] d g) (η .add 3 f (φ 1) λc=>a [b,c] d g))) (Lp (λa b c d=>un b λb f=>un f λf _=>ε 38 (υ m) 3 λg=>δ c 36 g λg=>κ c .len [36] [g] λg _=>η .lss 3 f g λg=>aR g (ε 38 (υ m) 3 λg=>δ c 36 g λg=>ζ 36 g f λg=>δ c 109 g λg=>ς c [φ 0,φ 0,φ 0] 109 λh=>ι h 109 (υ c) g λg h=>jn (λa=>ε 109 (υ c) 0 λb=>δ g 3 b λb=>χ X 177 [b,φ 0,φ 99] g λb f g=>ο .not b λb=>aR b (a [aeR] f (ψ d h g)) (ε 109 (υ c) 1 λb=>δ f 3 b λb=>χ X 177 [b,φ 0,φ 99] f λb f i=>ο .not b λb=>aR b (a [aeR] f (ω d h g i)) (ε 109 (υ c) 0 λb=>δ f 3 b λb=>ε 109 (υ c) 1 λj=>δ f 3 j λj=>η .geq 3 b j λb=>aR b (a [aeR] f (ω d h g i)) (ε 109 (υ c) 2 λb=>δ f 3 b λb=>χ X 177 [b,φ 0,φ 7] f λb c f=>ο .not b λb=>a [b] c (Γ d h g i f))))) (λd g h=>un d λd _=>aR d (R [aeS] g h) (jn (λa=>η .gtr 3 f (φ 0) λb=>aR b (ε 109 (υ c) 0 λb=>δ g 3 b λb=>ε 38 (υ m) 3 λd=>δ g 36 d λd=>η .sub 3 f (φ 1) λi=>ζ 36 d i λd=>ε 109 d 0 λd=>δ g 3 d λd=>η .lss 3 b d λb=>aR b (a [aeR] g h) (ε 109 (υ c) 0 λb=>δ g 3 b λb=>ε 38 (υ m) 3 λd=>δ g 36 d λd=>η .sub 3 f (φ 1) λi=>ζ 36 d i λd=>ε 109 d 0 λd=>δ g 3 d λd=>η .eql 3 b d λb=>aR b (ε 109 (υ c) 1 λb=>δ g 3 b λb=>ε 38 (υ m) 3 λc=>δ g 36 c λc=>η .sub 3 f (φ 1) λd=>ζ 36 c d λc=>ε 109 c 1 λc=>δ g 3 c λc=>η .leq 3 b c λb=>a [b] g h) (a [aeS] g h))) (a [aeS] g h)) (λc d g=>un c λc _=>aR c (R [aeS] d g) (η .add 3 f (φ 1) λc=>a [b,c] d g))))) (R [aeR] c d)) [b,φ 0] c d)) [b,φ 0] c d))) [b,φ 0] c d)) [aeS,a,φ 0] b (min c (M.low b)))):=by kernel_rfl
theorem ZD:dE TE (aL TE X) f225 [x0] m R=ς m [φ 0,φ 0,φ 0,φ 0,φ 0] 298 λa=>θ 298 [(0,(φ 9)),(1,(φ 3)),(2,(φ 9)),(3,(φ 1))] λb=>θ 298 [(0,(φ 8)),(1,(φ 3)),(2,(φ 6)),(3,(φ 4)),(4,(φ 1))] λc=>θ 298 [(0,(φ 7)),(1,(φ 3)),(2,(φ 5)),(3,(φ 5)),(4,(φ 1))] λd=>θ 298 [(0,(φ 6)),(1,(φ 3)),(2,(φ 4)),(3,(φ 6)),(4,(φ 3))] λf=>θ 298 [(0,(φ 3)),(1,(φ 2)),(2,(φ 5)),(3,(φ 3))] λg=>θ 298 [(0,(φ 5)),(1,(φ 2)),(2,(φ 2)),(3,(φ 7)),(4,(φ 1))] λh=>θ 298 [(0,(φ 8)),(1,(φ 3)),(2,(φ 8)),(3,(φ 1)),(4,(φ 4))] λi=>θ 298 [(0,(φ 10)),(1,(φ 1)),(2,(φ 9))] λj=>ν a 344 8 [(0,b),(1,c),(2,d),(3,f),(4,g),(5,h),(6,i),(7,j)] λa b=>jn (λa=>η .lss 3 x0 (φ 0) λc=>aR c (a [aeR] b m.n) (η .gtr 3 x0 (φ 7) λc=>a [c] b m.n)) (λb c d=>un b λb _=>aR b (θ 298 [] λa=>ι c 298 (υ m) a λa b=>ai (ah TE a 298 (υ m)) λc=>R [c,φ 80] a (min d b)) (ζ 344 a x0 λa=>δ c 298 a λa=>ι c 298 (υ m) a λa b=>ai (ah TE a 298 (υ m)) λc=>R [c,φ 0] a (min d b))):=by kernel_rfl
theorem ZZ:dE TE (aL TE X) f181 [x0,x1] m R=χ X 225 [x0] m λa b c=>ξ a 0 λd=>ξ a 1 λa=>ς b [φ 0,φ 0,φ 0,φ 0,φ 0] 298 λf=>ι f 298 (υ b) d λd f=>χ X 225 [x1] d λd g h=>ξ d 0 λi=>ξ d 1 λd=>ς g [φ 0,φ 0,φ 0,φ 0,φ 0] 298 λj=>ι j 298 (υ g) i λi j=>jn (λk=>η .eql 46 a (φ 0) λa=>aR a (η .eql 46 d (φ 0) λa=>aR a (ε 298 (υ b) 2 λa=>δ i 3 a λa=>ε 298 (υ g) 2 λd=>δ i 3 d λd=>η .add 3 d (φ 1) λd=>η .leq 3 a d λa=>aR a (ε 298 (υ b) 3 λa=>δ i 3 a λa=>η .add 3 a (φ 1) λa=>ε 298 (υ g) 3 λd=>δ i 3 d λd=>η .geq 3 a d λa=>aR a (ε 298 (υ b) 4 λa=>δ i 3 a λa=>ε 298 (υ g) 4 λb=>δ i 3 b λb=>η .add 3 b (φ 1) λb=>η .leq 3 a b λa=>k [a] i (Γ m.n c f h j)) (k [aeS] i (Γ m.n c f h j))) (k [aeS] i (Γ m.n c f h j))) (k [aeS] i (Γ m.n c f h j))) (k [aeS] i (Γ m.n c f h j))) (λa b c=>un a λa _=>R [a] b c):=by kernel_rfl
theorem ZX:dE TE (aL TE X) f183 [x0,x1] m R=χ X 225 [x0] m λa b c=>ξ a 0 λd=>ξ a 1 λa=>ς b [φ 0,φ 0,φ 0,φ 0,φ 0] 298 λf=>ι f 298 (υ b) d λd f=>χ X 225 [x1] d λd g h=>ξ d 0 λi=>ξ d 1 λd=>ς g [φ 0,φ 0,φ 0,φ 0,φ 0] 298 λj=>ι j 298 (υ g) i λi j=>jn (λk=>η .eql 46 a (φ 0) λa=>aR a (η .eql 46 d (φ 0) λa=>aR a (ε 298 (υ b) 2 λa=>δ i 3 a λa=>ε 298 (υ g) 2 λd=>δ i 3 d λd=>η .leq 3 a d λa=>aR a (ε 298 (υ b) 3 λa=>δ i 3 a λa=>ε 298 (υ g) 3 λd=>δ i 3 d λd=>η .geq 3 a d λa=>aR a (ε 298 (υ b) 4 λa=>δ i 3 a λa=>ε 298 (υ g) 4 λb=>δ i 3 b λb=>η .add 3 b (φ 1) λb=>η .leq 3 a b λa=>k [a] i (Γ m.n c f h j)) (k [aeS] i (Γ m.n c f h j))) (k [aeS] i (Γ m.n c f h j))) (k [aeS] i (Γ m.n c f h j))) (k [aeS] i (Γ m.n c f h j))) (λa b c=>un a λa _=>R [a] b c):=by kernel_rfl
theorem ZY:dE TE (aL TE X) f182 [x0,x1,x2] m R=ρ m x0 33 λa=>δ a 33 (υ m) λb=>χ X 71 [b,x1] a λa b c=>ξ a 0 λd=>ξ a 1 λa=>ς b [φ 0,φ 0,φ 0,aeQ,φ 0,φ 0] 60 λf=>ι f 60 (υ b) d λd f=>jn (λg=>aR a (η .eql 3 x2 (φ (-1)) λa=>aR a (g [aeR] d (ψ m.n c f)) (η .eql 3 x2 (φ (-2)) λa=>aR a (g [aeR] d (ψ m.n c f)) (η .geq 3 x2 (φ 0) λa=>aR a (ε 60 (υ b) 3 λa=>δ d 58 a λa=>κ d .len [58] [a] λa _=>η .lss 3 x2 a λa=>g [a] d (ψ m.n c f)) (g [aeS] d (ψ m.n c f))))) (g [aeS] d (ψ m.n c f))) (λa b c=>un a λa _=>R [a] b c):=by kernel_rfl
theorem F72:dE TE (aL TE X) f72 [x0,x1] m R=ρ m x0 38 λa=>ρ a x1 53 λb=>Lp (λb c d f=>un c λc g=>un g λg _=>ε 38 (υ m) 2 λh=>δ d 35 h λh=>κ d .len [35] [h] λh _=>η .lss 3 g h λh=>aR h (ε 38 (υ m) 2 λh=>δ d 35 h λh=>ζ 35 h g λh=>δ d 53 h λh=>δ d 53 (υ a) λa=>η .eql 53 h a λa=>aR a (R [aeR] d f) (η .add 3 g (φ 1) λa=>b [c,a] d f)) (R [aeS] d f)) [aeS,φ 0] b m.n:=by kernel_rfl
end
end
section
variable {X:aK} {m:M}
section
variable {α:Type} [aZ α] {T:TypeId}
def Ap(n1:Nat)(m:M)(l:List α)(v:aeM):Prop:=Ow n1 m l v\/∃b cs H,v=.slice (some ⟨b,0,none⟩) l.length l.length/\m.get b=.cells cs H none/\Sl m l v
theorem Ap.sl{n1:Nat}{l:List α}{v:aeM}(h:Ap n1 m l v):Sl m l v:=by
 rcases h with h |⟨_,_,_,_,_,h⟩;·exact h.sl
 exact h
theorem Ap.aF{n1:Nat}{l:List α}{v:aeM}{m':M}(h:Ap n1 m l v)(H:Ext m m'):Ap n1 m' l v:=by
 rcases h with h |⟨b,cs,te,h1,h2,h3⟩;·exact .inl (h.aF H)
 exact .inr ⟨b,cs,te,h1,H.cells h2,h3.aF H⟩
theorem Ap.append(hT:ur TE T α)(a0:aZ.eB α=[]){n1:Nat}{l ys:List α}{v y:aeM}(h:Ap n1 m l v)(hy:Sl m ys y)(H:ys≠ [])(hn:n1<=m.n)(hs:l.length+ys.length<=1000000):
  ∃v' m1,aw TE (m.wl m.n) .append [T,T] [v,y]=some (v',m1)/\Ow n1 m1 (l++ys) v'/\m.n<=m1.n/\n1<=m1.low/\∀c,c < n1->m1.get c=m.get c:=by
 have hlen:=aev.2 H;rcases h with h |⟨b,cs,te,rfl,h2,h3⟩
 ·obtain⟨v',m1,e1,ho,hf,hl,_⟩:=h.append hT (by grind) hy hn (by omega);exact⟨v',m1,e1,ho,hf.n,hl,λc hc=>hf.get c hc⟩
 obtain⟨v',m1,e1,ho,hx,hl⟩:=wF hT h2 (.inl rfl) h3 hy (by omega) (by omega);exact⟨v',m1,e1,ho.mono hn,hx.n,by omega,λc hc=>hx.get c (by omega)⟩
end
theorem nA{l:List Int}{b:Nat}{g:Option Nat}(h:m.get b=.cells (l.map (.int .i64)) 3 g):Sl m l (aeL b 0 l.length l.length):=
 .inr ⟨b,0,l.length,_,g,rfl,h,by rw[abH];show 0+l.length*1<=_;omega,λi x hi=>by
  show((l.map (Value.int .i64)).drop (0+i*1)).take 1=[aeP x]
  have H:=(aa9.1 hi).1
  rw[abV,Nat.mul_one,ab1 (by grind),acf,acF,List.getElem_map,(aa9.1 hi).2]⟩
theorem Nd{α:Type}[aZ α]{l:List α}{a:Addr}{n k:Nat}{m':M}{lo:Nat}{P:Prop}(h:Sl m' l (.slice (some a) n k))(H:m.n<=lo)(hx:Ext m m'):
  P\/((bB (bC [Value.slice (some a) n k])=false\/lo < m.n)/\(min m.n lo=m.n/\Ext m m'/\Sl m' l (.slice (some a) n k))):=.inr ⟨.inl rfl,by omega,hx,h⟩
theorem iK(hX:cC X)(n lo hi:Int):C X (.func 177) [aeP n,aeP lo,aeP hi] m m.n (.bool (cQ n lo hi)) m:=by
 refine Cl.cd (hX.no _ rfl) (aa3 func177) rfl rfl ?_;rw[Z3];dsimp only[η];refine aW (λvs m2 H=>vs=[.bool (cQ n lo hi)]/\m.n<=H) (λR hR=>?_) ?_
 ·simp only[cp,cB,ae,aj];refine ak (λh=>hR _ _ _ ⟨by simp[cQ,h],aa4 _⟩) (λh=>hR _ _ _ ⟨by simp[cQ,h],aa4 _⟩)
 rintro _ m2 H ⟨rfl,hl⟩;rw[aB];exact⟨rfl,hl⟩
theorem On{a:Int}:aG TE m 26 1 [(0,.int .i64 a)]=some (.slice (some ⟨m.n,0,none⟩) 1 1,m.push (.cells ([a].map (.int .i64)) 3 none)):=by kernel_rfl
theorem mZ{a b:Int}:aG TE m 26 2 [(0,.int .i64 a),(1,.int .i64 b)]=some (.slice (some ⟨m.n,0,none⟩) 2 2,m.push (.cells ([a,b].map (.int .i64)) 3 none)):=by kernel_rfl
theorem Ej{a b c:Int}:aG TE m 26 3 [(0,.int .i64 a),(1,.int .i64 b),(2,.int .i64 c)]=some (.slice (some ⟨m.n,0,none⟩) 3 3,m.push (.cells ([a,b,c].map (.int .i64)) 3 none)):=by kernel_rfl
theorem Om{a b c d e:Int}:aG TE m 26 5 [(0,.int .i64 a),(1,.int .i64 b),(2,.int .i64 c),(3,.int .i64 d),(4,.int .i64 e)]=some (.slice (some ⟨m.n,0,none⟩) 5 5,m.push (.cells ([a,b,c,d,e].map (.int .i64)) 3 none)):=by kernel_rfl
theorem Ce(hX:cC X){t:Tk}{w:aeM}(hw:Sl m t.un.shape w)(hl:t.un.shape.length < 100000):
  ∃r m',C X (.func 179) [t.v w] m m.n r m'/\Ext m m'/\Sl m' (fN t) r:=by
 have key:=Cl.iX (E:=TE) (X:=X) (f:=179) (args:=[t.v w]) (m:=m) (R:=λrv m' b=>b=m.n/\Ext m m'/\Sl m' (fN t) rv) (hX.no _ rfl) (aa3 func179) rfl ?_
 ·obtain⟨rv,m',b,hc,rfl,h⟩:=key;exact⟨rv,m',hc,h⟩
 rw[Z1];dsimp only[aL,aaO,aaP,aaQ,aaR,aaU,aaV,aaY,aa0,aa1];refine av λm1 F0 z0 A0=>?_;have g1:m1.get m.n=.cells (t.c w) 62 none:=z0;have h0:Ext m m1:=⟨by omega,A0⟩
 have⟨tk,tid,Lx,p0,q0⟩:=oK g1;obtain⟨u0,u1,u2, -,u4,u5⟩:=vM g1;unfold ptrTo;simp only[cz,dI,ck,cG,cF,dk,bs,cM,cL,bH,cK,cJ,ae];simp only[tk,u0,u1,u2,u4,u5,ae,aS,aj];refine ak (λc=>?_) (λc=>?_)
 ·have k1:t.kind=1:=aba c;rw[Om,aA];have e0:fN t=[t.un.id,t.un.kind,t.un.dA,t.un.back,t.un.front]++t.un.shape.flatMap λp=> [p.x,p.y]:=by unfold fN;rw[abe k1]
  obtain⟨m2,a0⟩:∃x,x=m1.push (.cells ([t.un.id,t.un.kind,t.un.dA,t.un.back,t.un.front].map (.int .i64)) 3 none):=⟨_,rfl⟩
  rw[<-a0];have G0:m2.n=m1.n+1:=by rw[a0];exact M.mr
  have i0:m2.get m1.n=.cells ([t.un.id,t.un.kind,t.un.dA,t.un.back,t.un.front].map (.int .i64)) 3 none:=by rw[a0];exact M.aU
  have B0:Ext m1 m2:=a0 ▸ Ext.refl.push;have H0:Ap m1.n m2 [t.un.id,t.un.kind,t.un.dA,t.un.back,t.un.front] (aeL m1.n 0 5 5):=.inr ⟨m1.n,_,_,rfl,i0,nA i0⟩;clear a0 i0;refine Lp.intro (γ:=Nat) (λi=>t.un.shape.length-i) (λi vs H lo=>∃r,vs=[r,aeP i]/\i<=t.un.shape.length/\Ext m1 H/\m.n<=lo/\Ap m1.n H ([t.un.id,t.un.kind,t.un.dA,t.un.back,t.un.front]++(t.un.shape.take i).flatMap λp=> [p.x,p.y]) r) 0 ⟨_,rfl,abh _,B0,by omega,by grind⟩ ?_;rintro i vs H lo ⟨r,rfl,hi,d0,j0,ho⟩;have nm:=d0.n;have r0:=(hw.aF h0).aF d0;obtain⟨-, -, -,v3, -, -⟩:=vM (d0.cells g1);rw[aB,aB,v3,ae,r0.len cx,aA,aM,ae,aj];refine ak (λs0=>?_) (λC0=>?_)
  ·have s0:i < t.un.shape.length:=by grind
   obtain⟨p,hp⟩:∃p,t.un.shape[i]?=some p:=⟨_,aa5 s0⟩
   have⟨b0,o0,bc,g0,cs,e1,v0,k0,_,y0⟩:=r0.gM cx (k:=.i64) hp;have k0:cs=p.c:=k0;subst k0;have fl:=tM (t.un.shape.take i);rw[acr]at fl;have lx:ah TE H 3 (aeK b0 (o0+0))=some (aeP p.x):=by rw[bI,aI v0,y0 0 (by decide)];rfl
   have ly:ah TE H 3 (aeK b0 (o0+1))=some (aeP p.y):=by rw[bI,aI v0,y0 1 (by decide)];rfl
   rw[ae,e1,ae,bY,ae,lx,ae,ae,e1,ae,cO,ae,ly,ae,mZ,aA];obtain⟨m3,l0⟩:∃x,x=H.push (.cells ([p.x,p.y].map (.int .i64)) 3 none):=⟨_,rfl⟩
   rw[<-l0];have n0:Ext H m3:=l0 ▸ Ext.refl.push;have D0:m3.get H.n=.cells ([p.x,p.y].map (.int .i64)) 3 none:=by rw[l0];exact M.aU
   have n3:=n0.n;obtain⟨r',m5,q1,q2,q3,q4,q5⟩:=(ho.aF n0).append Sm rfl (nA D0) (by simp) (by omega) (by grind);have q1:aw TE (M.wl m3 (M.n m3)) .append [26,26] [r,aeL H.n 0 2 2]=some (r',m5):=q1;rw[q1,aA,aQ,ae,wrap64 (by omega) (by omega)];refine⟨i+1,by omega,r',rfl,by omega,⟨by omega,λc hc=>by rw[q5 c hc,n0.get c (by omega),d0.get c hc]⟩,by omega,.inl ?_⟩;rw[abt,hp,acG,<-abL];exact q2
  ·have E0:i=t.un.shape.length:=by
    have:¬(i:Int)< (t.un.shape.length:Int):=aa6 C0
    omega
   subst E0
   rw[abR]at ho
   have hs:=ho.sl
   rw[<-e0]at hs
   obtain⟨a,k,rfl⟩:=hs.form
   cases a with
   |none=>
    rcases hs with⟨h,_⟩ |⟨b,o,c,bc,g,h,_⟩;·rw[e0]at h;simp at h
    cases h
   |some a=>exact Nd hs j0 (h0.trans d0)
 have k1:t.kind≠1:=aa6 c
 have fin:∀{l:List Int} {k:Nat},fN t=l->l.length=k->∀{m2:M},m2=m1.push (.cells (l.map (.int .i64)) 3 none)->∀{lo:Nat},m.n<=lo->∀{Q:Prop},Q->
   (bB (bC [Value.slice (some ⟨m1.n,0,none⟩) k k])/\m.n<=lo/\(Q/\Ext m m/\Sl m (fN t) (aeL m1.n 0 k k)))\/((bB (bC [Value.slice (some ⟨m1.n,0,none⟩) k k])=false\/lo < m.n)/\(min m.n lo=m.n/\Ext m m2/\Sl m2 (fN t) (aeL m1.n 0 k k))):=by
  rintro l k e rfl m2 rfl lo j0 Q -
  rw[e]
  exact Nd (nA M.aU) j0 (h0.trans Ext.refl.push)
 refine aW (λvs H lo=>vs=[.bool (decide (t.kind=2\/t.kind=3\/t.kind=6\/t.kind=7))]/\m1=H/\lo=m.n) (λQ hQ=>?_) ?_
 ·refine ak (λc=>hQ _ _ _ ⟨by grind,rfl,rfl⟩) (λc2=>?_)
  refine ak (λc=>hQ _ _ _ ⟨by grind,rfl,rfl⟩) (λc3=>?_)
  refine ak (λc=>hQ _ _ _ ⟨by grind,rfl,rfl⟩) (λc6=>hQ _ _ _ ⟨?_,rfl,rfl⟩)
  have c2:=aa6 c2
  have c3:=aa6 c3
  have c6:=aa6 c6
  congr 2
  rw[decide_eq_decide]
  omega
 rintro _ _ _ ⟨rfl,rfl,rfl⟩;simp only[tid,Lx,p0,q0,ae];rw[aB,aj];refine ak (λc=>?_) (λc=>?_)
 ·rw[On,aA];exact fin (l:=[t.id]) (by unfold fN;rw[abd k1,abe (aba c)]) rfl rfl (aa4 _) (by grind)
 have c2:=aa6 c;refine ak (λc=>?_) (λc=>?_)
 ·rw[mZ,aA];exact fin (l:=[t.id,t.dA]) (by unfold fN;rw[abd k1,abd c2,abe (aba c)]) rfl rfl (aa4 _) (by grind)
 have c4:=aa6 c;refine aW (λvs H lo=>vs=[.bool (decide (t.kind=5\/t.kind=8))]/\m1=H/\lo=m.n) (λQ hQ=>?_) ?_
 ·refine ak (λc=>hQ _ _ _ ⟨by grind,rfl,rfl⟩) (λc5=>hQ _ _ _ ⟨?_,rfl,rfl⟩)
  have c5:=aa6 c5
  congr 2
  rw[decide_eq_decide]
  omega
 rintro _ _ _ ⟨rfl,rfl,rfl⟩;simp only[tid,Lx,p0,q0,ae];rw[aB,aj];refine ak (λc=>?_) (λc=>?_)
 ·rw[mZ,aA];exact fin (l:=[t.id,t.side]) (by unfold fN;rw[abd k1,abd c2,abd c4,abe (aba c)]) rfl rfl (aa4 _) (by grind)
 have c5:=aa6 c;refine ak (λc=>?_) (λc=>?_)
 ·rw[Ej,aA];exact fin (l:=[t.id,t.other,t.dA]) (by unfold fN;rw[abd k1,abd c2,abd c4,abd c5,abe (aba c)]) rfl rfl (aa4 _) (by grind)
 have c9:=aa6 c;have e:fN t=[]:=by unfold fN;rw[abd k1,abd c2,abd c4,abd c5,abd c9]
 rw[e];exact .inl ⟨rfl,aa4 _,by grind,.refl,.nil⟩
end
end Go.Proofs.YtigpcbodmjjaiaaGreatDoor
