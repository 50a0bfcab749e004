/- works.Formed, at formed tasks. -/
import Derived.Test.YtigpcbodmjjaiaaGreatDoorG9J
set_option maxRecDepth 100000
namespace Go.Proofs.YtigpcbodmjjaiaaGreatDoor
open Go Go.D Go.Proofs.Tryz
section
variable {X:aM} {m:M}
abbrev tx(k:Int):aet:=Tk.c ⟨k,⟨0,0,0,[],0,0⟩,0,0,0,0⟩ (.slice none 0 0)
def oY(cs:aet)(l:List (Nat×Int)):aet:=l.foldl (λcs p=>cs.set p.1 (.int .i64 p.2)) cs
theorem Ar:∀(l:List (Nat×Int)) (cs:aet),(oY cs l).length=cs.length
 |[],_=>rfl
 |p::l,cs=>by show(oY (cs.set p.1 _) l).length=_;rw[Ar l,List.length_set]
theorem Bh(u:Un)(h:eS u)(H:u.id=0):u=⟨0,0,0,[],0,0⟩:=by
 have⟨a,b,c,d,e,f⟩:=u
 unfold eS at h
 grind
theorem HE{t:Tk}(h:dI t)(k:t.kind=1):jF t.un/\cW t.un.kind 6 8/\t.id=0/\t.other=0/\t.side=0/\t.dA=0:=by
 unfold dI at h
 grind
theorem HD{t:Tk}(h:dI t)(k:t.kind≠1):t.un=⟨0,0,0,[],0,0⟩/\cW t.id 0 99/\cW t.other 0 99/\cW t.side (-2) 7/\cW t.dA 0 7/\(t.kind=9->t.id < t.other)/\
  oY (tx t.kind) (jv t)=Tk.c t aew:=by
 have hk:=rj h;unfold dI at h;rw[aa4 k]at h;have h0:cW 0 0 99:=by decide
 have h1:cW 0 (-2) 7:=by decide
 have h2:cW 0 0 7:=by decide
 have⟨kd,un,id,ot,sd,mt⟩:=t;simp only[]at h k hk;split at h
 ·rename_i c;simp only[aa3,abm]at h;obtain⟨⟨⟨⟨⟨H,e2⟩,e3⟩,rfl⟩,rfl⟩,rfl⟩:=h;have:=Bh un H e2;subst this;refine⟨rfl,e3,h0,h1,h2,λe=>?_,?_⟩
  ·grind
  unfold jv;simp only[];rw[aa4 k,jz,jz,jz];rfl
 split at h
 ·rename_i c;simp only[aa3,abm]at h;obtain⟨⟨⟨⟨⟨H,e2⟩,e3⟩,rfl⟩,rfl⟩,e4⟩:=h;have:=Bh un H e2;subst this;refine⟨rfl,e3,h0,h1,e4,λe=>?_,?_⟩
  ·grind
  unfold jv;simp only[];rw[aa4 k,aa5 c];rfl
 split at h
 ·rename_i c;simp only[aa3,abm]at h;obtain⟨⟨⟨⟨⟨H,e2⟩,e3⟩,rfl⟩,e4⟩,rfl⟩:=h;have:=Bh un H e2;subst this;refine⟨rfl,e3,h0,e4,h2,λe=>?_,?_⟩
  ·grind
  unfold jv;simp only[];rw[aa4 k,jz,aa5 c];rfl
 split at h
 ·rename_i c;simp only[aa3,abm]at h;obtain⟨⟨⟨⟨⟨⟨H,e2⟩,e3⟩,e4⟩,rfl⟩,e5⟩,e6⟩:=h;have:=Bh un H e2;subst this;refine⟨rfl,e3,e4,h1,e5,λ_=>e6,?_⟩;unfold jv;simp only[];rw[aa4 k,jz,jz,aa5 c];rfl
 cases h
theorem Ta{t:Tk}(h:dI t)(k:t.kind=1):oY (tx t.kind) (jv t)=Tk.c {t with un:={t.un with shape:=[]}} aew:=by obtain⟨-, -,H,e2,e3,e4⟩:=HE h k;have⟨kd,un,id,ot,sd,mt⟩:=t;simp only[]at H e2 e3 e4 k;subst H e2 e3 e4 k;rfl
set_option maxHeartbeats 1000000 in
theorem xF(hX:cy X){t:Tk}{w:aes}(hw:Sl m t.un.shape w)(w1:t.un.shape.length < 100000)(hf:dI t=true):C X (.func 51) [t.v w] m m.n aex m:=by
 refine Cl.fG hX (aaU func51) ?_;have p0:=rj hf;rw[F51];dsimp only[δ,ε,ζ,η,θ,ι,κ,ο,ρ,ς,υ,χ,ψ,Δ,ω];refine aw λm1 y1 G0 H0=>?_;have g1:m1.get m.n=.cells (t.c w) 62 none:=G0;have I0:Ext m m1:=⟨by omega,H0⟩
 unfold ptrTo;simp only[cC,dD,cp,cK,cG,dk,cS,bL,ae];rw[(lQ g1).1,ae];refine aH (iq hX) ?_;rw[bE,ae,show cW t.kind 1 9=true by unfold cW;rw[abb p0.1,abb p0.2];rfl,ak];show gG false _ _;have bt:aK TE 62 [(0,.int .i64 t.kind)]=some (Tk.v ⟨t.kind,⟨0,0,0,[],0,0⟩,0,0,0,0⟩ aew):=rB rfl;rw[aT,(lQ g1).1,ae,bt,ae];refine aw λm11 d1 h0 q0=>?_;refine aD nT h0 rfl rfl rfl λm12 h1 i0 r0=>?_;have gP:m12.get m1.n=.cells (tx t.kind) 62 none:=i0;have n0:Ext m1 m12:=⟨by omega,by grind⟩
 have i1:m1.n < m12.n:=by omega
 clear h0 q0 i0 r0;have⟨z1,m15,J0,d0,K0⟩:=AK (m:=m12) hX (n0.cells g1);refine aH J0 ?_;have n15:=d0.n;have⟨v17,m18,L0,e0,o0⟩:=AK (m:=m15) (t:=⟨t.kind,⟨0,0,0,[],0,0⟩,0,0,0,0⟩) hX (d0.cells gP);refine aH L0 ?_;have n18:=e0.n
 have u0:PD m1.n ⟨t.kind,⟨0,0,0,[],0,0⟩,0,0,0,0⟩=PD m1.n t:=by
  unfold PD jv;simp only[];split;·rfl
  split;·rfl
  split;·rfl
  split <;>rfl
 rw[u0]at o0;have N0:=K0.aG e0;have O0:(PD m1.n t).length=(jv t).length:=abK _
 have A1:(jv t).length<=5:=by
  unfold jv;split;·simp
  split;·simp
  split;·simp
  split <;>simp
 rw[o0.len ER,aA,O0];have j0:=e0.cells (d0.cells gP);have g18:=e0.cells (d0.cells (n0.cells g1));have v0:=hw.aG (I0.trans (n0.trans (d0.trans e0)));refine Lp.intro (γ:=Nat) (λi=>(jv t).length-i) (λi vs H lo=>vs=[.int .i64 i]/\i<=(jv t).length/\m.n<=lo/\H.n=m18.n/\H.get m1.n=.cells (oY (tx t.kind) ((jv t).take i)) 62 none/\∀c,c≠m1.n->H.get c=m18.get c) 0 ⟨rfl,aa6 _,by omega,rfl,j0,λ_ _=>rfl⟩ ?_;rintro i vs H lo ⟨rfl,hi,P0,hn,gP,y0⟩;have gT:H.get m.n=.cells (t.c w) 62 none:=by grind
 have kp:∀{l:List IP} {v:aes},Sl m18 l v->Sl H l v:=λh=>h.bs λc cs t' g hc ht=>by
  have ht:t'=195:=by simpa[aZ.ty,aZ.dd]using ht
  subst ht;rw[y0 c (by grind),hc]
 have z0:=kp o0;have A0:=kp N0;rw[aE,aQ,ae,ak];refine av (λc=>?_) (λc=>?_)
 ·have S0:i < (jv t).length:=by grind
  obtain⟨p,hp⟩:∃p,(jv t)[i]?=some p:=⟨_,aaW S0⟩
  have⟨pv,Yu⟩:=Qt (w:=w) (aa2 hp)
  obtain⟨a,cs,e1,e2,e3⟩:=z0.index ER (k:=.i64) (show(PD m1.n t)[i]?=some ⟨m1.n,p.1⟩ by grind)
  obtain rfl:cs=[.pointer (some ⟨m1.n,p.1,none⟩)]:=e3
  have e2:ah TE H 195 a=some (.pointer (some ⟨m1.n,p.1,none⟩)):=e2
  obtain⟨a',cs,e4,e5,e6⟩:=A0.index ER (k:=.i64) (show(PD m.n t)[i]?=some ⟨m.n,p.1⟩ by grind)
  obtain rfl:cs=[.pointer (some ⟨m.n,p.1,none⟩)]:=e6
  have e5:ah TE H 195 a'=some (.pointer (some ⟨m.n,p.1,none⟩)):=e5
  rw[e1,ae,e2,ae,e4,ae,e5,ae,gC,ae,bO,aL gT,pv,ae,gC,ae]
  have k0:(oY (tx t.kind) ((jv t).take i)).length=11:=by rw[Ar];rfl
  refine bY tG gP rfl (by show p.1+1<=_;rw[k0];omega) rfl λB1 j1 B0 k1=>?_
  rw[aS,ae,wrap64]
  refine⟨i+1,by omega,rfl,by omega,by omega,by omega,?_,by grind⟩
  rw[B0]
  congr 1
  rw[abg,hp]
  show(oY (tx t.kind) ((jv t).take i)).take p.1++(Value.int .i64 p.2::(oY (tx t.kind) ((jv t).take i)).drop (p.1+1))=oY (tx t.kind) ((jv t).take i++ [p])
  unfold oY
  rw[adj]
  exact kn (by show p.1 < (oY (tx t.kind) ((jv t).take i)).length;rw[k0];exact Yu)
 obtain rfl:i=(jv t).length:=by have:¬(i:Int)< ((jv t).length:Int):=aaZ c;omega
 rw[abD]at gP;have g0:Sl H t.un.shape w:=mI v0 j0 y0;refine bA (λvs m' lo=>∃w',vs=[]/\m.n<=lo/\m'.get m.n=.cells (t.c w) 62 none/\m'.get m1.n=.cells (t.c w') 62 none/\Sl m' t.un.shape w/\Sl m' t.un.shape w'/\m.n<=m'.n) (λQ hQ=>?_) ?_
 ·rw[(lQ gT).1,ae,aW,ae,ak];refine av (λk=>?_) (λk=>?_)
  ·rw[Ta hf (aa1 k)]at gP;rw[(vd gT).2.2.2.1,ae];refine Mi gP g0.one g0.cells λC1 l1 C0 D0=>?_;have l0:=mI g0 gP D0;exact hQ _ _ _ ⟨w,rfl,by omega,by grind,C0,l0,l0,by omega⟩
  obtain⟨e1, -, -, -, -, -,e2⟩:=HD hf (aaZ k);rw[e2]at gP;exact hQ _ _ _ ⟨_,rfl,P0,gT,gP,g0,by rw[e1];exact .nil,by omega⟩
 rintro _ E0 gh ⟨w',rfl,o1,gT,gP,F0,c1,p1⟩;have⟨a0,a1,a2,a3,a4⟩:=lQ gT;have⟨b0,b1,b2,b3,b4⟩:=lQ gP;refine bA (λvs H lo=>vs=[aey]/\E0=H/\m.n<=lo) (λQ hQ=>?_) ?_
 ·have nt:∀z:Int,(!decide (z=z))=false:=by grind
  simp only[a1,a2,a3,a4,b1,b2,b3,b4,ae,bZ,ak,nt,aT,qS gT,qS gP];refine aH (De hX c1 F0 (by omega)) ?_;rw[bE,ae];exact hQ _ _ _ ⟨rfl,rfl,by omega⟩
 rintro _ _ D1 ⟨rfl,rfl,r1⟩;rw[aE,ak,aT,a0,ae,aW,ae,ak];refine av (λk=>?_) (λk=>?_)
 ·obtain⟨u1,u2, -⟩:=HE hf (aa1 k);refine bA (λvs H lo=>vs=[aex]/\m.n<=lo) (λQ hQ=>?_) ?_
  ·rw[qS gT,ae];refine aH (mB hX F0 (by omega)) ?_;rw[u1,ak,bH,(vd gT).2.1,ae];refine aH (iq hX) ?_;rw[u2];exact hQ _ _ _ ⟨rfl,by omega⟩
  rintro _ H l ⟨rfl,hl⟩;rw[aE];exact⟨rfl,hl⟩
 obtain⟨-,u1,u2,u3,u4,u5, -⟩:=HD hf (aaZ k);refine bA (λvs H lo=>vs=[aex]/\E0=H/\m.n<=lo) (λQ hQ=>?_) ?_
 ·rw[a1,ae];refine aH (iq hX) ?_;rw[u1,ak,bH,a2,ae];refine aH (iq hX) ?_;rw[u2];exact hQ _ _ _ ⟨rfl,rfl,by omega⟩
 rintro _ _ E1 ⟨rfl,rfl,v1⟩;rw[aE];refine bA (λvs H lo=>vs=[aex]/\m.n<=lo) (λQ hQ=>?_) ?_
 ·rw[ak,bH,a3,ae];refine aH (iq hX) ?_;rw[u3,ak,bH,a4,ae];refine aH (iq hX) ?_;rw[u4,ak,bH,a0,ae,bZ,ae,ak];refine av (λc=>hQ _ _ _ ⟨rfl,by omega⟩) (λc=>?_);rw[abj]at c;have:=u5 (aa1 c);rw[a1,ae,a2,ae,aQ,ae,abb this];exact hQ _ _ _ ⟨rfl,by omega⟩
 rintro _ H l ⟨rfl,hl⟩;rw[aE];exact⟨rfl,hl⟩
theorem Td{a b:Int}:EC [a,b]=if a=0 then b else a:=by
 unfold EC
 grind
theorem KX(hX:cy X){x y:KW}(h:x.u.id < y.u.id):C X (.func 99) [x.v,y.v] m m.n (aev (-1)) m:=by
 refine Cl.fG hX (aaU func99) ?_;rw[F99];dsimp only[δ,ε,ρ,υ,ψ];refine aw λm1 d0 H e0=>?_;refine aw λm2 g0 a0 b0=>?_;have g1:m2.get m.n=.cells x.c 113 none:=by rw[b0 _ (by omega)];exact H
 have g2:m2.get m1.n=.cells y.c 113 none:=a0;unfold ptrTo;rw[cz,ae,bD,ae,(DL g1).1,ae,cz,ae,bD,ae,(DL g2).1,ae];refine aH (eh hX _ _) ?_;exact⟨by unfold cZ;rw[aa5 h];rfl,by omega⟩
theorem xG(H:cy X)(x y:Fc):C X (.func 101) [x.v,y.v] m m.n (aev (EC [cZ x.un y.un,cZ x.side y.side])) m:=by
 refine Cl.fG H (aaU func101) ?_;rw[aaB];dsimp only[δ,ε,ν,ρ,υ,ψ,Γ];refine aw λm1 h0 d0 i0=>?_;refine aw λm2 j0 e0 g0=>?_;have g1:m2.get m.n=.cells x.c 53 none:=by rw[g0 _ (by omega)];exact d0
 have g2:m2.get m1.n=.cells y.c 53 none:=e0;obtain⟨a0,a1, -⟩:=oC g1;obtain⟨b0,b1, -⟩:=oC g2;unfold ptrTo;simp only[cT,dm,ae];rw[a0,ae,b0,ae];refine aH (eh H _ _) ⟨aaV _,?_⟩;rw[a1,ae,b1,ae];refine aH (eh H _ _) ?_;rw[mV,aA];obtain⟨m18,hm⟩:∃q,q=m2.push (.cells ([cZ x.un y.un,cZ x.side y.side].map (.int .i64)) 3 none):=⟨_,rfl⟩
 rw[<-hm];have g18:m18.get m2.n=.cells ([cZ x.un y.un,cZ x.side y.side].map (.int .i64)) 3 none:=by rw[hm];exact M.aY
 have n18:m2.n<=m18.n:=by rw[hm];exact acv _
 refine aH (Hd H (nq g18) (by grind)) ?_;exact⟨rfl,by omega⟩
theorem CO(H:cy X)(x y:Mo):C X (.func 103) [x.v,y.v] m m.n (aev (EC [cZ x.a y.a,cZ x.b y.b])) m:=by
 refine Cl.fG H (aaU func103) ?_;rw[aaz];dsimp only[δ,ε,ν,ρ,υ,ψ,Γ];refine aw λm1 h0 d0 i0=>?_;refine aw λm2 j0 e0 g0=>?_;have g1:m2.get m.n=.cells x.c 109 none:=by rw[g0 _ (by omega)];exact d0
 have g2:m2.get m1.n=.cells y.c 109 none:=e0;obtain⟨a0,a1, -⟩:=Nf g1;obtain⟨b0,b1, -⟩:=Nf g2;unfold ptrTo;simp only[dM,eI,ae];rw[a0,ae,b0,ae];refine aH (eh H _ _) ⟨aaV _,?_⟩;rw[a1,ae,b1,ae];refine aH (eh H _ _) ?_;rw[mV,aA];obtain⟨m18,hm⟩:∃q,q=m2.push (.cells ([cZ x.a y.a,cZ x.b y.b].map (.int .i64)) 3 none):=⟨_,rfl⟩
 rw[<-hm];have g18:m18.get m2.n=.cells ([cZ x.a y.a,cZ x.b y.b].map (.int .i64)) 3 none:=by rw[hm];exact M.aY
 have n18:m2.n<=m18.n:=by rw[hm];exact acv _
 refine aH (Hd H (nq g18) (by grind)) ?_;exact⟨rfl,by omega⟩
theorem BP{a b c d:Int}(h:a < c\/a=c/\b < d):EC [cZ a c,cZ b d] < 0:=by
 rw[Td]
 unfold cZ
 grind
abbrev Pd(T t:TypeId)(z:aet)(W:Words)(x0 x1 x2:aes)(m:M)(R:aet->M->Nat->Prop):Prop:=
(W.aR (az TE m .len [T] [x0]) λv1 _=>(W.Lp (λP2 i0 m4 a0=>W.un i0 λv6 r7=>W.un r7 λv8 r9=>(W.aj (aC TE .lss 3 v8 v1) λv10=>(aU v10
(W.aj (an TE T x0 v8) λv11=>(W.aj (ah TE m4 t v11) λv12=>(W.bJ (M.push m4 (.cells z t none)) λm13=>(W.aR (aF TE m13 t (ptrTo (M.n m4)) v12) λm14 d0=>(W.jn (λe0=>(W.aj (ah TE m14 t (ptrTo (M.n m4))) λv20=>(gJ x2 λg21 f22 j0=>(W.bB g21 (f22.toList++([v20]++j0.toList)) m14 λv24 H g0=>(W.aj (dh .not v24) λv27=>(aU v27
(e0 [.bool true] H (min (min a0 d0) g0))
(W.aj (aC TE .gtr 3 v8 (.int .i64 0)) λv28=>(aU v28
(W.aj (aC TE .sub 3 v8 (.int .i64 1)) λv29=>(W.aj (an TE T x0 v29) λv30=>(W.aj (ah TE H t v30) λv31=>(W.aj (ah TE H t (ptrTo (M.n m4))) λv32=>(gJ x1 λk0 f34 l0=>(W.bB k0 (f34.toList++([v31,v32]++l0.toList)) H λv36 n0 o0=>(W.aj (aC TE .geq 3 v36 (.int .i64 0)) λv39=>(e0 [v39] n0 (min (min (min a0 d0) g0) o0)))))))))
(e0 [.bool false] H (min (min a0 d0) g0))))))))))
(λh0 m18 b0=>W.un h0 λv40 q0=>(aU v40
(R [.bool false] m18 b0)
(W.aj (aC TE .add 3 v8 (.int .i64 1)) λp0=>(P2 [v6,p0] m18 b0)))))))))
(R [.bool true] m4 a0)))) [.bool false,.int .i64 0] m (M.n m)))
theorem V5{W:Words}{x0 x1 x2:aes}{m:M}{R:aet->M->Nat->Prop}:dp TE W f98 [x0,x1,x2] m R=Pd 34 113 [aev 0,aev 0,aev 0,aew,aev 0,aev 0,aew] W x0 x1 x2 m R:=F98
theorem V6{W:Words}{x0 x1 x2:aes}{m:M}{R:aet->M->Nat->Prop}:dp TE W f100 [x0,x1,x2] m R=Pd 35 53 [aev 0,aev 0] W x0 x1 x2 m R:=aaC
theorem V4{W:Words}{x0 x1 x2:aes}{m:M}{R:aet->M->Nat->Prop}:dp TE W f102 [x0,x1,x2] m R=Pd 36 109 [aev 0,aev 0,aev 0] W x0 x1 x2 m R:=aaA
theorem Gt{T t:TypeId}{te:TI}{α:Type}[aZ α](hT:oO TE T t α)(q0:aZ.agg α)(r0:TE.ty.get t=some te)(u0:te.size=aZ.sz α)(k0:∀(mm:M) (b:Nat) (cs:aet),mm.get b=.cells cs t none->cs.length=aZ.sz α->ah TE mm t (aeq b 0)=some (.agg cs.toArray)){z:aet}(hz:z.length=aZ.sz α)
  {m:M} {l:List α} {v:aes} {g1 g2:Fn} {f1 c1 f2 c2:Array aes} {R:aet->M->Nat->Prop} (val:α->aet) (e0:∀m x cs,aZ.rep m x cs->cs=val x) (hb:l.length < 1000000)
  (J:Nat->M->Nat->Prop) (v0:∀i m1 m2 lo,J i m1 lo->Ext m1 m2->J i m2 lo) (l0:∀i m1 lo b,J i m1 lo->m.n<=b->J i m1 (min lo b)) (hn:∀i m1 lo,J i m1 lo->m.n<=m1.n) (hl:∀i m1 lo,J i m1 lo->Sl m1 l v)
  (hr:∀i x m1 H,l[i]?=some x->J i m1 H->∃b m2,C X g2 (f2.toList++([.agg (val x).toArray]++c2.toList)) m1 b aex m2/\J (i+1) m2 (min H b)/\m1.n<=m2.n/\∀c,m.n<=c->c < m1.n->m2.get c=m1.get c)
  (hc:∀i x y m1,l[i]?=some x->l[i+1]?=some y->m.n<=m1.n->∃k:Int,k < 0/\C X g1 (f1.toList++([.agg (val x).toArray,.agg (val y).toArray]++c1.toList)) m1 m1.n (aev k) m1)
  (h0:J 0 m m.n) (hR:∀m2 gh,J l.length m2 gh->R [aex] m2 gh):Pd T t z (aO TE X) v (.func g1 f1 c1) (.func g2 f2 c2) m R:=by
 dsimp only[Pd,aO];rw[(hl 0 m m.n h0).len hT,aA];refine Lp.intro (γ:=Nat) (λi=>l.length-i) (λi vs m1 lo=>∃w,vs=[w,aev i]/\i<=l.length/\J i m1 lo) 0 ⟨_,rfl,aa6 _,h0⟩ ?_;rintro i vs m1 H ⟨w,rfl,hi,hJ⟩;rw[aE,aE,aQ,ae,ak];refine av (λc=>?_) (λc=>?_)
 ·have y0:i < l.length:=by grind
  obtain⟨x,hx⟩:∃x,l[i]?=some x:=⟨_,aaW y0⟩
  have g0:∀cs:aet,aZ.val α cs=.agg cs.toArray:=λcs=>by unfold aZ.val;rw[q0];rfl
  have⟨a,cs,e1,e2,e3⟩:=(hl i m1 H hJ).index hT (k:=.i64) hx;have j0:=e0 _ _ _ e3;subst j0;have b0:(val x).length=aZ.sz α:=aZ.len e3;have z0:(val x).all one:=aZ.ee e3;rw[g0]at e2;rw[e1,ae,e2,ae];refine aw λm13 F0 n0 G0=>?_;unfold ptrTo;refine aD r0 n0 (by show(val x).length=_;rw[b0,u0]) (by show(val x).length=_;rw[b0,hz]) z0 λm14 H0 a0 I0=>?_;have a0:m14.get m1.n=.cells (val x) t none:=a0;have A0:Ext m1 m14:=⟨by omega,by grind⟩
  have B0:=hn i m1 H hJ;refine bA (λvs mm lo=>vs=[aey]/\J (i+1) mm lo) (λQ hQ=>?_) ?_
  ·rw[k0 _ _ _ a0 b0,ae,cj];obtain⟨b,o0,C0,d0,J0,K0⟩:=hr i x m14 (min H m1.n) hx (l0 _ _ _ _ (v0 _ _ _ _ hJ A0) B0);refine aH C0 ?_;rw[bE,ae,ak];show gG false _ _;rw[aT,bX,ae,ak];refine av (λc=>?_) (λc=>hQ _ _ _ ⟨rfl,d0⟩);have L0:0 < i:=by grind
   rw[dJ,ae,wrap64,show(i:Int)-1=((i-1:Nat):Int) by omega];obtain⟨y,hy⟩:∃y,l[i-1]?=some y:=⟨_,qz⟩
   obtain⟨a',N0,e4,e5,e6⟩:=(hl _ _ _ d0).index hT (k:=.i64) hy;have j0:=e0 _ _ _ e6;subst j0;rw[g0]at e5;have p0:o0.get m1.n=.cells (val x) t none:=by grind
   rw[e4,ae,e5,ae,k0 _ _ _ p0 b0,ae,cj];have i0:=hn _ _ _ d0;obtain⟨k,hk,D0⟩:=hc (i-1) y x o0 hy (by grind) i0;refine aH D0 ?_;rw[cO,ae,tg];exact hQ _ _ _ ⟨rfl,l0 _ _ _ _ d0 i0⟩
  rintro _ mm lo ⟨rfl,E0⟩;rw[aE,ak,aT,aS,ae,wrap64];exact⟨i+1,by omega,w,rfl,by omega,E0⟩
 obtain rfl:i=l.length:=by have:¬(i:Int)< (l.length:Int):=aaZ c;omega
 exact hR _ _ hJ
theorem KR(hX:cy X){l:List UW}{r vm:aes}(hF:cY m l r)(hlen:l.length < 1000000){id:Int}(b0:∀x∈l,x.u.id≠id):
  C X (.func 94) [.agg #[r,vm],aev id] m m.n (.tuple #[.agg Un.zc.toArray,aey]) m:=by
 refine Cl.fG hX (aaU func94) ?_;rw[F94];dsimp only[δ,ε,ζ,η,θ,ι,ρ,ς,υ,χ,ψ,ω];refine aw λm1 p0 d0 q0=>?_;refine aw λm2 r0 e0 g0=>?_;refine aw λm3 u0 h0 H=>?_;have i0:Ext m m3:=⟨by omega,by grind⟩
 have g1:m3.get m.n=.cells [r,vm] 33 none:=by rw[H _ (by omega),g0 _ (by omega)];exact d0
 have g2:m3.get m1.n=.cells [aev id] 3 none:=by rw[H _ (by omega)];exact e0
 have g3:m3.get m2.n=.cells Un.zc 60 none:=h0;have j0:=hF.aG i0;unfold ptrTo;rw[cd,ae,bN,ae,rT g1,ae];refine aH (eL dt (hX.no _ rfl) (aaU func145) rfl uE (l:=l) (λx=>decide (x.u.id=id)) (by omega) j0.sl λx hx cs hr=>?_) ?_
 ·obtain⟨rfl,hw⟩:cs=x.c/\one x.w:=hr;refine Cl.sW (args:=[x.v,aeq m1.n 0]) (hX.no _ rfl) (aaU func154) rfl rfl ?_;rw[Yr];dsimp only[δ,ε,η,ρ,υ];refine aw λm4 v0 k0 l0=>?_;have g4:m4.get m3.n=.cells (x.u.c x.w) 60 none:=k0;have l4:ah TE m4 3 (aeq m1.n 0)=some (aev id):=by rw[bO,aL (show m4.get m1.n=_ from(l0 _ (by omega)).trans g2)];rfl
  unfold ptrTo;rw[bD,ae,(kb g4).1,ae,l4,ae,aW,ae];exact⟨rfl,aaV _⟩
 rw[sQ λx hx=>abt (b0 x hx),aQ,ae,ak];rw[abb (by decide),bH,show aK TE 60 []=some (.agg Un.zc.toArray)from kL,ae];refine aD df g3 rfl rfl rfl λm12 n0 a0 o0=>?_;have g12:m12.get m2.n=.cells (Un.c ⟨0,0,0,[],0,0⟩ aew) 60 none:=a0;rw[bV g12,ae];exact⟨rfl,by omega⟩
def ry:Nat->List Int->List MapEntry
 |_,[]=> []
 |k,z::l=>{key:=.int .i64 z,val:=.bool true,born:=k}::ry (k+1) l
theorem AN:∀(l:List Int) (k:Nat) (z:Int),ry k (l++ [z])=ry k l++ [{key:=aev z,val:=aex,born:=k+l.length}]
 |[],_,_=>rfl
 |a::l,k,z=>by
  show _::ry (k+1) (l++ [z])=_::(ry (k+1) l++_)
  rw[AN l (k+1) z,abe,show k+1+l.length=k+(l.length+1) by omega]
theorem Eh:∀(l:List Int) (k:Nat),(ry k l).length=l.length
 |[],_=>rfl
 |a::l,k=>by show(ry (k+1) l).length+1=_;rw[Eh l];rfl
theorem YA{a b:Int}:eq? TE 3 (.int .i64 a) (.int .i64 b)=some (decide (a=b)):=by kernel_rfl
theorem Wq{z:Int}:keyed TE 3 (.int .i64 z)=true:=by kernel_rfl
theorem AJ{z:Int}:∀(l:List Int) (k i:Nat),z∉l->findKey TE 3 (aev z) (ry k l) i=some none
 |[],_,_,_=>rfl
 |a::l,k,i,h=>by
  rw[abc,not_or]at h
  show(match eq? TE 3 (aev z) (aev a)with |some true=>_ |some false=>findKey TE 3 (aev z) (ry (k+1) l) (i+1) |none=>none)=_
  rw[YA,abt h.1]
  exact AJ l (k+1) (i+1) h.2
theorem Bj:TE.ty.get 173=some ag.t173:=by kernel_rfl
theorem M5{b:Nat}{z:Int}{l:List Int}{P:M->Nat->Prop}(h:m.get b=.map (ry 0 l) l.length)(H:z∉l)
  (hP:∀m1,m1.n=m.n->m1.get b=.map (ry 0 (l++ [z])) (l++ [z]).length->(∀c,c≠b->m1.get c=m.get c)->P m1 b):
  aR (lT TE m 173 (.map (some b)) (aev z) aex) P:=by
 have hb:b < m.n:=by refine Nat.lt_of_not_le λhle=>?_;rw[M.iW hle]at h;cases h
 have e:lT TE m 173 (.map (some b)) (aev z) aex=some (m.set b (.map (ry 0 (l++ [z])) (l++ [z]).length),b):=by simp only[lT,eQ,Bj,ag.t173,h,Wq,cond_true,AJ l 0 0 H];rw[AN,abq,abA];rfl
 rw[e,aA];exact hP _ rfl (M.eN hb) λc hc=>M.dz hc
theorem Nu{b:Nat}{l:List Int}(h:m.get b=.map (ry 0 l) l.length):az TE m .len [173] [.map (some b)]=some (aev l.length,m):=by
 have:az TE m .len [173] [.map (some b)]=(vV TE m 173 (.map (some b))).map (·,m):=rfl
 rw[this];have:vV TE m 173 (.map (some b))=some (aev (ry 0 l).length):=by simp[vV,Bj,ag.t173,h]
 rw[this,Eh];rfl
structure lK(mp sb cb:Nat)(l:List Int)(m:M):Prop where
 em:m.get mp=.map (ry 0 l) l.length
 es:m.get sb=.cells [.map (some mp)] 173 none
 ec:m.get cb=.cells [.int .i64 (l.length:Int)] 3 none
theorem lK.aG{mp sb cb:Nat}{l:List Int}{m':M}(h:lK mp sb cb l m)(h1:mp < m.n)(H:Ext m m'):lK mp sb cb l m':=
 ⟨by rw[H.get _ h1];exact h.em,H.cells h.es,H.cells h.ec⟩
theorem Hw{b mp:Nat}{g:Option Nat}(h:m.get b=.cells [.map (some mp)] 173 g):ah TE m 173 (aeq b 0)=some (.map (some mp)):=by rw[Nn,aL h];rfl
theorem wS{b:Nat}{z:Int}{g:Option Nat}(h:m.get b=.cells [aev z] 3 g):ah TE m 3 (aeq b 0)=some (aev z):=by rw[bO,aL h];rfl
theorem Hf(hX:cy X){mp sb H:Nat}{ids:List Int}{l:List Mk}{v:aes}(hN:lK mp sb H ids m)(hl:Sl m l v)(hd:mp < m.n/\mp≠sb/\mp≠H/\sb≠H)(D0:(ids++l.map Mk.id).Nodup)(hlen:ids.length+l.length < 1000000):
  ∃rv b m',C X (.func 92) [v,aeq sb 0,aeq H 0] m b rv m'/\lK mp sb H (ids++l.map Mk.id) m'/\min (min mp H) m.n<=b/\(b<=H\/l=[])/\m.n<=m'.n/\∀c,c < m.n->c≠mp->c≠H->m'.get c=m.get c:=by
 have E0:=M.bk hN.ec;have F0:=M.bk hN.es;have key:=Cl.FJ (E:=TE) (X:=X) (f:=92) (args:=[v,aeq sb 0,aeq H 0]) (m:=m) (R:=λrv m' b=>lK mp sb H (ids++l.map Mk.id) m'/\min (min mp H) m.n<=b/\(b<=H\/l=[])/\m.n<=m'.n/\∀c,c < m.n->c≠mp->c≠H->m'.get c=m.get c) (hX.no _ rfl) (aaU func92) rfl ?_
 ·have⟨rv,m',b,hc,h⟩:=key;exact⟨rv,b,m',hc,h⟩
 rw[F92];dsimp only[δ,ε,ζ,η,ι,κ,ς,υ,χ,Γ];rw[hl.len dQ,aA];refine Lp.intro (γ:=Nat) (λi=>l.length-i) (λi vs mm lo=>vs=[aev i]/\i<=l.length/\lK mp sb H (ids++(l.take i).map Mk.id) mm/\min (min mp H) m.n<=lo/\m.n<=mm.n/\(∀c,c < m.n->c≠mp->c≠H->mm.get c=m.get c)/\(i=0->mm=m/\lo=m.n)/\(0 < i->lo<=H)) 0 ⟨rfl,aa6 _,by grind,by omega,aaV _,λ_ _ _ _=>rfl,λ_=>⟨rfl,rfl⟩,λh=>absurd h (by decide)⟩ ?_;rintro i vs mm lo ⟨rfl,hi,hS,G0,r0,g0,h0,h1⟩
 have u0:Sl mm l v:=hl.bs λc cs t g hc ht=>by
  have ht:t=137:=by simpa[aZ.ty,aZ.dd]using ht
  subst ht;rw[g0 c (M.bk hc) (λe=>by subst e;rw[hN.em]at hc;cases hc) (λe=>by subst e;rw[hN.ec]at hc;cases hc),hc]
 rw[aE,aQ,ae,ak];refine av (λc=>?_) (λc=>?_)
 ·have i0:i < l.length:=by grind
  obtain⟨x,hx⟩:∃x,l[i]?=some x:=⟨_,aaW i0⟩
  have⟨p,e1,e2⟩:=u0.vN (k:=.i64) hx;rw[e1,ae,e2,ae];refine aw λm11 v0 j0 y0=>?_;refine aD tI j0 rfl rfl rfl λm12 z0 k0 A0=>?_;have g12:m12.get mm.n=.cells x.c 137 none:=k0;have l0:Ext mm m12:=⟨by omega,by grind⟩
  have a0:=hS.aG (by omega) l0;have n12:=l0.n;have n0:(l.take (i+1)).map Mk.id=(l.take i).map Mk.id++ [x.id]:=by rw[abg,hx];simp
  have o0:x.id∉ids++(l.take i).map Mk.id:=by
   have H0:ids++l.map Mk.id=(ids++(l.take i).map Mk.id)++x.id::(l.drop (i+1)).map Mk.id:=by
    conv=>lhs;rw[<-abW i l,abR i0]
    grind
   grind
  unfold ptrTo;rw[Hw a0.es,ae,cg,ae,(CE g12).1,ae];refine M5 a0.em o0 λm17 B0 p0 b0=>?_;have d0:m17.get H=.cells [aev ((ids++(l.take i).map Mk.id).length:Int)] 3 none:=by rw[b0 _ (λe=>hd.2.2.1 e.symm)];exact a0.ec
  have I0:(ids++(l.take i).map Mk.id).length<=ids.length+l.length:=by grind
  rw[wS d0,ae,aS,ae,wrap64];refine bY tG d0 rfl (by show 0+1<=1;decide) rfl λm21 C0 q0 e0=>?_;rw[aS,ae,wrap64];refine⟨i+1,by omega,rfl,by omega,⟨?_,?_,?_⟩,by omega,by omega,by grind,λh=>absurd h (by omega),λ_=>by omega⟩;·rw[e0 mp hd.2.2.1,p0,n0,abv]
  ·rw[e0 sb hd.2.2.2,b0 sb (λe=>hd.2.1 e.symm)];exact a0.es
  have e:((ids++((l.take i).map Mk.id++ [x.id])).length:Int)=((ids++(l.take i).map Mk.id).length:Int)+1:=by grind
  rw[q0,n0,e];rfl
 obtain rfl:i=l.length:=by
  grind
 rw[abD]at hS;by_cases hz:l.length=0
 ·obtain⟨rfl,rfl⟩:=h0 hz;exact .inl ⟨rfl,aaV _,hS,by omega,.inr (adA.1 hz),aaV _,λ_ _ _ _=>rfl⟩
 have:=h1 (by omega);exact .inr ⟨.inr (by omega),hS,by omega,.inl (by omega),r0,g0⟩
theorem KS(H:cy X){f:Fc}(h:(0<=f.un/\f.un<=99)/\ -2<=f.side/\f.side<=7):C X (.func 95) [f.v] m m.n aex m:=by
 refine Cl.fG H (aaU func95) ?_;rw[F95];dsimp only[δ,ε,ρ,υ,χ,ψ,ω];refine aw λm1 d0 b0 e0=>?_;have g1:m1.get m.n=.cells f.c 53 none:=b0;obtain⟨a0,a1, -⟩:=oC g1;unfold ptrTo;refine bA (λvs mm lo=>vs=[aex]/\m.n<=lo) (λQ hQ=>?_) ?_
 ·rw[cT,ae,a0,ae];refine aH (iq H) ?_;rw[show cW f.un 0 99=true by unfold cW;rw[abb h.1.1,abb h.1.2];rfl,ak,bH,dm,ae,a1,ae];refine aH (iq H) ?_;rw[show cW f.side (-2) 7=true by unfold cW;rw[abb h.2.1,abb h.2.2];rfl];exact hQ _ _ _ ⟨rfl,by omega⟩
 rintro _ mm l ⟨rfl,hl⟩;rw[aE];exact⟨rfl,hl⟩
theorem EF(hX:cy X){x:Mo}(h:0<=x.a/\x.a < x.b/\x.b<=99/\0<=x.dA/\x.dA<=7):C X (.func 97) [x.v] m m.n aex m:=by
 refine Cl.fG hX (aaU func97) ?_;rw[F97];dsimp only[δ,ε,η,ρ,υ,χ,ψ];refine aw λm1 b0 H d0=>?_;have g1:m1.get m.n=.cells x.c 109 none:=H;obtain⟨a0,a1,a2, -⟩:=Nf g1;unfold ptrTo;simp only[dM,eI,oB,ae];refine bA (λvs mm lo=>vs=[aex]/\m.n<=lo) (λQ hQ=>?_) ?_
 ·simp only[a0,a1,a2,ae,cO,aQ,cE,ak];rw[abb h.1,bH,abb h.2.1,bH,abb h.2.2.1,bH];refine aH (iq hX) ?_;rw[show cW x.dA 0 7=true by unfold cW;rw[abb h.2.2.2.1,abb h.2.2.2.2];rfl];exact hQ _ _ _ ⟨rfl,by omega⟩
 rintro _ mm l ⟨rfl,hl⟩;rw[aE];exact⟨rfl,hl⟩
theorem Sm{b:Nat}{v:aes}{g:Option Nat}(h:m.get b=.cells [v] 174 g):ah TE m 174 (aeq b 0)=some v:=by rw[Nl,aL h];rfl
abbrev Hg(H cb:Nat):aes:=.func (.func 92) #[] #[.pointer (some ⟨H,0,none⟩),.pointer (some ⟨cb,0,none⟩)]
theorem PL{x:UW}:aI TE m 28 1 [(0,x.u.v x.w)]=some (.slice (some ⟨m.n,0,none⟩) 1 1,m.push (.cells x.c 60 none)):=by kernel_rfl
set_option maxHeartbeats 1000000 in
theorem KP(hX:cy X){mp sb cb nb yb:Nat}{ids:List Int}{y:Yd}{r r2 st rc mo:aes}{x:KW}(hN:lK mp sb cb ids m)(hd:mp < m.n/\mp≠sb/\mp≠cb/\sb≠cb)(gn:m.get nb=.cells [Hg sb cb] 174 none)
  (gy:m.get yb=.cells (yc r r2 st rc mo) 38 none) {l:List UW} (hF:cY m l r) (hlen:l.length < 1000000) (q0:∀u∈l,u.u.id≠x.u.id) (r0:Sl m x.u.shape x.w) (u0:x.u.shape.length < 1000000) (j0:Sl m x.ms x.mv)
  (v0:cx [x.u]) (y0:im [x.u] x.ms) (z0:(ids++x.ms.map Mk.id).Nodup) (A0:ids.length+x.ms.length < 1000000):
  ∃b m',C X (.func 93) [x.v,.pointer (some ⟨nb,0,none⟩),.pointer (some ⟨yb,0,none⟩)] m b aex m'/\lK mp sb cb (ids++x.ms.map Mk.id) m'/\min (min mp cb) m.n<=b/\(b<=cb\/x.ms=[])/\m.n<=m'.n/\∀c,c < m.n->c≠mp->c≠cb->m'.get c=m.get c:=by
 have c1:=M.bk hN.ec;have d1:=M.bk hN.es;have e1:=M.bk gn;have g1:=M.bk gy;have key:=Cl.FJ (E:=TE) (X:=X) (f:=93) (args:=[x.v,.pointer (some ⟨nb,0,none⟩),.pointer (some ⟨yb,0,none⟩)]) (m:=m) (R:=λrv m' b=>rv=aex/\lK mp sb cb (ids++x.ms.map Mk.id) m'/\min (min mp cb) m.n<=b/\(b<=cb\/x.ms=[])/\m.n<=m'.n/\∀c,c < m.n->c≠mp->c≠cb->m'.get c=m.get c) (hX.no _ rfl) (aaU func93) rfl ?_
 ·obtain⟨rv,m',b,H,rfl,h⟩:=key;exact⟨b,m',H,h⟩
 rw[F93];dsimp only[δ,ε,θ,ι,ν,ξ,ο,ρ,ς,υ,χ,ψ,Γ,Δ];refine aw λm1 i1 B0 C0=>?_;have gk:m1.get m.n=.cells x.c 113 none:=B0;have x1:Ext m m1:=⟨by omega,C0⟩
 have j1:m.n < m1.n:=by omega
 unfold ptrTo;simp only[cz,dL,cH,bD,ae];rw[Sm (x1.cells gn),ae,(DL gk).2.2.1,ae,cj];obtain⟨rv,k0,m9,c9,D0,K0,h0,n9,Ss⟩:=Hf (m:=m1) hX (hN.aG hd.1 x1) (j0.aG x1) ⟨by omega,hd.2⟩ z0 A0;refine aH c9 ?_
 have kp:∀{α:Type} [aZ α] {l:List α} {v:aes},aZ.dd α=[]->aZ.ty α≠3->Sl m l v->Sl m9 l v:=λ{α _ l v} E0 F0 h=>h.bs λc cs t g H ht=>by rw[E0,abr]at ht;subst ht;rw[Ss c (by have:=M.bk H;omega) (λe=>by subst e;rw[hN.em]at H;cases H) (λe=>by subst e;rw[hN.ec]at H;simp only[Ob.cells.injEq]at H;exact F0 H.2.1.symm),x1.cells H]
 have i0:m9.get m.n=.cells x.c 113 none:=by grind
 have G0:m9.get yb=.cells (yc r r2 st rc mo) 38 none:=by rw[Ss _ (by omega) (λe=>by subst e;rw[hN.em]at gy;cases gy) (λe=>by subst e;rw[hN.ec]at gy;cases gy)];exact x1.cells gy
 have H0:cY m9 l r:=hF.bs λc cs t g H ht=>by rw[Ss c (by have:=M.bk H;omega) (λe=>by subst e;rw[hN.em]at H;cases H) (λe=>by subst e;rw[hN.ec]at H;cases H;exact absurd ht (by decide)),x1.cells H]
 have g0:=kp rfl (by decide) r0;have b0:=kp rfl (by decide) j0;rw[(dP G0).1,ae,(DL i0).1,ae];refine aH (KR hX H0 hlen q0) ?_;rw[aJ,aJ];simp only[aaY,aaX,ae];refine aw λm21 L0 l0 N0=>?_;refine aD df l0 rfl rfl rfl λm22 O0 P0 S0=>?_;have a0:Ext m9 m22:=⟨by omega,by grind⟩
 have n22:=a0.n;have n0:mp < m9.n:=by omega
 refine bA (λvs m' lo=>vs=[aex]/\Ext m22 m'/\lo=min (min m.n k0) lo/\min m.n k0<=lo) (λQ hQ=>?_) ?_
 ·rw[bE,ae,ak];show gG true _ _;rw[bH,(DL (a0.cells i0)).2.1,ae,PL (x:=⟨x.u,x.w⟩),aA];obtain⟨m32,d0⟩:∃q,q=m22.push (.cells (UW.c ⟨x.u,x.w⟩) 60 none):=⟨_,rfl⟩
  rw[<-d0];have I0:m32.get m22.n=.cells (UW.c ⟨x.u,x.w⟩) 60 none:=by rw[d0];exact M.aY
  have e0:Ext m22 m32:=d0 ▸ Ext.refl.push;have o0:=HG I0 g0.one (g0.aG (a0.trans e0)) u0;have n32:=e0.n;rw[show aK TE 30 [(0,.slice (some ⟨m22.n,0,none⟩) 1 1)]=some (.agg #[.slice (some ⟨m22.n,0,none⟩) 1 1])from zn rfl,ae,(DL (e0.cells (a0.cells i0))).2.2.1,ae];rw[show aK TE 33 [(0,.agg #[.slice (some ⟨m22.n,0,none⟩) 1 1]),(1,x.mv)]=some (.agg #[.slice (some ⟨m22.n,0,none⟩) 1 1,x.mv]) by rw[nN rfl (by rw[b0.cells];rfl),b0.cells];rfl,ae];refine aH (uR hX o0 v0 (b0.aG (a0.trans e0)) y0) ?_;exact hQ _ _ _ ⟨rfl,e0,by omega,by omega⟩
 rintro _ m' lo ⟨rfl,x',a1,b1⟩;rw[aE];have J0:=D0.aG n0 (a0.trans x');have n':=x'.n;by_cases H:lo < m.n;·refine .inr ⟨.inr H,rfl,J0,by omega,h0.imp (λh=>by omega) id,by omega,λc h1 h2 h3=>by rw[x'.get c (by omega),a0.get c (by omega),Ss c (by omega) h2 h3,x1.get c h1]⟩
 have p0:x.ms=[]:=by
  grind
 refine .inl ⟨rfl,by omega,by first |rfl |trivial,?_,by omega,.inr p0,aaV _,by grind⟩;rw[p0,ads,abJ];exact hN
theorem Lh:TE.ty.get 113=some ag.t113:=by kernel_rfl
theorem La(hX:cy X){l:List Fc}{v:aes}(hl:Sl m l v)(hlen:l.length < 1000000)(a0:∀f∈l,(0<=f.un/\f.un<=99)/\ -2<=f.side/\f.side<=7)(H:l.Pairwise fa):
  C X (.func 100) [v,.func (.func 101) #[] #[],.func (.func 95) #[] #[]] m m.n aex m:=by
 refine Cl.fG hX (aaU func100) ?_;rw[V6]
 refine Gt dZ rfl oQ rfl (λmm b cs h hc=>?_) rfl Fc.c (λm x cs h=>h) hlen (λi m1 lo=>Ext m m1/\m.n<=lo) (λi m1 m2 lo h hx=>⟨h.1.trans hx,h.2⟩) (λi m1 lo b h hb=>⟨h.1,by omega⟩) (λi m1 lo h=>h.1.n) (λi m1 lo h=>hl.aG h.1)
  (λi x m1 lo hx h=>⟨m1.n,m1,KS hX (a0 x (aa2 hx)),⟨h.1,by have:=h.1.n;omega⟩,aaV _,λ_ _ _=>rfl⟩) (λi x y m1 hx hy _=>?_) ⟨.refl,aaV _⟩ (λm2 lo h=>⟨rfl,h.2⟩)
 ·rw[wQ,aP (n:=2) h (by rw[hc];decide),abM,abk (by rw[hc];decide)];rfl
 refine⟨_,?_,xG hX x y⟩;have h1:=aa0.1 hx;have h2:=aa0.1 hy;have:=abw.1 H i (i+1) h1.1 h2.1 (by omega);rw[h1.2,h2.2]at this;exact BP this
theorem KY(hX:cy X){l:List Mo}{v:aes}(hl:Sl m l v)(hlen:l.length < 1000000)(a0:∀x∈l,0<=x.a/\x.a < x.b/\x.b<=99/\0<=x.dA/\x.dA<=7)(H:l.Pairwise lL):
  C X (.func 102) [v,.func (.func 103) #[] #[],.func (.func 97) #[] #[]] m m.n aex m:=by
 refine Cl.fG hX (aaU func102) ?_;rw[V4]
 refine Gt nk rfl Bl rfl (λmm b cs h hc=>?_) rfl Mo.c (λm x cs h=>h) hlen (λi m1 lo=>Ext m m1/\m.n<=lo) (λi m1 m2 lo h hx=>⟨h.1.trans hx,h.2⟩) (λi m1 lo b h hb=>⟨h.1,by omega⟩) (λi m1 lo h=>h.1.n) (λi m1 lo h=>hl.aG h.1)
  (λi x m1 lo hx h=>⟨m1.n,m1,EF hX (a0 x (aa2 hx)),⟨h.1,by have:=h.1.n;omega⟩,aaV _,λ_ _ _=>rfl⟩) (λi x y m1 hx hy _=>?_) ⟨.refl,aaV _⟩ (λm2 lo h=>⟨rfl,h.2⟩)
 ·rw[DI,aP (n:=3) h (by rw[hc];decide),abM,abk (by rw[hc];decide)];rfl
 refine⟨_,?_,CO hX x y⟩;have h1:=aa0.1 hx;have h2:=aa0.1 hy;have:=abw.1 H i (i+1) h1.1 h2.1 (by omega);rw[h1.2,h2.2]at this;exact BP this
abbrev jM(l:List KW):List Int:=(l.flatMap KW.ms).map Mk.id
theorem AE{H:List KW}{i:Nat}{x:KW}(h:H[i]?=some x):jM (H.take (i+1))=jM (H.take i)++x.ms.map Mk.id:=by unfold jM;rw[abg,h,acz,abE];simp
set_option maxHeartbeats 1000000 in
theorem KZ(hX:cy X){mp sb cb nb yb:Nat}{ids:List Int}{y:Yd}{r r2 st rc mo:aes}{H:List KW}(hN:lK mp sb cb ids m)(hd:mp < m.n/\mp≠sb/\mp≠cb/\sb≠cb)(gn:m.get nb=.cells [Hg sb cb] 174 none)
  (gy:m.get yb=.cells (yc r r2 st rc mo) 38 none) {l:List UW} (hF:cY m l r) (hlen:l.length < 1000000) (hK:CH m H st) (j0:H.length < 1000000) (k0:∀x∈H,∀u∈l,u.u.id≠x.u.id)
  (l0:∀x∈H,cx [x.u]) (n0:∀x∈H,im [x.u] x.ms) (g0:(ids++jM H).Nodup) (o0:(ids++jM H).length < 1000000) (h0:H.Pairwise λa b=>a.u.id < b.u.id):
  ∃b m',C X (.func 98) [st,.func (.func 99) #[] #[],.func (.func 93) #[] #[.pointer (some ⟨nb,0,none⟩),.pointer (some ⟨yb,0,none⟩)]] m b aex m'/\lK mp sb cb (ids++jM H) m'/\min (min mp cb) m.n<=b/\m.n<=m'.n/\∀c,c < m.n->c≠mp->c≠cb->m'.get c=m.get c:=by
 have q0:=M.bk hN.ec;have key:=Cl.FJ (E:=TE) (X:=X) (f:=98) (args:=[st,.func (.func 99) #[] #[],.func (.func 93) #[] #[.pointer (some ⟨nb,0,none⟩),.pointer (some ⟨yb,0,none⟩)]]) (m:=m) (R:=λrv m' b=>rv=aex/\lK mp sb cb (ids++jM H) m'/\min (min mp cb) m.n<=b/\m.n<=m'.n/\∀c,c < m.n->c≠mp->c≠cb->m'.get c=m.get c) (hX.no _ rfl) (aaU func98) rfl ?_
 ·grind
 rw[V5]
 have b0:∀{m1:M},(∀c,c < m.n->c≠mp->c≠cb->m1.get c=m.get c)->∀c cs t g,m.get c=.cells cs t g->t≠3->m1.get c=.cells cs t g:=λd0 c cs t g hc ht=>by rw[d0 c (M.bk hc) (λe=>by subst e;rw[hN.em]at hc;cases hc) (λe=>by subst e;rw[hN.ec]at hc;cases hc;exact ht rfl),hc]
 have kK:∀{m1:M},(∀c,c < m.n->c≠mp->c≠cb->m1.get c=m.get c)->CH m1 H st:=λd0=>hK.bs λc cs t g hc ht=>b0 d0 c cs t g hc (by grind)
 refine Gt ff rfl Lh rfl (λmm b cs h hc=>?_) rfl KW.c (λm x cs h=>h.1) j0
  (λi m1 lo=>lK mp sb cb (ids++jM (H.take i)) m1/\min (min mp cb) m.n<=lo/\m.n<=m1.n/\(∀c,c < m.n->c≠mp->c≠cb->m1.get c=m.get c)/\(lo<=cb\/(H.take i).flatMap KW.ms=[]))
  (λi m1 m2 lo h hx=>⟨h.1.aG (by grind) hx,h.2.1,by have:=hx.n;have:=h.2.2.1;omega,λc h1 h2 h3=>by rw[hx.get c (by grind),h.2.2.2.1 c h1 h2 h3],h.2.2.2.2⟩)
  (λi m1 lo b h hb=>⟨h.1,by grind,h.2.2.1,h.2.2.2.1,h.2.2.2.2.imp (λh=>by omega) id⟩) (λi m1 lo h=>h.2.2.1) (λi m1 lo h=>(kK h.2.2.2.1).sl)
  (λi x m1 lo hx h=>?_) (λi x y m1 hx hy _=>?_) ⟨by grind,by omega,aaV _,λ_ _ _ _=>rfl,.inr rfl⟩ (λm2 lo h=>?_)
 ·rw[DH,aP (n:=7) h (by rw[hc];decide),abM,abk (by rw[hc];decide)];rfl
 ·have⟨h1,h2,h3,h4,h5⟩:=h;have a0:=aa2 hx;have e0:=kK h4
  have p0:ids++jM H=(ids++jM (H.take i)++x.ms.map Mk.id)++jM (H.drop (i+1)):=by
   conv=>lhs;rw[<-abW (i+1) H]
   have e:jM (H.take (i+1)++H.drop (i+1))=jM (H.take (i+1))++jM (H.drop (i+1)):=by unfold jM;rw[acz,abE]
   rw[e,AE hx];simp only[abv]
  rw[p0]at g0 o0
  have i0:(ids++jM (H.take i)).length+x.ms.length < 1000000:=by
   have e1:(ids++jM (H.take i)++x.ms.map Mk.id++jM (H.drop (i+1))).length=((ids++jM (H.take i)).length+x.ms.length)+(jM (H.drop (i+1))).length:=by rw[abq,abq,abK]
   omega
  obtain⟨b,m2,c1,c2,c3,c4,c5,c6⟩:=KP (m:=m1) (x:=x) (y:=y) hX h1 ⟨by omega,hd.2⟩ (b0 h4 _ _ _ _ gn (by decide)) (b0 h4 _ _ _ _ gy (by decide)) (hF.bs λc cs t g hc ht=>b0 h4 c cs t g hc (by rcases ht with rfl |rfl <;>decide)) hlen (k0 x a0) (e0.sh x a0) (e0.ln x a0) (e0.mv x a0) (l0 x a0) (n0 x a0) (List.nodup_append.1 g0).1 i0;refine⟨b,m2,c1,⟨?_,by omega,by omega,λc k1 k2 k3=>by rw[c6 c (by omega) k2 k3,h4 c k1 k2 k3],?_⟩,c5,λc k1 k2=>c6 c k2 (by omega) (by omega)⟩;·rw[AE hx,<-abv];exact c2
  rcases c4 with c4 |c4;·exact .inl (by omega)
  rcases h5 with h5 |h5;·exact .inl (by omega)
  refine .inr ?_;rw[abg,hx,acz,h5];simp[c4]
 ·refine⟨-1,by decide,KX hX ?_⟩;have h1:=aa0.1 hx;have h2:=aa0.1 hy;have:=abw.1 h0 i (i+1) h1.1 h2.1 (by omega);rw[h1.2,h2.2]at this;exact this
 rw[abD]at h;have⟨h1,h2,h3,h4,h5⟩:=h;by_cases hc:lo < m.n;·exact .inr ⟨.inr hc,rfl,h1,by omega,h3,h4⟩
 have h5:=h5.resolve_left (by omega);refine .inl ⟨rfl,by omega,rfl,?_,by omega,aaV _,λ_ _ _ _=>rfl⟩;rw[show jM H=[] by unfold jM;rw[h5];rfl,abJ];exact hN
theorem BR{y:Yd}(hP:oL y){H:List KW}(a0:zC H=y.st){x:KW}(hx:x∈H):x.k∈y.st:=by
 grind
theorem RL{y:Yd}{kl:List KW}(H:zC kl=y.st):(allM y.ms y.st).map Mk.id=y.ms.map Mk.id++jM kl:=by
 unfold allM jM
 rw[abE,<-H]
 congr 2
 unfold zC
 rw[List.flatMap_map]
set_option maxHeartbeats 1000000 in
theorem tD(hX:cy X){y:Yd}{r r2 st rc mo:aes}(hV:lM m y r r2 st rc mo)(hP:oL y):C X (.func 40) [yv r r2 st rc mo] m m.n aex m:=by
 refine Cl.fG hX (aaU func40) ?_;have⟨⟨l,l0,hF⟩,I0,⟨kl,e0,hK⟩,J0,K0⟩:=hV;have c1:cx (bR l):=by rw[l0];exact hP.qk
 have d1:im (bR l) y.ms:=by rw[l0];exact hP.Av
 have o1:l.length<=12:=by have:=hP.qk.len;rwa[<-l0,cI]at this
 have p1:kl.length<=12:=by have:=hP.P3;rwa[<-e0,jk]at this
 have r1:=hP.Wi;have u1:=hP.Si;have o0:=RL (y:=y) e0;have g0:=hP.YG;have v1:(y.ms.map Mk.id++jM kl).length<=20:=by rw[<-o0,abK];exact hP.KE
 rw[o0]at g0;rw[F40];dsimp only[δ,ε,η,ι,κ,ο,ρ,ς,υ,χ,ψ,Θ,Λ,Ξ];refine aw λm1 J1 e1 h1=>?_;have g1:m1.get m.n=.cells (yc r r2 st rc mo) 38 none:=e1;have x1:Ext m m1:=⟨by omega,h1⟩
 unfold ptrTo;simp only[cH,dE,dn,eW,cL,ae];refine bA (λvs mm lo=>vs=[aey]/\m1=mm/\m.n<=lo) (λQ hQ=>?_) ?_
 ·rw[(dP g1).1,ae];refine aH (uR hX (hF.aG x1) c1 (I0.aG x1) d1) ?_;rw[bE,ae,ak];show gG false _ _;rw[aT,(dP g1).2.1,ae,(hK.aG x1).sl.len ff,aA,bX,ae,ak,tg,aT,(dP g1).2.2.1,ae,(J0.aG x1).len dZ,aA,bX,ae,ak,tg,aT,(dP g1).2.2.2.1,ae,(K0.aG x1).len nk,aA,bX,ae,tg];exact hQ _ _ _ ⟨rfl,rfl,by omega⟩
 rintro _ _ lo ⟨rfl,rfl,K1⟩;rw[aE,ak,aT];refine aw λh0 w1 p0 L0=>?_;refine aw λL1 y1 q0 r0=>?_;refine bY Bj q0 rfl (by show 0+1<=1;decide) rfl λa0 z1 u0 v0=>?_;refine aw λN1 A1 y0 i0=>?_;refine bY tG y0 rfl (by show 0+1<=1;decide) rfl λn0 B1 z0 j0=>?_;refine aw λO1 C1 A0 b0=>?_;refine bY SN A0 rfl (by show 0+1<=1;decide) rfl λH D1 B0 d0=>?_;have gn:H.get n0.n=.cells [Hg h0.n a0.n] 174 none:=B0;have G0:Ext m1 H:=⟨by omega,by grind⟩
 have hN:lK m1.n h0.n a0.n [] H:=by
  refine⟨?_,?_,?_⟩;·rw[d0 _ (by omega),b0 _ (by omega),j0 _ (by omega),i0 _ (by omega),v0 _ (by omega),r0 _ (by omega)];exact p0
  ·rw[d0 _ (by omega),b0 _ (by omega),j0 _ (by omega),i0 _ (by omega)];exact u0
  rw[d0 _ (by omega),b0 _ (by omega)];exact z0
 have P1:m1.n < h0.n/\h0.n < a0.n/\a0.n < n0.n/\n0.n < H.n:=by omega
 clear p0 L0 q0 r0 u0 v0 y0 i0 z0 j0 A0 b0 B0 d0;have C0:=x1.trans G0;rw[Sm gn,ae,(xB (G0.cells g1)).2.2,ae,cj];have E1:=(List.nodup_append.1 g0).1;have T1:y.ms.length<=20:=hP.Av.len;obtain⟨rv,a2,i1,j1,D0,F1, -,n44,N0⟩:=Hf (m:=H) hX hN (I0.aG C0) ⟨by omega,by omega,by omega,by omega⟩ (by grind) (by grind);refine aH j1 ?_;rw[abZ]at D0
 have O0:∀{ma:M},(∀c,c < H.n->c≠m1.n->c≠a0.n->ma.get c=H.get c)->H.n<=ma.n->Ext m ma/\ma.get m.n=.cells (yc r r2 st rc mo) 38 none/\ma.get n0.n=.cells [Hg h0.n a0.n] 174 none:=λP0 hn=>
  ⟨⟨by omega,λc hc=>by rw[P0 c (by omega) (by omega) (by omega),C0.get c hc]⟩,by rw[P0 _ (by omega) (by omega) (by omega)];exact G0.cells g1,by grind⟩
 have⟨S0,E0,a1⟩:=O0 N0 n44;refine bA (λvs mm lo=>vs=[aex]/\m.n<=lo) (λQ hQ=>?_) ?_
 ·rw[(dP E0).2.1,ae]
  obtain⟨b2,k1,l1,k0,G1,c2,H1⟩:=KZ (m:=i1) (y:=y) hX D0 ⟨by omega,by omega,by omega,by omega⟩ a1 E0 (hF.aG S0) (by omega) (hK.aG S0) (by omega)
   (λx hx u hu=>by have:=hP.off x.k (BR hP e0 hx) u.u (by rw[<-l0];exact abF.2 ⟨u,hu,rfl⟩);exact this)
   (λx hx=>hP.Nx x.k (BR hP e0 hx)) (λx hx=>hP.FC x.k (BR hP e0 hx)) g0 (by omega)
   (by have:=hP.uS;rw[<-e0]at this;exact(adi (f:=KW.k) (R:=λa b:Kp=>a.un.id < b.un.id)).1 this)
  refine aH l1 ?_;have H0:∀c,c < H.n->c≠m1.n->c≠a0.n->k1.get c=H.get c:=by grind
  obtain⟨b1,F0,I1⟩:=O0 H0 (by omega);rw[ak,bH,(dP F0).2.2.1,ae];refine aH (La hX (J0.aG b1) (by omega) hP.MK hP.An) ?_;rw[ak,bH,(dP F0).2.2.2.1,ae];refine aH (KY hX (K0.aG b1) (by omega) hP.Nd hP.Dz) ?_;rw[ak,bH,Hw k0.es,ae,Nu k0.em,aA,wS k0.ec,ae,aW,ae,ak,abb rfl,bH,ae,cE,ae,VF];exact hQ _ _ _ ⟨rfl,by omega⟩
 rintro _ mm l ⟨rfl,hl⟩;rw[aE];exact⟨rfl,hl⟩
end
section
section
variable {X:aM}{x0 x1 x2:aes}{m:M}{R:aet->M->Nat->Prop}{W:Words}
theorem F46:dp TE (aO TE X) f46 [x0,x1,x2] m R=jn (λa=>η .leq 3 x1 x0 λb=>aU b (η .leq 3 x0 x2 λb=>a [b] m m.n) (a [aey] m m.n)) (λa b c=>un a λa _=>R [a] b c):=by kernel_rfl
theorem F34:dp TE (aO TE X) f34 [x0,x1] m R=ρ m x0 53 λa=>ρ a x1 53 λb=>ε 53 (υ m) 0 λc=>δ b 3 c λc=>ε 53 (υ a) 0 λd=>δ b 3 d λd=>ψ X 59 [c,d] b λc d f=>(b.n<=f)/\(ε 53 (υ m) 1 λb=>δ d 3 b λb=>ε 53 (υ a) 1 λa=>δ d 3 a λa=>ψ X 59 [b,a] d λa b d=>ν b 26 2 [(0,c),(1,a)] λa b=>ψ X 80 [a] b λa b c=>R [a] b (Γ m.n f d c)):=by kernel_rfl
theorem F62:dp TE W f62 [x0,x1] m R=W.Lp (λa b c d=>W.un b λb f=>W.un f λf _=>W.aR (az TE c .len [41] [x0]) λg _=>W.aj (aC TE .lss 3 f g) λg=>aU g (W.aj (aC TE .sub 3 f (.int .i64 1)) λg=>W.aj (an TE 41 x0 g) λg=>W.aj (ah TE c 79 g) λg=>W.aj (an TE 41 x0 f) λh=>W.aj (ah TE c 79 h) λh=>gJ x1 λi j k=>W.bB i (j.toList++([g,h]++k.toList)) c λc g h=>W.aj (aC TE .geq 3 c (.int .i64 0)) λc=>aU c (R [aey] g (min d h)) (W.aj (aC TE .add 3 f (.int .i64 1)) λc=>a [b,c] g (min d h))) (R [aex] c d)) [aey,.int .i64 1] m m.n:=by kernel_rfl
theorem aao:dp TE W f119 [x0,x1] m R=W.Lp (λa b c d=>W.un b λb f=>W.un f λf _=>W.aR (az TE c .len [35] [x0]) λg _=>W.aj (aC TE .lss 3 f g) λg=>aU g (W.aj (aC TE .sub 3 f (.int .i64 1)) λg=>W.aj (an TE 35 x0 g) λg=>W.aj (ah TE c 53 g) λg=>W.aj (an TE 35 x0 f) λh=>W.aj (ah TE c 53 h) λh=>gJ x1 λi j k=>W.bB i (j.toList++([g,h]++k.toList)) c λc g h=>W.aj (aC TE .geq 3 c (.int .i64 0)) λc=>aU c (R [aey] g (min d h)) (W.aj (aC TE .add 3 f (.int .i64 1)) λc=>a [b,c] g (min d h))) (R [aex] c d)) [aey,.int .i64 1] m m.n:=by kernel_rfl
theorem F57:dp TE (aO TE X) f57 [x0] m R=ρ m x0 79 λa=>jn (λb=>ε 79 (υ m) 0 λc=>δ a 3 c λc=>ψ X 46 [c,χ 0,χ 99] a λa c d=>aU a (ε 79 (υ m) 1 λa=>δ c 35 a λa=>κ c .len [35] [a] λa _=>η .leq 3 a (χ 6) λa=>aU a (ε 79 (υ m) 1 λa=>δ c 35 a λa=>ψ X 64 [a,.func (.func 118) #[] #[]] c λa c f=>ο .not a λa=>aU a (ε 79 (υ m) 1 λa=>δ c 35 a λa=>ψ X 119 [a,.func (.func 34) #[] #[]] c λa c g=>b [a] c (Γ m.n d f g)) (b [aey] c (ω m.n d f))) (b [aey] c (min m.n d))) (b [aey] c (min m.n d))) (λa b c=>un a λa _=>R [a] b c):=by kernel_rfl
theorem aap:dp TE (aO TE X) f118 [x0] m R=ρ m x0 53 λa=>jn (λb=>ε 53 (υ m) 0 λc=>δ a 3 c λc=>ψ X 46 [c,χ 0,χ 99] a λa c d=>ο .not a λa=>aU a (b [aex] c (min m.n d)) (ε 53 (υ m) 1 λa=>δ c 3 a λa=>ψ X 46 [a,χ (-2),χ 7] c λa c f=>ο .not a λa=>b [a] c (ω m.n d f))) (λa b c=>un a λa _=>R [a] b c):=by kernel_rfl
theorem F84:dp TE (aO TE X) f84 [x0,x1] m R=ρ m x0 38 λa=>ρ a x1 3 λb=>ς b [χ 0,χ 0,χ 0,aew,χ 0,χ 0] 60 λc=>ε 38 (υ m) 0 λd=>ε 33 d 0 λd=>ε 30 d 0 λd=>δ c 28 d λd=>ψ X 145 [d,.func (.func 146) #[] #[υ a]] c λa c d=>η .lss 3 a (χ 0) λf=>aU f (θ 60 [] λa=>ι c 60 (υ b) a λa c=>aj (ah TE a 60 (υ b)) λb=>R [b,aey] a (ω m.n d c)) (ε 38 (υ m) 0 λf=>ε 33 f 0 λf=>ε 30 f 0 λf=>δ c 28 f λf=>ζ 28 f a λa=>δ c 60 a λa=>ι c 60 (υ b) a λa c=>aj (ah TE a 60 (υ b)) λb=>R [b,aex] a (ω m.n d c)):=by kernel_rfl
theorem aab:dp TE (aO TE X) f146 [x0,x1] m R=ρ m x0 60 λa=>ε 60 (υ m) 0 λb=>δ a 3 b λb=>δ a 3 x1 λc=>η .eql 3 b c λb=>R [b] a m.n:=by kernel_rfl
theorem F55:dp TE (aO TE X) f55 [x0,x1] m R=ρ m x0 38 λa=>ρ a x1 62 λb=>ε 62 (υ a) 0 λc=>δ b 3 c λc=>jn (λa=>η .eql 3 c (χ 4) λd=>aU d (a [d] b m.n) (η .eql 3 c (χ 5) λc=>a [c] b m.n)) (λb d f=>un b λb _=>aU b (ε 62 (υ a) 2 λa=>δ d 3 a λa=>ψ X 117 [a,υ m] d λa b c=>R [a] b (min f c)) (η .eql 3 c (χ 9) λb=>aU b (jn (λb=>ε 62 (υ a) 2 λc=>δ d 3 c λc=>ψ X 117 [c,υ m] d λc d g=>aU c (ε 62 (υ a) 3 λa=>δ d 3 a λa=>ψ X 117 [a,υ m] d λa c d=>b [a] c (ω f g d)) (b [aey] d (min f g))) (λa b c=>un a λa _=>R [a] b c)) (R [aex] d f))):=by kernel_rfl
theorem aaq:dp TE (aO TE X) f117 [x0,x1] m R=δ m 38 x1 λa=>ψ X 84 [a,x0] m λa b c=>ξ a 0 λd=>ξ a 1 λa=>ς b [χ 0,χ 0,χ 0,aew,χ 0,χ 0] 60 λf=>ι f 60 (υ b) d λb d=>R [a] b (ω m.n c d):=by kernel_rfl
theorem F47:dp TE (aO TE X) f47 [x0] m R=ρ m x0 43 λa=>ς a [χ 0,aew] 75 λb=>ε 43 (υ m) 1 λc=>δ b 39 c λc=>κ b .len [39] [c] λc _=>ε 43 (υ m) 2 λd=>δ b 40 d λd=>θ 75 [(0,c),(1,d)] λc=>ι b 75 (υ a) c λb c=>aj (ah TE b 75 (υ a)) λa=>R [a] b (min m.n c):=by kernel_rfl
theorem F23:dp TE (aO TE X) f23 [x0] m R=ρ m x0 43 λa=>jn (λb=>δ a 43 (υ m) λc=>ψ X 47 [c] a λa c d=>ψ X 53 [a] c λa c f=>ο .not a λa=>aU a (b [aex] c (ω m.n d f)) (ε 43 (υ m) 0 λa=>δ c 38 a λa=>ψ X 40 [a] c λa c g=>ο .not a λa=>aU a (b [aex] c (Γ m.n d f g)) (ε 43 (υ m) 3 λa=>δ c 41 a λa=>κ c .len [41] [a] λa _=>η .gtr 3 a (χ 10) λa=>b [a] c (Γ m.n d f g)))) (λa b c=>un a λa _=>aU a (R [aey] b c) (jn (λa=>ε 43 (υ m) 1 λd=>δ b 39 d λd=>ψ X 60 [d,.func (.func 54) #[] #[υ m]] b λb d f=>ο .not b λb=>aU b (ε 43 (υ m) 3 λb=>δ d 41 b λb=>ψ X 61 [b,.func (.func 56) #[] #[]] d λb d g=>ο .not b λb=>aU b (ε 43 (υ m) 3 λb=>δ d 41 b λb=>ψ X 62 [b,.func (.func 58) #[] #[]] d λb d h=>a [b] d (Γ c f g h)) (a [aey] d (ω c f g))) (a [aey] d (min c f))) (λa b c=>un a λa _=>R [a] b c))):=by kernel_rfl
theorem F54:dp TE (aO TE X) f54 [x0,x1] m R=ρ m x0 62 λa=>jn (λb=>δ a 62 (υ m) λc=>ψ X 51 [c] a λa c d=>ο .not a λa=>aU a (b [aex] c (min m.n d)) (ε 43 x1 0 λa=>δ c 38 a λa=>δ c 62 (υ m) λf=>ψ X 55 [a,f] c λa c f=>ο .not a λa=>b [a] c (ω m.n d f))) (λa b c=>un a λa _=>R [a] b c):=by kernel_rfl
theorem F56:dp TE (aO TE X) f56 [x0] m R=ρ m x0 79 λa=>δ a 79 (υ m) λb=>ψ X 57 [b] a λa b c=>ο .not a λa=>R [a] b (min m.n c):=by kernel_rfl
theorem F58:dp TE (aO TE X) f58 [x0,x1] m R=ρ m x0 79 λa=>ρ a x1 79 λb=>ε 79 (υ m) 0 λc=>δ b 3 c λc=>ε 79 (υ a) 0 λa=>δ b 3 a λa=>ψ X 59 [c,a] b λa b c=>R [a] b (min m.n c):=by kernel_rfl
theorem F87:dp TE (aO TE X) f87 [x0,x1] m R=ρ m x0 60 λa=>ρ a x1 143 λb=>ς b [χ 0,χ 0] 53 λc=>ε 60 (υ m) 3 λd=>δ c 58 d λd=>κ c .len [58] [d] λf _=>Lp (λc g h i=>un g λg _=>η .lss 3 g f λf=>aU f (ζ 58 d g λd=>δ h 141 d λd=>ς h [χ 0,χ 0] 141 λf=>ι f 141 (υ h) d λd f=>ε 60 (υ m) 3 λj=>δ d 58 j λj=>η .add 3 g (χ 1) λk=>ε 60 (υ m) 3 λl=>δ d 58 l λl=>κ d .len [58] [l] λl _=>η .rem 3 k l λk=>ζ 58 j k λj=>δ d 141 j λj=>ς d [χ 0,χ 0] 141 λk=>ι k 141 (υ d) j λj k=>jn (λb=>ε 143 (υ a) 0 λc=>δ j 141 c λc=>ψ X 150 [c,υ d,υ h] j λc g j=>ο .not c λc=>aU c (ε 143 (υ a) 1 λa=>δ g 141 a λa=>ψ X 150 [a,υ d,υ h] g λa c d=>ο .not a λa=>b [a] c (Δ i f k j d)) (b [aey] g (Γ i f k j))) (λa d f=>un a λa _=>aU a (ε 60 (υ m) 0 λa=>δ d 3 a λa=>θ 53 [(0,a),(1,g)] λa=>ι d 53 (υ b) a λa c=>aj (ah TE a 53 (υ b)) λb=>R [b] a (min f c)) (η .add 3 g (χ 1) λa=>c [a] d f))) (ε 60 (υ m) 0 λa=>δ h 3 a λa=>θ 53 [(0,a)] λa=>ι h 53 (υ b) a λa c=>aj (ah TE a 53 (υ b)) λb=>R [b] a (min i c))) [χ 0] c m.n:=by kernel_rfl
theorem Z7:dp TE W f150 [x0,x1,x2] m R=aaP W m x0 141 λa=>aaG W 141 x1 0 λb=>aaF W a 3 b λb=>aaG W 141 x2 0 λc=>aaF W a 3 c λc=>aaI W .sub 3 b c λb=>aaG W 141 (aaR m) 1 λc=>aaF W a 3 c λc=>aaG W 141 x2 1 λd=>aaF W a 3 d λd=>aaI W .sub 3 c d λc=>aaI W .mul 3 b c λb=>aaG W 141 x1 1 λc=>aaF W a 3 c λc=>aaG W 141 x2 1 λd=>aaF W a 3 d λd=>aaI W .sub 3 c d λc=>aaG W 141 (aaR m) 0 λd=>aaF W a 3 d λd=>aaG W 141 x2 0 λf=>aaF W a 3 f λf=>aaI W .sub 3 d f λd=>aaI W .mul 3 c d λc=>aaI W .neq 3 b c λb=>R [b] a m.n:=by kernel_rfl
theorem F37:dp TE (aO TE X) f37 [x0,x1] m R=ρ m x0 38 λa=>ρ a x1 62 λb=>δ b 38 (υ m) λc=>ε 62 (υ a) 2 λd=>δ b 3 d λd=>ψ X 84 [c,d] b λb c d=>ξ b 0 λf=>ξ b 1 λb=>ς c [χ 0,χ 0,χ 0,aew,χ 0,χ 0] 60 λg=>ι g 60 (υ c) f λf g=>ο .not b λb=>aU b (R [aew] f (ω m.n d g)) (jn (λb=>ε 62 (υ a) 0 λh=>δ f 3 h λh=>η .eql 3 h (χ 4) λi=>aU i (δ f 60 (υ c) λa=>ψ X 85 [a] f λa b c=>ψ X 33 [a,.func (.func 34) #[] #[]] b λ_ b f=>R [a] b (Δ m.n d g c f)) (η .eql 3 h (χ 5) λi=>aU i (ε 62 (υ a) 2 λh=>δ f 3 h λh=>ε 62 (υ a) 4 λa=>δ f 3 a λa=>θ 53 [(0,h),(1,a)] λa=>ς f [χ 0,χ 0] 53 λh=>ι h 53 (υ f) a λa h=>δ a 60 (υ c) λc=>ψ X 85 [c] a λc i j=>(a.n<=j)/\(δ i 53 (υ f) λa=>ψ X 36 [c,a] i λa c i=>aU a (δ c 53 (υ f) λa=>ν c 35 1 [(0,a)] λa b=>R [a] b (Θ m.n d g h j i)) (b [aew] c (Θ m.n d g h j i)))) (η .eql 3 h (χ 9) λh=>aU h (δ f 38 (υ m) λh=>ε 62 (υ a) 3 λa=>δ f 3 a λa=>ψ X 84 [h,a] f λa f h=>ξ a 0 λi=>ξ a 1 λa=>ς f [χ 0,χ 0,χ 0,aew,χ 0,χ 0] 60 λj=>ι j 60 (υ f) i λi j=>δ i 60 (υ c) λk=>δ i 60 (υ f) λl=>ψ X 86 [k,l] i λi k l=>ξ i 0 λn=>ξ i 1 λi=>ς k [χ 0,χ 0,χ 0,χ 0,χ 0,χ 0,χ 0,χ 0] 145 λo=>ι o 145 (υ k) n λn o=>jn (λb=>aU a (b [i] n (Λ m.n d g h j l o)) (b [aey] n (Λ m.n d g h j l o))) (λa d g=>un a λa _=>aU a (δ d 60 (υ c) λa=>ε 145 (υ k) 2 λb=>δ d 143 b λb=>ψ X 87 [a,b] d λa b c=>(d.n<=c)/\(δ b 60 (υ f) λd=>ε 145 (υ k) 2 λf=>δ b 143 f λf=>ψ X 87 [d,f] b λb d f=>ν d 35 2 [(0,a),(1,b)] λa b=>R [a] b (ω g c f))) (b [aew] d g))) (b [aew] f (ω m.n d g))))) (λa b c=>un a λ_ _=>R [aew] b c)):=by kernel_rfl
theorem F36:dp TE (aO TE X) f36 [x0,x1] m R=ρ m x1 53 λa=>δ a 53 (υ m) λb=>ψ X 83 [x0,b] a λa b c=>η .geq 3 a (χ 0) λa=>R [a] b (min m.n c):=by kernel_rfl
theorem F83:dp TE (aO TE X) f83 [x0,x1] m R=ρ m x1 53 λa=>κ a .len [35] [x0] λb _=>Lp (λa c d f=>un c λc g=>un g λg _=>η .lss 3 g b λb=>aU b (δ d 53 (υ m) λb=>ζ 35 x0 g λh=>δ d 53 h λh=>η .eql 53 b h λb=>aU b (R [g] d f) (η .add 3 g (χ 1) λb=>a [c,b] d f)) (R [χ (-1)] d f)) [χ 0,χ 0] a m.n:=by kernel_rfl
theorem F60:dp TE (aO TE X) f60 [x0,x1] m R=ψ X 121 [x0,x1] m λa b c=>η .geq 3 a (χ 0) λa=>R [a] b (min m.n c):=by kernel_rfl
theorem F61:dp TE (aO TE X) f61 [x0,x1] m R=ψ X 122 [x0,x1] m λa b c=>η .geq 3 a (χ 0) λa=>R [a] b (min m.n c):=by kernel_rfl
theorem F64:dp TE (aO TE X) f64 [x0,x1] m R=ψ X 123 [x0,x1] m λa b c=>η .geq 3 a (χ 0) λa=>R [a] b (min m.n c):=by kernel_rfl
end
end
section
variable {X:aM} {m:M}
theorem yU(hX:cy X){a lo hi:Int}:C X (.func 46) [aev a,aev lo,aev hi] m m.n (.bool (cW a lo hi)) m:=by
 refine Cl.fG hX (aaU func46) ?_;rw[F46];dsimp only[η];refine bA (λvs mm l=>vs=[.bool (cW a lo hi)]/\m.n<=l) (λQ H=>?_) ?_
 ·rw[cE,ae,ak];refine av (λc=>?_) (λc=>H _ _ _ ⟨by unfold cW;rw[c];rfl,aaV _⟩);rw[cE,ae];exact H _ _ _ ⟨by unfold cW;rw[c];rfl,aaV _⟩
 rintro _ mm l ⟨rfl,hl⟩;rw[aE];exact⟨rfl,hl⟩
theorem FU(H:cy X)(x y:Fc):C X (.func 34) [x.v,y.v] m m.n (aev (EC [cZ x.un y.un,cZ x.side y.side])) m:=by
 refine Cl.fG H (aaU func34) ?_;rw[F34];dsimp only[δ,ε,ν,ρ,υ,ψ,Γ];refine aw λm1 h0 d0 i0=>?_;refine aw λm2 j0 e0 g0=>?_;have g1:m2.get m.n=.cells x.c 53 none:=by rw[g0 _ (by omega)];exact d0
 have g2:m2.get m1.n=.cells y.c 53 none:=e0;obtain⟨a0,a1, -⟩:=oC g1;obtain⟨b0,b1, -⟩:=oC g2;unfold ptrTo;simp only[cT,dm,ae];rw[a0,ae,b0,ae];refine aH (eh H _ _) ⟨aaV _,?_⟩;rw[a1,ae,b1,ae];refine aH (eh H _ _) ?_;rw[mV,aA];obtain⟨m18,hm⟩:∃q,q=m2.push (.cells ([cZ x.un y.un,cZ x.side y.side].map (.int .i64)) 3 none):=⟨_,rfl⟩
 rw[<-hm];have g18:m18.get m2.n=.cells ([cZ x.un y.un,cZ x.side y.side].map (.int .i64)) 3 none:=by rw[hm];exact M.aY
 have n18:m2.n<=m18.n:=by rw[hm];exact acv _
 refine aH (Hd H (nq g18) (by grind)) ?_;exact⟨rfl,by omega⟩
abbrev HP(T t:TypeId)(W:Words)(x0 x1:aes)(m:M)(R:aet->M->Nat->Prop):Prop:=
(W.Lp (λP1 b0 m3 H=>W.un b0 λv5 r6=>W.un r6 λv7 r8=>(W.aR (az TE m3 .len [T] [x0]) λv9 _=>(W.aj (aC TE .lss 3 v7 v9) λv10=>(aU v10
(W.aj (aC TE .sub 3 v7 (.int .i64 1)) λv11=>(W.aj (an TE T x0 v11) λv12=>(W.aj (ah TE m3 t v12) λd0=>(W.aj (an TE T x0 v7) λe0=>(W.aj (ah TE m3 t e0) λg0=>(gJ x1 λg16 f17 h0=>(W.bB g16 (f17.toList++([d0,g0]++h0.toList)) m3 λi0 m20 a0=>(W.aj (aC TE .geq 3 i0 (.int .i64 0)) λv22=>(aU v22
(R [.bool false] m20 (min H a0))
(W.aj (aC TE .add 3 v7 (.int .i64 1)) λv23=>(P1 [v5,v23] m20 (min H a0))))))))))))
(R [.bool true] m3 H))))) [.bool false,.int .i64 1] m (M.n m))
theorem HO{T t:TypeId}{α:Type}[aZ α](hT:oO TE T t α)(d0:aZ.agg α){l:List α}{v:aes}{g1:Fn}{f1 c1:Array aes}{R:aet->M->Nat->Prop}(val:α->aet)(H:∀m x cs,aZ.rep m x cs->cs=val x)(hb:l.length < 1000000)(hl:Sl m l v)
  (hc:∀i x y,l[i]?=some x->l[i+1]?=some y->∃k:Int,k < 0/\C X g1 (f1.toList++([.agg (val x).toArray,.agg (val y).toArray]++c1.toList)) m m.n (aev k) m)
  (hR:R [aex] m m.n):HP T t (aO TE X) v (.func g1 f1 c1) m R:=by
 dsimp only[HP,aO];have b0:∀cs:aet,aZ.val α cs=.agg cs.toArray:=λcs=>by unfold aZ.val;rw[d0];rfl
 refine Lp.intro (γ:=Nat) (λi=>l.length+1-i) (λi vs m1 lo=>∃w,vs=[w,aev i]/\1<=i/\i<=l.length+1/\m=m1/\lo=m.n) 1 ⟨_,rfl,aaV _,by omega,rfl,rfl⟩ ?_;rintro i vs _ _ ⟨w,rfl,h1,hi,rfl,rfl⟩;rw[aE,aE,hl.len hT,aA,aQ,ae,ak];refine av (λc=>?_) (λc=>hR);have e0:i < l.length:=by grind
 rw[dJ,ae,wrap64,show(i:Int)-1=((i-1:Nat):Int) by omega];obtain⟨x,hx⟩:∃x,l[i-1]?=some x:=⟨_,qz⟩
 obtain⟨y,hy⟩:∃y,l[i]?=some y:=⟨_,aaW e0⟩
 have⟨a,cs,e1,e2,e3⟩:=hl.index hT (k:=.i64) hx;have⟨a',h0,e4,e5,e6⟩:=hl.index hT (k:=.i64) hy;have a0:=H _ _ _ e3;subst a0;have a0:=H _ _ _ e6;subst a0;rw[b0]at e2 e5;rw[e1,ae,e2,ae,e4,ae,e5,ae,cj];obtain⟨k,hk,g0⟩:=hc (i-1) x y hx (by grind);refine aH g0 ?_;rw[cO,ae,ak,tg,aT,aS,ae,wrap64];exact⟨i+1,by omega,w,rfl,by omega,by omega,rfl,by omega⟩
theorem OP(hX:cy X){l:List Fc}{v:aes}(hl:Sl m l v)(hlen:l.length < 1000000)(H:l.Pairwise fa):C X (.func 119) [v,.func (.func 34) #[] #[]] m m.n aex m:=by refine Cl.fG hX (aaU func119) ?_;rw[show∀{W:Words} {x0 x1:aes} {m:M} {R:aet->M->Nat->Prop},dp TE W f119 [x0,x1] m R=HP 35 53 W x0 x1 m R from aao];refine HO dZ rfl Fc.c (λm x cs h=>h) hlen hl (λi x y hx hy=>⟨_,?_,FU hX x y⟩) ⟨rfl,aaV _⟩;have h1:=aa0.1 hx;have h2:=aa0.1 hy;have:=abw.1 H i (i+1) h1.1 h2.1 (by omega);rw[h1.2,h2.2]at this;exact BP this
theorem Q5{W:Words}{x0 x1:aes}{m:M}{R:aet->M->Nat->Prop}:dU TE W f123 [x0,x1] m R=zK 35 53 W x0 x1 m R:=by kernel_rfl
theorem Q0{W:Words}{x0 x1:aes}{m:M}{R:aet->M->Nat->Prop}:dU TE W f121 [x0,x1] m R=zK 39 62 W x0 x1 m R:=by kernel_rfl
theorem Q1{W:Words}{x0 x1:aes}{m:M}{R:aet->M->Nat->Prop}:dU TE W f122 [x0,x1] m R=zK 41 79 W x0 x1 m R:=by kernel_rfl
theorem Ke{f:Fc}(h:(0<=f.un/\f.un<=99)/\ -2<=f.side/\f.side<=7):cW f.un 0 99/\cW f.side (-2) 7:=
 ⟨by unfold cW;rw[abb h.1.1,abb h.1.2];rfl,by unfold cW;rw[abb h.2.1,abb h.2.2];rfl⟩
theorem zI(H:cy X){x:QW}(hs:Sl m x.q.mS x.w)(hq:Yw x.q):C X (.func 57) [x.v] m m.n aex m:=by
 refine Cl.fG H (aaU func57) ?_;have hlen:=hq.len;rw[F57];dsimp only[δ,ε,η,κ,ο,ρ,υ,χ,ψ,Γ,ω];refine aw λm1 i0 e0 g0=>?_;have g1:m1.get m.n=.cells x.c 79 none:=e0;have x1:Ext m m1:=⟨by omega,g0⟩
 have b0:=hs.aG x1;obtain⟨a0,a1, -⟩:=PC g1;unfold ptrTo;simp only[lz,ll,ae];refine bA (λvs mm lo=>vs=[aex]/\m.n<=lo) (λQ hQ=>?_) ?_
 ·rw[a0,ae];refine aH (yU H) ?_;rw[show cW x.q.id 0 99=true by unfold cW;rw[abb hq.id.1,abb hq.id.2];rfl,ak,bH,a1,ae,b0.len dZ,aA,cE,ae,ak,VF,bH,ae]
  have hc:C X (.func 64) [x.w,.func (.func 118) #[] #[]] m1 m1.n aey m1:=by
   refine Cl.fG H (aaU func64) ?_;rw[F64];dsimp only[η,χ,ψ];refine aH (eL dZ (H.no _ rfl) (aaU func123) rfl Q5 (λ_=>false) (by omega) b0 λf hf cs hr=>?_) ?_
   ·have hr:cs=f.c:=hr;subst hr;have⟨b1,b2⟩:=Ke (hq.ok f hf);refine Cl.sW (args:=[f.v]) (H.no _ rfl) (aaU func118) rfl rfl ?_;rw[aap];dsimp only[δ,ε,ο,ρ,υ,χ,ψ,ω];refine aw λm2 j0 h0 k0=>?_;have g2:m2.get m1.n=.cells f.c 53 none:=h0;obtain⟨c0,c1, -⟩:=oC g2;unfold ptrTo;refine bA (λvs mm lo=>vs=[aey]/\m1.n<=lo) (λQ hQ=>?_) ?_
    ·rw[cT,ae,c0,ae];refine aH (yU H) ?_;rw[b1,bE,ae,ak];show gG false _ _;rw[aT,dm,ae,c1,ae];refine aH (yU H) ?_;rw[b2,bE,ae];exact hQ _ _ _ ⟨rfl,by omega⟩
    rintro _ mm lo ⟨rfl,d0⟩;rw[aE];exact⟨rfl,d0⟩
   rw[cO,ae,ia];refine⟨?_,by omega⟩;show Value.bool (x.q.mS.any λ_=>false)=_;rw[acP.2 λx _=>by decide]
  refine aH hc ?_;rw[bE,ae,ak];show gG true _ _;rw[bH,a1,ae];refine aH (OP H b0 (by omega) hq.uS) ?_;exact hQ _ _ _ ⟨rfl,by omega⟩
 rintro _ mm lo ⟨rfl,d0⟩;rw[aE];exact⟨rfl,d0⟩
theorem yV(hX:cy X){l:List UW}{r r2 st rc mo:aes}(h:cY m l r)(hl:l.length < 1000000)(h1:(yc r r2 st rc mo).all one)(id:Int):
  ∃rv m',C X (.func 84) [yv r r2 st rc mo,aev id] m m.n rv m'/\Ext m m'/\eX (bR l) id m' rv:=by
 refine Cl.FD hX (aaU func84) ?_;rw[F84];dsimp only[δ,ε,ζ,η,θ,ι,ρ,ς,υ,χ,ψ,ω];refine aw λm1 v0 i0 y0=>?_;refine aw λm2 z0 j0 k0=>?_;refine aw λm3 A0 l0 b0=>?_;have n0:Ext m m3:=⟨by omega,by grind⟩
 have g1:m3.get m.n=.cells (yc r r2 st rc mo) 38 none:=by rw[b0 _ (by omega),k0 _ (by omega)];exact i0
 have g2:m3.get m1.n=.cells [aev id] 3 none:=by rw[b0 _ (by omega)];exact j0
 have g3:m3.get m2.n=.cells Un.zc 60 none:=l0;have H:=h.aG n0;unfold ptrTo;simp only[cH,cd,bN,ae];rw[(xB g1).2.1,ae];refine aH (eL dt (hX.no _ rfl) (aaU func145) rfl uE (l:=l) (λx=>decide (x.u.id=id)) (by omega) H.sl λx hx cs hr=>?_) ?_
 ·obtain⟨rfl,hw⟩:cs=x.c/\one x.w:=hr;refine Cl.sW (args:=[x.v,aeq m1.n 0]) (hX.no _ rfl) (aaU func146) rfl rfl ?_;rw[aab];dsimp only[δ,ε,η,ρ,υ];refine aw λm4 B0 o0 p0=>?_;have g4:m4.get m3.n=.cells (x.u.c x.w) 60 none:=o0;unfold ptrTo;rw[bD,ae,(kb g4).1,ae,wS (show m4.get m1.n=_ from(p0 _ (by omega)).trans g2),ae,aW,ae];exact⟨rfl,aaV _⟩
 rcases iU (λx:UW=>decide (x.u.id=id)) l with⟨e1,e2⟩ |⟨i,x,e1,e2,e3,e4⟩
 ·rw[e1,aQ,ae,ak,abb (by decide),bH,show aK TE 60 []=some (.agg Un.zc.toArray)from kL,ae];refine aD df g3 rfl rfl rfl λm12 q0 d0 r0=>?_;have g12:m12.get m2.n=.cells (Un.c ⟨0,0,0,[],0,0⟩ aew) 60 none:=d0;rw[bV g12,ae];refine .inl ⟨rfl,by omega,by grind,.refl,?_⟩;unfold eX cf
  rw[ac8.2 λy hy=>by obtain⟨x,hx,rfl⟩:=abF.1 hy;have:=e2 x hx;simpa using this]
  rfl
 rw[e1,aQ,ae,ak,tg,aT,(xB g1).2.1,ae];obtain⟨p,f1,f2, -⟩:=H.sl.fx (k:=.i64) e2;rw[f1,ae,f2,ae];have e0:=aa2 e2;refine aD df g3 rfl rfl (Un.cM (h.sh x e0).one) λm20 u0 g0 h0=>?_;have g20:m20.get m2.n=.cells (x.u.c x.w) 60 none:=g0;rw[bV g20,ae];refine yO (m':=m20) (by grind) ?_ (by omega) ⟨by omega,by grind⟩;unfold eX
 have a0:cf (bR l) id=some x.u:=by
  unfold cf bR
  refine pz (i:=i) (by grind) e3 λj y hj hy=>?_
  grind
 rw[a0];exact⟨x.w,rfl,(H.sh x e0).bs λc cs t g hc ht=>by rw[h0 c (λe=>by subst e;rw[g3]at hc;cases hc;simp[aZ.ty,aZ.dd]at ht),hc]⟩
theorem Rt(hX:cy X){l:List UW}{b:Nat}{r r2 st rc mo:aes}(g:m.get b=.cells (yc r r2 st rc mo) 38 none)(h:cY m l r)(hP:cx (bR l))(hl:l.length < 1000000)(h1:(yc r r2 st rc mo).all one)(id:Int):
  C X (.func 117) [aev id,aeq b 0] m m.n (.bool (cf (bR l) id).isSome) m:=by refine Cl.fG hX (aaU func117) ?_;rw[aaq];dsimp only[δ,ι,ξ,ς,υ,χ,ψ,ω];rw[(dP g).2.2.2.2,ae];have⟨rv,m3,c3,x3,f3⟩:=yV (m:=m) hX h hl h1 id;refine aH c3 ?_;obtain⟨u,wu,bb,rfl,fu⟩:=f3.PF hP;have n3:=x3.n;rw[aJ,aJ];simp only[aaY,aaX,ae];refine aw λm7 a0 H b0=>?_;unfold ptrTo;refine aD df H rfl rfl (Un.cM fu.sl.one) λm8 d0 e0 g0=>?_;exact⟨by rw[fu.is];rfl,by omega⟩
theorem FF(hX:cy X){y:Yd}{r r2 st rc mo:aes}{t:Tk}{w:aes}(hV:lM m y r r2 st rc mo)(hP:oL y):C X (.func 55) [yv r r2 st rc mo,t.v w] m m.n (.bool (uh y.us t)) m:=by
 refine Cl.fG hX (aaU func55) ?_;have d0:=hV.ee;obtain⟨⟨l,H,hF⟩, -⟩:=hV;have e0:cx (bR l):=by rw[H];exact hP.qk
 have k0:l.length<=12:=by have:=hP.qk.len;rwa[<-H,cI]at this
 rw[F55];dsimp only[δ,ε,η,ρ,υ,χ,ψ,ω];refine aw λm1 l0 g0 n0=>?_;refine aw λm2 o0 h0 i0=>?_;have j0:Ext m m2:=⟨by omega,by grind⟩
 have g1:m2.get m.n=.cells (yc r r2 st rc mo) 38 none:=by rw[i0 _ (by omega)];exact g0
 have g2:m2.get m1.n=.cells (t.c w) 62 none:=h0;obtain⟨a0,a1,a2, -, -⟩:=lQ g2;have has:=λid=>Rt (m:=m2) hX g1 (hF.aG j0) e0 (by omega) d0 id;rw[H]at has;unfold ptrTo;simp only[cC,cp,cK,ae];rw[a0,ae];refine bA (λvs mm lo=>vs=[.bool (decide (t.kind=4\/t.kind=5))]/\m2=mm/\m.n<=lo) (λQ hQ=>?_) ?_
 ·rw[aW,ae,ak];refine av (λc=>hQ _ _ _ ⟨?_,rfl,aaV _⟩) (λc=>?_);·rw[c,abb (Or.inl (aa1 c))]
  ·rw[aW,ae]
   refine hQ _ _ _ ⟨?_,rfl,aaV _⟩
   have c:=aaZ c
   congr 2
   exact decide_eq_decide.2 ⟨λh=> .inr h,λh=>h.resolve_left c⟩
 rintro _ _ lo ⟨rfl,rfl,b0⟩;rw[aE,ak];refine av (λc=>?_) (λc=>?_)
 ·have c:=aa1 c;rw[a1,ae];refine aH (has t.id) ⟨?_,by omega⟩;unfold uh;rw[jz]
  have:(!decide (t.kind=4) && !decide (t.kind=5))=false:=by
   grind
  rw[this,ac6];rfl
 have c:=aaZ c;rw[aW,ae,ak];refine av (λc9=>?_) (λc9=>?_)
 ·have c9:=aa1 c9;refine bA (λvs mm lo=>vs=[.bool (uh y.us t)]/\m.n<=lo) (λQ hQ=>?_) ?_
  ·unfold uh at hQ;rw[aa5 c9]at hQ;rw[a1,ae];refine aH (has t.id) ?_;rw[ak];refine av (λd=>?_) (λd=>hQ _ _ _ ⟨by grind,by omega⟩);rw[a2,ae];refine aH (has t.other) ?_;exact hQ _ _ _ ⟨by grind,by omega⟩
  rintro _ mm lo ⟨rfl,b0⟩;rw[aE];exact⟨rfl,b0⟩
 have c9:=aaZ c9;refine⟨?_,b0⟩;unfold uh;rw[aa4 c9]
 have:(!decide (t.kind=4) && !decide (t.kind=5)):=by
  grind
 rw[this,Bool.or_true];rfl
theorem yp(hX:cy X){s:nR}{r r2 st rc mo tv pv qv:aes}(H:zD m s r r2 st rc mo tv pv qv):∃m',C X (.func 47) [Ai r r2 st rc mo tv pv qv] m m.n (PE s.ts.length pv) m'/\Ext m m':=by
 obtain⟨l,hl,hs, -⟩:=H.ts;have a0:l.length=s.ts.length:=by grind
 have b0:=H.ps.cells;have d0:=H.ps.one;refine Cl.Tv hX (aaU func47) (R:=λrv m'=>rv=PE s.ts.length pv/\Ext m m') ?_ λrv m' hc ⟨e,hx⟩=>⟨m',e ▸ hc,hx⟩
 rw[F47];dsimp only[δ,ε,θ,ι,κ,ρ,ς,υ,χ];refine aw λm1 l0 e0 n0=>?_;refine aw λm2 o0 g0 h0=>?_;have i0:Ext m m2:=⟨by omega,by grind⟩
 have g1:m2.get m.n=.cells (scc r r2 st rc mo tv pv qv) 43 none:=by rw[h0 _ (by omega)];exact e0
 have g2:m2.get m1.n=.cells [aev 0,aew] 75 none:=g0;unfold ptrTo;rw[fW,ae,(rX g1).2.1,ae,(hs.aG i0).len iy,aA,iH,ae,(rX g1).2.2.1,ae,a0];rw[show aK TE 75 [(0,aev (s.ts.length:Int)),(1,pv)]=some (PE s.ts.length pv) by rw[Cr rfl (by grind),b0];rfl,ae];refine aD RY g2 rfl rfl (by show(true && (one pv && true))=true;rw[d0];rfl) λm9 p0 j0 q0=>?_;have g9:m9.get m1.n=.cells [aev (s.ts.length:Int),pv] 75 none:=j0;rw[(Jl g9).2.2,ae];have k0:Ext m m9:=⟨by omega,by grind⟩
 cases hf:bF (PE s.ts.length pv);·exact .inr ⟨.inl hf,by omega,rfl,k0⟩
 exact .inl ⟨hf,by omega,by grind,rfl,.refl⟩
theorem M8{s:nR}(h:EA s):GD s.ts.length s.ps:=h.od
theorem VB(H:cy X){s:nR}{r r2 st rc mo tv pv qv:aes}{b:Nat}(hS:EA s)(hV:zD m s r r2 st rc mo tv pv qv)(g:m.get b=.cells (scc r r2 st rc mo tv pv qv) 43 none){x:TW}(hs:Sl m x.t.un.shape x.w)(h4:x.t.un.shape.length<=4)(hf:dI x.t)(ho:uh s.y.us x.t):
  C X (.func 54) [x.v,aeq b 0] m m.n aey m:=by
 refine Cl.fG H (aaU func54) ?_;rw[F54];dsimp only[δ,ε,ο,ρ,υ,ψ,ω];refine aw λm1 e0 a0 b0=>?_;have x1:Ext m m1:=⟨by omega,b0⟩
 have g1:m1.get m.n=.cells (x.t.c x.w) 62 none:=a0;have gs:=x1.cells g;unfold ptrTo;refine bA (λvs mm lo=>vs=[aey]/\m.n<=lo) (λQ hQ=>?_) ?_
 ·rw[fL g1,ae];refine aH (xF H (hs.aG x1) (by omega) hf) ?_;rw[bE,ae,ak];show gG false _ _;rw[aT,fX,ae,(rX gs).1,ae,fL g1,ae];refine aH (FF H (hV.y.aG x1) hS.y) ?_;rw[ho,bE,ae];exact hQ _ _ _ ⟨rfl,by omega⟩
 rintro _ mm lo ⟨rfl,d0⟩;rw[aE];exact⟨rfl,d0⟩
theorem VA(hX:cy X){x:QW}(hs:Sl m x.q.mS x.w)(hq:Yw x.q):C X (.func 56) [x.v] m m.n aey m:=by refine Cl.fG hX (aaU func56) ?_;rw[F56];dsimp only[δ,ο,ρ,υ,ψ];refine aw λm1 b0 H a0=>?_;have g1:m1.get m.n=.cells x.c 79 none:=H;unfold ptrTo;rw[(PC g1).2.2,ae];refine aH (zI hX (hs.aG ⟨by omega,a0⟩) hq) ?_;rw[bE,ae];exact⟨rfl,by omega⟩
theorem Vz(hX:cy X){x y:QW}(h:x.q.id < y.q.id):C X (.func 58) [x.v,y.v] m m.n (aev (-1)) m:=by
 refine Cl.fG hX (aaU func58) ?_;rw[F58];dsimp only[δ,ε,ρ,υ,ψ];refine aw λm1 d0 H e0=>?_;refine aw λm2 g0 a0 b0=>?_;have g1:m2.get m.n=.cells x.c 79 none:=by rw[b0 _ (by omega)];exact H
 have g2:m2.get m1.n=.cells y.c 79 none:=a0;unfold ptrTo;rw[lz,ae,(PC g1).1,ae,lz,ae,(PC g2).1,ae];refine aH (eh hX _ _) ?_;exact⟨by unfold cZ;rw[aa5 h];rfl,by omega⟩
theorem Kh(H:cy X){s:nR}{r r2 st rc mo tv pv qv:aes}(hS:EA s)(hV:zD m s r r2 st rc mo tv pv qv):C X (.func 23) [Ai r r2 st rc mo tv pv qv] m m.n aex m:=by
 refine Cl.fG H (aaU func23) ?_;have l0:=hS.ql;have n0:=hS.tl;rw[F23];dsimp only[δ,ε,η,κ,ο,ρ,υ,χ,ψ,Γ,ω];refine aw λm1 o0 i0 j0=>?_;have x1:Ext m m1:=⟨by omega,j0⟩
 have g1:m1.get m.n=.cells (scc r r2 st rc mo tv pv qv) 43 none:=i0;have a0:=hV.aG x1;unfold ptrTo;simp only[fX,fW,iG,ae];refine bA (λvs mm lo=>vs=[aey]/\Ext m1 mm/\m.n<=lo) (λQ hQ=>?_) ?_
 ·rw[(rX g1).2.2.2.2,ae];have⟨m8,c8,x8⟩:=yp (m:=m1) H a0;refine aH c8 ?_;have n8:=x8.n;refine aH (Jj H (M8 hS) (a0.ps.aG x8)) ?_;rw[bE,ae,ak];show gG false _ _;rw[aT,(rX (x8.cells g1)).1,ae];refine aH (tD H (a0.y.aG x8) hS.y) ?_;rw[bE,ae,ak];show gG false _ _;obtain⟨q,hq,b0, -⟩:=(a0.aG x8).qs;have:q.length=s.qs.length:=by grind
  rw[aT,(rX (x8.cells g1)).2.2.2.1,ae,b0.len nj,aA,bX,ae,tg];exact hQ _ _ _ ⟨rfl,x8,by omega⟩
 rintro _ m4 lo ⟨rfl,x4,p0⟩;rw[aE,ak,aT];have e0:=a0.aG x4;have g4:=x4.cells g1;have n4:=x4.n;have⟨l,hl,hs,k0⟩:=e0.ts;have⟨q,hq,b0,g0⟩:=e0.qs;have q0:l.length=s.ts.length:=by grind
 have r0:q.length=s.qs.length:=by grind
 refine bA (λvs mm lo=>vs=[aex]/\m.n<=lo) (λQ hQ=>?_) ?_
 ·rw[(rX g4).2.1,ae]
  have c1:C X (.func 60) [tv,.func (.func 54) #[] #[aeq m.n 0]] m4 m4.n aey m4:=by
   refine Cl.fG H (aaU func60) ?_;rw[F60];dsimp only[η,χ,ψ];refine aH (eL iy (H.no _ rfl) (aaU func121) rfl Q0 (l:=l) (λ_=>false) (by omega) hs λx hx cs hr=>?_) ?_
   ·obtain⟨rfl, -⟩:cs=x.c/\one x.w:=hr;have⟨h1,h2,h3⟩:=k0 x hx;exact VB H hS e0 g4 h1 h2 h3 (hS.ts x.t (by grind)).2
   ·rw[cO,ae,ia]
    refine⟨?_,by omega⟩
    show Value.bool (l.any λ_=>false)=_
    grind
  refine aH c1 ?_;rw[bE,ae,ak];show gG true _ _;rw[bH,(rX g4).2.2.2.1,ae]
  have c2:C X (.func 61) [qv,.func (.func 56) #[] #[]] m4 m4.n aey m4:=by
   refine Cl.fG H (aaU func61) ?_;rw[F61];dsimp only[η,χ,ψ];refine aH (eL nj (H.no _ rfl) (aaU func122) rfl Q1 (l:=q) (λ_=>false) (by omega) b0 λx hx cs hr=>?_) ?_
   ·obtain⟨rfl, -⟩:cs=x.c/\one x.w:=hr;exact VA H (g0 x hx).1 (g0 x hx).2
   ·rw[cO,ae,ia]
    refine⟨?_,by omega⟩
    show Value.bool (q.any λ_=>false)=_
    grind
  refine aH c2 ?_;rw[bE,ae,ak];show gG true _ _;rw[bH,(rX g4).2.2.2.1,ae]
  have c3:C X (.func 62) [qv,.func (.func 58) #[] #[]] m4 m4.n aex m4:=by
   refine Cl.fG H (aaU func62) ?_
   rw[show∀{W:Words} {x0 x1:aes} {m:M} {R:aet->M->Nat->Prop},dp TE W f62 [x0,x1] m R=HP 41 79 W x0 x1 m R from F62]
   refine HO nj rfl QW.c (λm x cs h=>h.1) (by omega) b0 (λi x y hx hy=>⟨-1,by decide,Vz H ?_⟩) ⟨rfl,aaV _⟩
   have h1:=aa0.1 hx
   have h2:=aa0.1 hy
   have d0:=hS.uS
   rw[<-hq]at d0
   have:=abw.1 (adi.1 d0) i (i+1) h1.1 h2.1 (by omega)
   grind
  refine aH c3 ?_;exact hQ _ _ _ ⟨rfl,by omega⟩
 rintro _ mm gh ⟨rfl,h0⟩;rw[aE];exact⟨rfl,h0⟩
end
section
section
variable {X:aM}{x0 x1 x2 x3 x4:aes}{m:M}{R:aet->M->Nat->Prop}{W:Words}
theorem F32:dp TE (aO TE X) f32 [x0] m R=ρ m x0 43 λa=>δ a 43 (υ m) λb=>ψ X 47 [b] a λa b c=>ς b [χ 0,aew] 75 λd=>ι d 75 (υ b) a λa d=>ς a [.nilFunc] 155 λf=>ι f 155 (υ a) (.func (.func 76) #[] #[υ m,υ b]) λb f=>R [.func (.func 77) #[] #[υ m,υ a]] b (Γ m.n c d f):=by kernel_rfl
theorem F76:dp TE (aO TE X) f76 [x0,x1,x2,x3,x4] m R=ρ m x2 53 λa=>ε 43 x3 1 λb=>δ a 39 b λb=>ζ 39 b x0 λb=>δ a 62 b λb=>ς a [χ 0,χ 0,χ 0,χ 0,aew,χ 0,χ 0,χ 0,χ 0,χ 0,χ 0] 62 λc=>ι c 62 (υ a) b λb c=>jn (λd=>ε 62 (υ a) 0 λf=>δ b 3 f λf=>η .eql 3 f (χ 8) λf=>aU f (ε 62 (υ a) 2 λf=>δ b 3 f λf=>ε 53 (υ m) 0 λg=>δ b 3 g λg=>η .eql 3 f g λf=>aU f (ε 62 (υ a) 4 λa=>δ b 3 a λa=>ε 53 (υ m) 1 λf=>δ b 3 f λf=>η .eql 3 a f λa=>aU a (δ b 75 x4 λa=>ψ X 49 [a,x0,x1] b λa b f=>d [a] b (ω m.n c f)) (d [aey] b (min m.n c))) (d [aey] b (min m.n c))) (d [aey] b (min m.n c))) (λa b c=>un a λa _=>R [a] b c):=by kernel_rfl
theorem F77:dp TE (aO TE X) f77 [x0,x1,x2] m R=ε 43 x1 1 λa=>δ m 39 a λa=>κ m .len [39] [a] λb _=>Lp (λc d f g=>un d λd _=>η .lss 3 d b λb=>aU b (ζ 39 a d λa=>δ f 62 a λa=>ς f [χ 0,χ 0,χ 0,χ 0,aew,χ 0,χ 0,χ 0,χ 0,χ 0,χ 0] 62 λb=>ι b 62 (υ f) a λa b=>ε 43 x1 0 λh=>δ a 38 h λh=>δ a 62 (υ f) λf=>ψ X 37 [h,f] a λa f h=>κ f .len [35] [a] λi _=>Lp (λb f g h=>un f λf _=>η .lss 3 f i λi=>aU i (ζ 35 a f λa=>δ g 53 a λa=>ς g [χ 0,χ 0] 53 λc=>ι c 53 (υ g) a λa c=>ε 43 x1 0 λi=>ε 38 i 2 λi=>δ a 35 i λi=>δ a 53 (υ g) λj=>ψ X 36 [i,j] a λa i j=>ε 43 x1 1 λk=>δ i 39 k λk=>κ i .len [39] [k] λk _=>Lp (λa c h i=>un c λc j=>un j λj _=>η .lss 3 j k λk=>aU k (aU c (η .add 3 j (χ 1) λb=>a [aex,b] h i) (δ h 155 x2 λb=>δ h 53 (υ g) λc=>gJ b λb f g=>bB TE X b (f.toList++([j,d,c]++g.toList)) h λb c d=>η .add 3 j (χ 1) λf=>a [b,f] c (min i d))) (ε 43 x1 3 λa=>δ h 41 a λa=>κ h .len [41] [a] λj _=>Lp (λh i k l=>un i λi _=>η .lss 3 i j λj=>aU j (ζ 41 a i λa=>δ k 79 a λa=>ς k [χ 0,aew] 79 λb=>ι b 79 (υ k) a λa b=>jn (λf=>ο .not c λc=>aU c (ε 79 (υ k) 1 λc=>δ a 35 c λc=>δ a 53 (υ g) λh=>ψ X 36 [c,h] a λa c h=>aU a (δ c 53 (υ g) λa=>θ 55 [(0,d),(1,a),(2,i)] λa=>gJ x0 λd g i=>bB TE X d (g.toList++([a]++i.toList)) c λa c d=>ο .not a λa=>f [a] c (Γ l b h d)) (f [aey] c (ω l b h))) (f [aey] a (min l b))) (λa b c=>un a λa _=>aU a (R [] b c) (η .add 3 i (χ 1) λa=>h [a] b c))) (η .add 3 f (χ 1) λa=>b [a] k l)) [χ 0] h i)) [a,χ 0] i (ω h c j)) (η .add 3 d (χ 1) λa=>c [a] g h)) [χ 0] f (ω g b h)) (R [] f g)) [χ 0] m m.n:=by kernel_rfl
theorem F8:dp TE W Tryz.f8 [x0] m R=W.bJ (M.push m (.cells (cells x0) 43 none)) λa=>W.aj (ah TE a 43 (ptrTo m.n)) λb=>W.bB (.func 23) [b] a λa b c=>W.aj (dh .not a) λa=>aU a (R [aew,.int .i64 290] b (min m.n c)) (W.aj (ah TE b 43 (ptrTo m.n)) λa=>W.bB (.func 32) [a] b λa b d=>W.bB (.func 31) [a] b λa b f=>R [a,.int .i64 0] b (min (min (min m.n c) d) f)):=by kernel_rfl
theorem F31:dp TE (aO TE X) f31 [x0] m R=ψ X 75 [aew,x0] m λa b c=>R [a] b (min m.n c):=by kernel_rfl
theorem F75:dp TE (aO TE X) f75 [x0,x1] m R=ρ m x0 45 λa=>gJ x1 λb c d=>RF TE X b c.toList d.toList a m.n (λb c d=>un b λb f=>Ik f (ς c [χ 0,χ 0,χ 0,χ 0] 55 λf=>ι f 55 (υ c) b λb f=>Qr a.n c b λb=>δ b 45 (υ m) λg=>δ b 55 (υ c) λh=>ν b 45 1 [(0,h)] λh i=>κ (M.wl i i.n) .append [45,45] [g,h] λg h=>ι h 45 (υ m) g λg i=>d b .normal g (Δ c.n f a.n (M.low h) i))) (λa b=>δ a 45 (υ m) λc=>R [c] a b) []:=by kernel_rfl
theorem F14:dp TE (aO TE X) f14 [x0,x1] m R=jn (λa=>η .lss 3 x0 (χ 0) λb=>aU b (η .add 3 x0 (χ 1) λb=>ο .neg b λb=>a [b] m m.n) (a [x0] m m.n)) (λa b c=>un a λa _=>η .rem 3 a x1 λa=>R [a] b c):=by kernel_rfl
end
end
section
variable {X:aM} {m:M}
theorem jl(hX:cy X){l:List Fc}{v:aes}(h:Sl m l v)(hl:l.length < 1000000)(f:Fc):C X (.func 36) [v,f.v] m m.n (.bool (decide (f∈l))) m:=by
 have e0:∀{m:M},Sl m l v->C X (.func 83) [v,f.v] m m.n (aev (idx (λx:Fc=>decide (f=x)) l)) m:=λ{m} h=>by
  refine Cl.fG hX (aaU func83) ?_;rw[F83];dsimp only[δ,ζ,η,κ,ρ,υ,χ];refine aw λm1 g0 H a0=>?_;have g1:m1.get m.n=.cells f.c 53 none:=H;have h1:=h.aG (m':=m1) ⟨by omega,a0⟩;unfold ptrTo;rw[h1.len dZ,aA];refine Lp.intro (γ:=Nat) (λi=>l.length-i) (λi vs mm lo=>∃z,vs=[z,aev i]/\i<=l.length/\m1=mm/\m.n<=lo/\∀j x,j < i->l[j]?=some x->decide (f=x)=false) 0 ⟨_,rfl,aa6 _,rfl,aaV _,λj x hj=>by omega⟩ ?_;rintro i vs _ lo ⟨z,rfl,hi,rfl,b0,d0⟩;rw[aE,aE,aQ,ae,ak];refine av (λc=>?_) (λc=>?_)
  ·have h0:i < l.length:=by grind
   obtain⟨x,hx⟩:∃x,l[i]?=some x:=⟨_,aaW h0⟩
   have⟨p,e1,e2⟩:=sX h1 hx;rw[(oC g1).2.2,ae,e1,ae,e2,ae,HK,ae,ak];refine av (λd=>⟨by rw[BZ (i:=i) hx d d0];rfl,b0⟩) (λd=>?_);rw[aS,ae,wrap64];refine⟨i+1,by omega,z,rfl,by omega,rfl,b0,λj y hj hy=>?_⟩;by_cases e:j=i;·subst e;rw[hx]at hy;cases hy;exact d
   exact d0 j y (by omega) hy
  have i0:i=l.length:=by have:¬(i:Int)< (l.length:Int):=aaZ c;omega
  subst i0;refine⟨?_,b0⟩;rw[sQ λx hx=>by have⟨j,hj⟩:=abi hx;exact d0 j x (aa0.1 hj).1 hj];rfl
 refine Cl.fG hX (aaU func36) ?_
 rw[F36];dsimp only[δ,η,ρ,υ,χ,ψ]
 refine aw λm1 g0 H a0=>?_
 have g1:m1.get m.n=.cells f.c 53 none:=H
 unfold ptrTo
 rw[(oC g1).2.2,ae]
 refine aH (e0 (h.aG ⟨by omega,a0⟩)) ?_
 rw[cO,ae,ia]
 refine⟨?_,by omega⟩
 show Value.bool (l.any λx=>decide (f=x))=_
 congr 1
 rw[adF,ab8,abm]
 constructor
 ·rintro⟨x,hx,e⟩;rw[aa1 e];exact hx
 ·exact λh=>⟨f,h,abb rfl⟩
theorem YE{b:Nat}{p:Pl}{g:Option Nat}(h:m.get b=.cells p.c 141 g):ah TE m 3 (aeq b (0+0))=some (aev p.x)/\ah TE m 3 (aeq b (0+1))=some (aev p.y):=by
 refine⟨?_,?_⟩;·rw[bO,aL h];rfl
 rw[bO,aL h];rfl
theorem Tj(hX:cy X){a b p:Pl}{ba bb:Nat}(ga:m.get ba=.cells a.c 141 none)(gb:m.get bb=.cells b.c 141 none):C X (.func 150) [p.v,aeq bb 0,aeq ba 0] m m.n (.bool (M6 a b p)) m:=by
 refine Cl.fG hX (aaU func150) ?_;rw[Z7];dsimp only[aO,aaF,aaG,aaI,aaP,aaR];refine aw λm1 e0 H d0=>?_;have x1:Ext m m1:=⟨by omega,d0⟩
 have gp:m1.get m.n=.cells p.c 141 none:=H;have⟨a0,a1⟩:=YE (x1.cells ga);have⟨b0,b1⟩:=YE (x1.cells gb);have⟨p0,p1⟩:=YE gp;unfold ptrTo;simp only[ck,cU,ae,a0,a1,b0,b1,p0,p1,dJ,gD,bZ];exact⟨rfl,aaV _⟩
theorem smf{b:Nat}{p q:Pl}{g:Option Nat}(h:m.get b=.cells (js p q) 143 g):ah TE m 141 (aeq b (0+0))=some p.v/\ah TE m 141 (aeq b (0+2))=some q.v:=by
 refine⟨?_,?_⟩;·rw[kX,aP (n:=2) h (by grind)];rfl
 rw[kX,aP (n:=2) h (by grind)];rfl
theorem Ee(hX:cy X){u:Un}{w:aes}(hw:Sl m u.shape w)(hl:u.shape.length < 1000000)(p q:Pl):C X (.func 87) [u.v w,.agg (js p q).toArray] m m.n (vo u p q).v m:=by
 refine Cl.fG hX (aaU func87) ?_;rw[F87];dsimp only[δ,ε,ζ,η,θ,ι,κ,ο,ρ,ς,υ,χ,ψ,Γ,Δ];refine aw λm1 c1 n0 I0=>?_;refine aw λm2 d1 o0 p0=>?_;refine aw λm3 h1 q0 h0=>?_;have r0:Ext m m3:=⟨by omega,by grind⟩
 have g1:m3.get m.n=.cells (u.c w) 60 none:=by rw[h0 _ (by omega),p0 _ (by omega)];exact n0
 have g2:m3.get m1.n=.cells (js p q) 143 none:=by rw[h0 _ (by omega)];exact o0
 have g3:m3.get m2.n=.cells (Fc.c ⟨0,0⟩) 53 none:=q0;have hn:m.n < m1.n/\m1.n < m2.n/\m2.n < m3.n:=by omega
 clear n0 I0 o0 p0 q0 h0;unfold ptrTo;simp only[bD,bL,wk,wj,ae];rw[(kb g1).2.2.2.1,ae,(hw.aG r0).len cF,aA];obtain⟨ok,u0⟩:∃f:Nat->Bool,f=λi=> !M6 (gd u.shape i) (KH u.shape i) p && !M6 (gd u.shape i) (KH u.shape i) q:=⟨_,rfl⟩
 have b0:vo u p q=match(List.range u.shape.length).find? ok with |some i=>⟨u.id,i⟩ |none=>⟨u.id,0⟩:=by rw[u0];rfl
 refine Lp.intro (γ:=Nat) (λi=>u.shape.length-i) (λi vs mm lo=>vs=[aev i]/\i<=u.shape.length/\m.n<=lo/\Ext m3 mm/\∀j,j < i->ok j=false) 0 ⟨rfl,aa6 _,aaV _,.refl,λj hj=>by omega⟩ ?_;rintro i vs mm lo ⟨rfl,hi,i1,a0,v0⟩;have y0:=hw.aG (r0.trans a0);have nm:=a0.n;rw[aE,aQ,ae,ak];refine av (λc=>?_) (λc=>?_)
 ·have z0:i < u.shape.length:=by grind
  have⟨pa,e1,e2⟩:=y0.dW (k:=.i64) (Ic z0);rw[e1,ae,e2,ae];refine aw λm16 J0 A0 K0=>?_;refine aD di A0 rfl rfl rfl λm17 L0 B0 N0=>?_;have ga:m17.get mm.n=.cells (gd u.shape i).c 141 none:=B0;have i0:Ext mm m17:=⟨by omega,by grind⟩
  have O0:mm.n < m17.n:=by omega
  have g0:=y0.aG i0;have⟨pb,e3,e4⟩:=g0.dW (k:=.i64) (Qx z0);rw[(kb (i0.cells (a0.cells g1))).2.2.2.1,ae,aS,ae,wrap64,ae,g0.len cF,aA,show(i:Int)+1=((i+1:Nat):Int) by omega,so (by omega),ae,e3,ae,e4,ae];refine aw λj1 P0 C0 S0=>?_;refine aD di C0 rfl rfl rfl λe0 a1 D0 b1=>?_;have gb:e0.get m17.n=.cells (KH u.shape i).c 141 none:=D0;have j0:Ext m17 e0:=⟨by omega,λc hc=>by grind⟩
  have H:=a0.trans (i0.trans j0);have n29:=j0.n;have E0:=λz=>Tj (m:=e0) (p:=z) hX (j0.cells ga) gb;refine bA (λvs ma lo=>vs=[.bool (ok i)]/\e0=ma/\m.n<=lo) (λQ hQ=>?_) ?_
  ·rw[(smf (H.cells g2)).1,ae];refine aH (E0 p) ?_;rw[u0]at hQ;rw[bE,ae,ak];refine av (λd=>?_) (λd=>hQ _ _ _ ⟨by grind,rfl,by omega⟩);rw[(smf (H.cells g2)).2,ae];refine aH (E0 q) ?_;rw[bE,ae];exact hQ _ _ _ ⟨by grind,rfl,by omega⟩
  rintro _ _ gh ⟨rfl,rfl,F0⟩;rw[aE,ak];refine av (λd=>?_) (λd=>?_)
  ·rw[(kb (H.cells g1)).1,ae,rE,ae];refine aD oQ (H.cells g3) rfl rfl rfl λk0 G0 d0 H0=>?_;have l0:k0.get m2.n=.cells (Fc.c ⟨u.id,i⟩) 53 none:=d0;rw[(oC l0).2.2,ae];refine⟨?_,by omega⟩;rw[b0,pz (l:=List.range u.shape.length) (i:=i) (x:=i) (by grind) d λj y hj hy=>?_];·rfl
   rw[aee (by omega)]at hy;cases hy;exact v0 j hj
  rw[ae];refine⟨i+1,by omega,rfl,by omega,F0,H,λj hj=>?_⟩;by_cases e:j=i;·rw[e];exact d
  exact v0 j (by omega)
 obtain rfl:i=u.shape.length:=by have:¬(i:Int)< (u.shape.length:Int):=aaZ c;omega
 rw[(kb (a0.cells g1)).1,ae,show aK TE 53 [(0,aev u.id)]=some (Fc.v ⟨u.id,0⟩)from Gh rfl,ae];refine aD oQ (a0.cells g3) rfl rfl rfl λk0 G0 d0 H0=>?_;have l0:k0.get m2.n=.cells (Fc.c ⟨u.id,0⟩) 53 none:=d0;rw[(oC l0).2.2,ae];refine⟨?_,by omega⟩;rw[b0,ac8.2 λj hj=>by grind];rfl
structure zS(X:aM)(sf:List Fc->List Fc):Prop extends RN X where
 perm:∀l,(sf l).Perm l
 fc:∀(m:M) (n1:Nat) (l:List Fc) (v:aes),n1<=m.n->Ow n1 m l v->l.length<=1000->∃m' b,C X (.func 33) [v,.func (.func 34) #[] #[]] m b (.tuple #[]) m'/\Ow n1 m' (sf l) v/\n1<=b/\m'.n=m.n/\∀c,(∀a n k,v=.slice (some a) n k->c≠a.block)->m'.get c=m.get c
theorem Sa{n1:Nat}{l:List Fc}{v:aes}(h:Ow n1 m l v){c:Nat}(H:c < n1):∀a n k,v=.slice (some a) n k->c≠a.block:=by
 intro a n k e;rcases h with⟨rfl,_⟩ |⟨b,cs,rfl,_,h3,_⟩;·cases e
 ·grind
theorem rn{u:Un}(h:jF u):(eR u).length<=10:=by
 have:=jc h
 unfold eR
 grind
theorem SQ{x y:Fc}:aI TE m 35 2 [(0,x.v),(1,y.v)]=some (.slice (some ⟨m.n,0,none⟩) 2 2,m.push (.cells (x.c++y.c) 53 none)):=by kernel_rfl
theorem S2{x y:Fc}{b:Nat}{g:Option Nat}(h:m.get b=.cells (x.c++y.c) 53 g):Sl m [x,y] (aer b 0 2 2):=
 .inr ⟨b,0,2,_,g,rfl,h,aaV _,λi z hi=>by
  match i with
  |0=>cases hi;rfl
  |1=>cases hi;rfl
  |i+2=>simp at hi⟩
theorem HR{b:Nat}{x:Ct}{g:Option Nat}(h:m.get b=.cells x.c' 145 g):ah TE m 143 (aeq b (0+2))=some (.agg (js x.p x.q).toArray):=by rw[mU,aP (n:=4) h (by simp_all)];rfl
set_option maxHeartbeats 1000000 in
theorem Cg(hX:cy X){sf:List Fc->List Fc}(hS:zS X sf){y:Yd}{r r2 st rc mo:aes}{t:Tk}{w:aes}(hV:lM m y r r2 st rc mo)(hP:oL y)(hw:one w=true):
  ∃v m',C X (.func 37) [yv r r2 st rc mo,t.v w] m m.n v m'/\Ext m m'/\Sl m' (me sf y.us t) v/\∀a n k,v=.slice (some a) n k->m.n<=a.block:=by
 refine Cl.FD hX (aaU func37) ?_;have G0:=hV.ee;obtain⟨⟨l,j0,hF⟩, -⟩:=hV;have H0:cx (bR l):=by rw[j0];exact hP.qk
 have L1:l.length<=12:=by have:=hP.qk.len;rwa[<-j0,cI]at this
 have H:∀R:aet->M->Nat->Prop,(∀(l:List Fc) (v:aes) (m':M) (lo:Nat),m.n<=lo->Ext m m'->Sl m' l v->me sf y.us t=l->(∀a n k,v=.slice (some a) n k->m.n<=a.block)->R [v] m' lo)->dp TE (aO TE X) f37 [yv r r2 st rc mo,t.v w] m R:=by
  intro R hR;rw[F37];dsimp only[δ,ε,η,θ,ι,ν,ξ,ο,ρ,ς,υ,χ,ψ,Δ,Θ,Λ,ω];refine aw λm1 y2 I0 A1=>?_;refine aw λm2 z2 J0 K0=>?_;have L0:Ext m m2:=⟨by omega,by grind⟩
  have g1:m2.get m.n=.cells (yc r r2 st rc mo) 38 none:=by rw[K0 _ (by omega)];exact I0
  have g2:m2.get m1.n=.cells (t.c w) 62 none:=J0;clear I0 A1 J0 K0;unfold ptrTo;simp only[cC,cp,cK,cG,we,ae];rw[(dP g1).2.2.2.2,ae,(lQ g2).2.1,ae];obtain⟨rv,m7,c7,x7,f7⟩:=yV (m:=m2) hX (hF.aG L0) (by omega) G0 t.id;refine aH c7 ?_;obtain⟨u,wu,b,rfl,fu⟩:=f7.PF H0;have n7:=x7.n;rw[aJ,aJ];simp only[aaY,aaX,ae];refine aw λm11 N1 n0 N0=>?_;refine aD df n0 rfl rfl (Un.cM fu.sl.one) λm12 O1 o0 O0=>?_;have gu:m12.get m7.n=.cells (u.c wu) 60 none:=o0;have p0:Ext m7 m12:=⟨by omega,by grind⟩
  have B0:=x7.trans p0;have P1:m7.n < m12.n:=by omega
  have b0:=L0.trans B0;have d0:=fu.aG p0;rw[j0]at d0;clear n0 N0 o0 O0;rw[bE,ae,ak];refine av (λc=>?_) (λc=>?_)
  ·rw[abo]at c;subst c;exact hR [] _ _ _ (by omega) b0 .nil (by unfold me;rw[d0.eq];rfl) (λa n k e=>by cases e)
  rw[abj]at c;subst c;have P0:cf y.us t.id=some u:=d0.eq;have S0:jF u=true:=hP.qk.val u (dK P0).1;have A2:=rn S0;have T1:=jc S0;obtain⟨D,hD⟩:∃D,D=me sf y.us t:=⟨_,rfl⟩
  rw[<-hD]at hR;unfold me at hD;rw[P0]at hD;simp only[]at hD;obtain⟨a0,a1,a2,a3, -⟩:=lQ (B0.cells g2);refine bA (λvs mm lo=>vs=[aew]/\m.n<=lo/\Ext m mm/\D=[]) (λQ hQ=>?_) ?_
  ·rw[a0,ae,aW,ae,ak];refine av (λk4=>?_) (λk4=>?_)
   ·rw[aa5 (aa1 k4)]at hD;rw[bV gu,ae];have⟨m24,v,B1,C0,b1⟩:=yR (m:=m12) hX d0.sl d0.ln;refine aH B1 ?_;obtain⟨B2,C2,C1,c1,hb,c2,d1⟩:=hS.fc m24 m12.n (eR u) v C0.n b1 (by omega);refine aH C1 ?_;have n24:=C0.n;have n12:=b0.n;exact hR _ _ _ _ (by omega) ⟨by omega,λc hc=>by rw[d1 c (Sa b1 (by omega)),C0.get c (by omega),b0.get c hc]⟩ c1.sl hD (λa n k e=>Nat.le_of_not_lt λh=>Sa c1 (by omega) a n k e rfl)
   rw[aa4 (aaZ k4)]at hD;rw[aW,ae,ak];refine av (λk5=>?_) (λk5=>?_)
   ·rw[aa5 (aa1 k5)]at hD;rw[a1,ae,a3,ae,rE,ae];refine aw λD2 d2 e1 e2=>?_;refine aD oQ e1 rfl rfl rfl λD0 i2 i1 j2=>?_;have j1:D0.get m12.n=.cells (Fc.c ⟨t.id,t.side⟩) 53 none:=i1;have k0:Ext m12 D0:=⟨by omega,by grind⟩
    have n36:=k0.n;have n12:=b0.n;rw[bV (k0.cells gu),ae];have⟨E2,v,D1,l0,E1⟩:=yR (m:=D0) hX (d0.sl.aG k0) d0.ln;refine aH D1 ⟨aaV _,?_⟩;have n40:=l0.n;rw[(oC (l0.cells j1)).2.2,ae];refine aH (jl hX E1.sl (by omega) ⟨t.id,t.side⟩) ?_;rw[ak];have q0:=b0.trans (k0.trans l0);refine av (λc=>?_) (λc=>?_)
    ·rw[aa5 (aa1 c)]at hD;rw[(oC (l0.cells j1)).2.2,ae,wO (x:=⟨t.id,t.side⟩),aA];exact hR _ _ _ _ (by omega) q0.push (gH (x:=(⟨t.id,t.side⟩:Fc)) M.aY rfl) hD (by grind)
    rw[aa4 (aaZ c)]at hD;exact hQ _ _ _ ⟨rfl,by omega,q0,hD⟩
   rw[aa4 (aaZ k5)]at hD;rw[aW,ae,ak];have n12:=b0.n;refine av (λk9=>?_) (λk9=>hQ _ _ _ ⟨rfl,by omega,b0,by grind⟩);rw[aa5 (aa1 k9)]at hD;rw[(dP (B0.cells g1)).2.2.2.2,ae,a2,ae];obtain⟨rv,E0,F1,k1,f54⟩:=yV (m:=m12) hX (hF.aG b0) (by omega) G0 t.other;refine aH F1 ?_;obtain⟨u2,G1,b2,rfl,l1⟩:=f54.PF H0;have F2:=k1.n;rw[aJ,aJ];simp only[aaY,aaX,ae];refine aw λG2 k2 r0 o1=>?_;refine aD df r0 rfl rfl (Un.cM l1.sl.one) λh0 l2 u0 p1=>?_;have gv:h0.get E0.n=.cells (u2.c G1) 60 none:=u0;have v0:Ext E0 h0:=⟨by omega,by grind⟩
   have i0:=k1.trans v0;have o2:E0.n < h0.n:=by omega
   have e0:=l1.aG v0;rw[j0]at e0;clear r0 o1 u0 p1;rw[bV (i0.cells gu),ae,bV gv,ae];refine aH (Ij hX hS.toRN (d0.sl.aG i0) e0.sl (by omega) e0.ln) ?_;rw[aJ,aJ];simp only[aaY,aaX,ae];refine aw λH2 v2 y0 r1=>?_;refine aD oS y0 (by rw[aX];exact eU _) (by rw[aX];exact eU _) (by rw[aX];exact nL _) λF0 w2 z0 u1=>?_;have gc:F0.get h0.n=.cells (CF (jG u u2)) 145 none:=z0;have g0:Ext h0 F0:=⟨by omega,by grind⟩
   have n69:=g0.n;clear y0 r1 z0 u1;have A0:=b0.trans (i0.trans g0);refine bA (λvs mm lo=>vs=[.bool (b2 && (jG u u2).isSome)]/\F0=mm/\m.n<=lo) (λQ2 v1=>?_) ?_
   ·rw[ak];exact av (λc=>v1 _ _ _ ⟨by grind,rfl,by omega⟩) (λc=>v1 _ _ _ ⟨by grind,rfl,by omega⟩)
   rintro _ _ gh ⟨rfl,rfl,w1⟩;rw[aE,ak];rw[e0.eq]at hD;refine av (λc=>?_) (λc=>hQ _ _ _ ⟨rfl,w1,A0,?_⟩)
   ·rw[aa3]at c;obtain⟨rfl,c⟩:=c;have⟨ct,H1⟩:=adx.1 c;rw[H1]at gc;have hD:D=[vo u ct.p ct.q,vo u2 ct.p ct.q]:=by grind
    have y1:=g0.cells (i0.cells gu);have z1:=g0.cells gv;rw[bV y1,ae,HR gc,ae];refine aH (Ee hX ((d0.sl.aG i0).aG g0) (by omega) ct.p ct.q) ⟨aaV _,?_⟩;rw[bV z1,ae,HR gc,ae];refine aH (Ee hX (e0.sl.aG g0) e0.ln ct.p ct.q) ?_;rw[SQ,aA];exact hR _ _ _ _ (by omega) A0.push (S2 M.aY) hD (by grind)
   cases b2;·exact hD
   rw[abG]at c
   have I1:jG u u2=none:=by
    cases e:jG u u2 with
    |none=>rfl
    |some x=>rw[e]at c;cases c
   rw[hD,aa5 rfl];simp only[I1]
  rintro _ mm lo ⟨rfl,h1,h2,h3⟩;rw[aE];exact hR _ _ _ _ h1 h2 .nil h3 (λa n k e=>by cases e)
 refine H _ λl v m' lo J1 hx hs hl K1=>?_;show(bF v=true/\m.n<=lo/\(m.n=m.n/\Ext m m/\Sl m _ v/\_))\/((bF v=false\/lo < m.n)/\(min m.n lo=m.n/\Ext m m'/\Sl m' _ v/\_));rw[hl];rcases hs with⟨rfl,e⟩ |⟨b,o,c,bc,g,rfl,hr⟩;·exact .inl ⟨rfl,J1,rfl,.refl,by rw[e];exact .nil,λa n k e=>by cases e⟩
 exact .inr ⟨.inl rfl,by omega,hx,.inr ⟨b,o,c,bc,g,rfl,hr⟩,K1⟩
theorem Mz(hX:cy X){s:nR}{r r2 st rc mo tv pv qv:aes}{sb ob:Nat}(hS:EA s)(hV:zD m s r r2 st rc mo tv pv qv)(gs:m.get sb=.cells (scc r r2 st rc mo tv pv qv) 43 none)(go:m.get ob=.cells [aev (s.ts.length:Int),pv] 75 none)
  {k i:Nat} (hk:k < s.ts.length) (hi:i < s.ts.length) (f:Fc):C X (.func 76) [aev k,aev i,f.v,aeq sb 0,aeq ob 0] m m.n (.bool (oV s (wV s) i f k)) m:=by
 refine Cl.fG hX (aaU func76) ?_;rw[F76];dsimp only[δ,ε,ζ,η,ι,ρ,ς,υ,χ,ψ,ω];refine aw λm1 k0 a0 d0=>?_;have x1:Ext m m1:=⟨by omega,d0⟩
 have gf:m1.get m.n=.cells f.c 53 none:=a0;have⟨l,hl,hs,l0⟩:=(hV.aG x1).ts;have n0:l.length=s.ts.length:=by grind
 obtain⟨x,hx⟩:∃x,l[k]?=some x:=⟨_,qz⟩
 have e0:s.ts[k]?=some x.t:=by grind
 have⟨a,cs,e1,e2,e3⟩:=hs.index iy (k:=.i64) hx;obtain⟨rfl,g0⟩:cs=x.c/\one x.w:=e3;have e2:ah TE m1 62 a=some (x.t.v x.w):=e2;unfold ptrTo;rw[fW,ae,(rX (x1.cells gs)).2.1,ae,e1,ae,e2,ae];refine aw λm6 o0 h0 p0=>?_;refine aD nT h0 rfl rfl (Tk.cM g0) λm7 q0 i0 r0=>?_;have g7:m7.get m1.n=.cells (x.t.c x.w) 62 none:=i0;have x7:Ext m1 m7:=⟨by omega,by grind⟩
 have n7:=x7.n;obtain⟨b0,b1, -,b3, -⟩:=lQ g7;obtain⟨f0,f1, -⟩:=oC (x7.cells gf);have H:oV s (wV s) i f k=(EY x.t f && iK (wV s) i k):=by unfold oV;rw[e0]
 rw[H];refine bA (λvs mm lo=>vs=[.bool (EY x.t f && iK (wV s) i k)]/\m.n<=lo) (λQ hQ=>?_) ?_
 ·unfold EY at hQ;rw[cC,ae,b0,ae,aW,ae,ak];refine av (λc1=>?_) (λc1=>hQ _ _ _ ⟨by grind,by omega⟩);rw[cp,ae,b1,ae,cT,ae,f0,ae,aW,ae,ak];refine av (λc2=>?_) (λc2=>hQ _ _ _ ⟨by grind,by omega⟩);rw[cG,ae,b3,ae,dm,ae,f1,ae,aW,ae,ak];refine av (λc3=>?_) (λc3=>hQ _ _ _ ⟨by grind,by omega⟩);rw[(Jl (x7.cells (x1.cells go))).2.2,ae];refine aH (Fu hX (M8 hS) (((hV.aG x1).aG x7).ps) hk hi) ?_;exact hQ _ _ _ ⟨by rw[c1,c2,c3];rfl,by omega⟩
 rintro _ mm lo ⟨rfl,j0⟩;rw[aE];exact⟨rfl,j0⟩
abbrev Ls.c(x:Ls):aet:=[.int .i64 x.task,.int .i64 x.f.un,.int .i64 x.f.side,.int .i64 x.q]
abbrev Ls.v(x:Ls):aes:=.agg (x.c).toArray
abbrev WK(l:List Ls):List (aet):=l.map λx=> [x.v]
abbrev MA(H ob:Nat):aes:=.func (.func 76) #[] #[.pointer (some ⟨H,0,none⟩),.pointer (some ⟨ob,0,none⟩)]
theorem WN{b:Nat}{v:aes}{g:Option Nat}(h:m.get b=.cells [v] 155 g):ah TE m 155 (aeq b 0)=some v:=by rw[No,aL h];rfl
theorem S5{b:Nat}{r r2 st rc mo tv pv qv:aes}{g:Option Nat}(h:m.get b=.cells (scc r r2 st rc mo tv pv qv) 43 g):ah TE m 35 (aeq b (0+0+3))=some rc:=by rw[sO,aL h];rfl
structure RS(s:nR)(r r2 st rc mo tv pv qv:aes)(sb vb ob:Nat)(m:M):Prop where
 sc:m.get sb=.cells (scc r r2 st rc mo tv pv qv) 43 none
 vf:m.get vb=.cells [MA sb ob] 155 none
 od:m.get ob=.cells [.int .i64 (s.ts.length:Int),pv] 75 none
 V:zD m s r r2 st rc mo tv pv qv
def re(s:nR)(i:Nat)(f:Fc)(q:Nat):Option Ls:=match s.qs[q]? with
 |some x=>if f∈x.mS then some ⟨i,f,q⟩else none
 |none=>none
theorem Nc{s:nR}{i:Nat}{f:Fc}:yx s i f=(List.range s.qs.length).filterMap (re s i f):=rfl
abbrev Az(s:nR)(i:Nat)(f:Fc):List Ls:=if xX s (wV s) i f=true then []else yx s i f
theorem yX{n i:Nat}(h:i < n):(List.range n).drop i=i::(List.range n).drop (i+1):=by rw[abR (by grind),List.getElem_range]
theorem VZ{i:Int}{f:Fc}{q:Int}:aK TE 55 [(0,aev i),(1,f.v),(2,aev q)]=some (Ls.v ⟨i,f,q⟩):=zi rfl rfl rfl
theorem IY{l:List Fc}{v:aes}{m':M}(h:Sl m l v)(hk:∀H n k cs g,v=.slice (some H) n k->m.get H.block=.cells cs 53 g->m'.get H.block=m.get H.block):Sl m' l v:=by
 rcases h with h |⟨b,o,c,bc,g,rfl,h2,h3,h4⟩;·exact .inl h
 exact .inr ⟨b,o,c,bc,g,rfl,(hk _ _ _ _ _ rfl h2).trans h2,h3,h4⟩
structure Pw(pc:Nat)(m:M):Prop where
 lt:pc < m.n
 row:∀v e g,m.get pc=.cells [v] e g->∀a n k,v=.slice (some a) n k->a.block < m.n
theorem Na{pc c:Nat}{m':M}(H:pc < m.n)(hx:Ext m m')(h:jJ pc m c):jJ pc m' c:=λv e g hv=>h v e g (by rw[<-hx.get pc H];exact hv)
theorem Pw.fresh{pc c:Nat}{m':M}(h:Pw pc m)(H:Ext m m')(hc:m.n<=c):jJ pc m' c:=λv e g hv a n k ha=>by
 have:=h.row v e g (by rw[<-H.get pc h.lt];exact hv) a n k ha
 omega
theorem WD{l:List Fc}{v:aes}(h:Sl m l v){H:Addr}{n k:Nat}(e:v=.slice (some H) n k):H.block < m.n:=by
 rcases h with⟨rfl, -⟩ |⟨b,o,c,bc,g,rfl,h2, -⟩;·cases e
 cases e;exact M.bk h2
def RO(pc n0:Nat)(m:M)(D:List Fc)(v:aes):Prop:=Sl m D v/\∀H n k,v=.slice (some H) n k->n0<=H.block/\jJ pc m H.block
theorem RO.aG{pc H:Nat}{D:List Fc}{v:aes}{m':M}(h:RO pc H m D v)(hp:pc < m.n)(hx:Ext m m'):RO pc H m' D v:=⟨h.1.aG hx,λad n k e=>⟨(h.2 ad n k e).1,Na hp hx (h.2 ad n k e).2⟩⟩
theorem RO.yield{pc n0:Nat}{D:List Fc}{v:aes}{m':M}(h:RO pc n0 m D v)(hf:∀c,n0<=c->c < m.n->jJ pc m c->m'.get c=m.get c/\jJ pc m' c):RO pc n0 m' D v:=
 ⟨IY h.1 λH n k cs g e hg=>(hf _ (h.2 H n k e).1 (M.bk hg) (h.2 H n k e).2).1,λH n k e=>⟨(h.2 H n k e).1,(hf _ (h.2 H n k e).1 (WD h.1 e) (h.2 H n k e).2).2⟩⟩
theorem AR{X:aM}{sf:List Fc->List Fc}(H:zS X sf){us:List Un}(hP:cx us)(t:Tk):(me sf us t).length<=10:=by
 unfold me
 cases h:cf us t.id with
 |none=>simp
 |some u=>
  have hu:=rn (hP.val u (dK h).1)
  simp only[]
  split
  ·rw[(H.perm _).length_eq];exact hu
  grind
set_option maxHeartbeats 2000000 in
theorem Fw(hX:cy X){sf:List Fc->List Fc}(hS:zS X sf){s:nR}{r r2 st rc mo tv pv qv:aes}{sb vb ob:Nat}(hP:EA s){pc:Nat}:
  RT TE X (.own pc) (.func 77) [] [ptrTo sb,ptrTo vb] (WK (eB sf s)) (λm=>RS s r r2 st rc mo tv pv qv sb vb ob m/\Pw pc m):=by
 intro y n0 B I J m hD hI hJ hy K1 hB r0 h0;have N2:=hP.tl;have O2:=hP.ql;have u2:=hP.y.Wi;have key:=Cl.FJ (E:=TE) (X:=X) (f:=77) (args:=[.func (.yield y) #[] #[],ptrTo sb,ptrTo vb]) (m:=m) (R:=λv m2 b=>B<=b/\(I (WK (eB sf s)).length m2\/J m2)) (hX.no _ rfl) (aaU func77) rfl ?_
 ·have⟨v,m',b,u0,h⟩:=key;exact⟨v,m',b,u0,h⟩
 rw[F77];dsimp only[δ,ε,ζ,η,θ,ι,κ,ο,ς,υ,χ,ψ,Γ,ω];unfold ptrTo;simp only[fX,fW,iG,dn,ll,ae]
 have i0:∀{ma:M},RS s r r2 st rc mo tv pv qv sb vb ob ma->∃l:List TW,l.map TW.t=s.ts/\Sl ma l tv/\CG ma l/\l.length=s.ts.length:=λh=>by
  have⟨l,h1,h2,h3⟩:=h.V.ts
  grind
 have d0:=(hD _ _ h0).1;obtain⟨l0, -,L1, -,N1⟩:=i0 d0;rw[(rX d0.sc).2.1,ae,L1.len iy,N1,aA]
 refine Lp.intro (γ:=Nat) (λi=>s.ts.length-i) (λi vs m1 lo=>∃P,vs=[.int .i64 i]/\i<=s.ts.length/\eB sf s=P++((List.range s.ts.length).drop i).flatMap (pj sf s (wV s))/\I P.length m1/\n0<=m1.n/\m.n<=m1.n/\B<=lo/\((lo=m.n/\P=[])\/lo < m.n)) 0
  ⟨[],rfl,aa6 _,rfl,h0,K1,aaV _,by omega,.inl ⟨rfl,rfl⟩⟩ ?_
 rintro i vs m1 P2 ⟨P,rfl,hi,a0,v0,Q2,v2,T2,H⟩;rw[aE,aQ,ae,ak];refine av (λI0=>?_) (λa3=>?_)
 ·have I0:i < s.ts.length:=by grind
  have d1:=(hD _ _ v0).1;have⟨l,D0,y0,j1,J0⟩:=i0 d1;obtain⟨x,hx⟩:∃x,l[i]?=some x:=⟨_,qz⟩
  have O1:s.ts[i]?=some x.t:=by grind
  have⟨a,cs,e1,e2,e3⟩:=y0.index iy (k:=.i64) hx;obtain⟨rfl,k1⟩:cs=x.c/\one x.w=true:=e3;have e2:ah TE m1 62 a=some (x.t.v x.w):=e2;rw[e1,ae,e2,ae];refine aw λm13 w2 l1 y2=>?_;refine aD nT l1 rfl rfl (Tk.cM k1) λm14 z2 o1 A2=>?_;have g14:m14.get m1.n=.cells (x.t.c x.w) 62 none:=o1;have p1:Ext m1 m14:=⟨by omega,by grind⟩
  have n14:=p1.n;have j0:=hI _ _ _ v0 p1;have d14:=(hD _ _ j0).1;rw[(rX d14.sc).1,ae,fL g14,ae];have⟨K0,m20,P1,L0,N0,r1⟩:=Cg (m:=m14) (t:=x.t) hX hS d14.V.y hP.y k1;refine aH P1 ?_;have n20:=L0.n;have E0:=hI _ _ _ j0 L0;obtain⟨D,O0⟩:∃D,D=me sf s.y.us x.t:=⟨_,rfl⟩
  rw[<-O0]at N0;have c3:D.length<=10:=by rw[O0];exact AR hS hP.y.qk x.t
  rw[N0.len dZ,aA];have u1:=a0;rw[yX I0,acu,show pj sf s (wV s) i=D.flatMap (Az s i) by unfold pj;rw[O1,O0]]at u1
  refine Lp.intro (γ:=Nat) (λj=>D.length-j) (λj vs m2 lo=>∃P,vs=[.int .i64 j]/\j<=D.length/\eB sf s=P++((D.drop j).flatMap (Az s i)++((List.range s.ts.length).drop (i+1)).flatMap (pj sf s (wV s)))/\I P.length m2/\m20.n<=m2.n/\RO pc n0 m2 D K0/\B<=lo/\((lo=m.n/\P=[])\/lo < m.n)) 0
   ⟨P,rfl,aa6 _,by grind,E0,aaV _,⟨N0,λad n k e=>⟨by have:=r1 ad n k e;omega,(hD _ _ j0).2.fresh L0 (r1 ad n k e)⟩⟩,by omega,H.elim (λh=> .inl ⟨by omega,h.2⟩) (λh=> .inr (by omega))⟩ ?_
  clear a0 u1 H v0 E0 d1 y0 j1 D0 J0;rintro j vs m2 gh ⟨P,rfl,hj,a0,z0,d3,s2,v1,H⟩;rw[aE,aQ,ae,ak];refine av (λk0=>?_) (λB2=>?_)
  ·have k0:j < D.length:=by grind
   obtain⟨f,hf⟩:∃f,D[j]?=some f:=⟨_,aaW k0⟩
   have⟨p,f1,f2⟩:=sX s2.1 hf;rw[f1,ae,f2,ae];refine aw λm32 C2 w1 D2=>?_;refine aD oQ w1 rfl rfl rfl λe0 E2 y1 F2=>?_;have A0:e0.get m2.n=.cells f.c 53 none:=y1;have P0:Ext m2 e0:=⟨by omega,by grind⟩
   have o0:=hI _ _ _ z0 P0;have d33:=(hD _ _ o0).1;have z1:=s2.aG (hD _ _ z0).2.lt P0;have T1:=(hD _ _ z0).2.fresh P0 (aaV _);have G2:m2.n < e0.n:=by omega
   rw[S5 d33.sc,ae,(oC A0).2.2,ae];refine aH (jl hX d33.V.y.rc (by omega) f) ?_;have⟨l,D0,y0,j1,J0⟩:=i0 d33;rw[(rX d33.sc).2.1,ae,y0.len iy,J0,aA];refine Lp.intro (γ:=Nat) (λk=>s.ts.length-k) (λk vs m3 lo=>vs=[.bool (decide (f∈s.y.rc) ||(List.range k).any (oV s (wV s) i f)),.int .i64 k]/\k<=s.ts.length/\e0=m3/\B<=lo/\((lo=m.n/\P=[])\/lo < m.n)) 0 ⟨by simp,aa6 _,rfl,by omega,H.elim (λh=> .inl ⟨by omega,h.2⟩) (λh=> .inr (by omega))⟩ ?_;clear H;rintro k vs _ g3 ⟨rfl,hk,rfl,F0,H⟩;rw[aE,aE,aQ,ae,ak];refine av (λG0=>?_) (λH2=>?_)
   ·have G0:k < s.ts.length:=by grind
    have i3:(decide (f∈s.y.rc) ||(List.range (k+1)).any (oV s (wV s) i f))=((decide (f∈s.y.rc) ||(List.range k).any (oV s (wV s) i f)) ||oV s (wV s) i f k):=by
     grind
    rw[ak];refine av (λhs=>?_) (λhs=>?_)
    ·rw[aS,ae,wrap64];exact⟨k+1,by omega,by grind,by omega,rfl,F0,H⟩
    rw[WN d33.vf,ae,(oC A0).2.2,ae,cj];refine aH (Mz hX hP d33.V d33.sc d33.od G0 I0 f) ?_;rw[aS,ae,wrap64];exact⟨k+1,by omega,by grind,by omega,rfl,by omega,H.elim (λh=> .inl ⟨by omega,h.2⟩) (λh=> .inr (by omega))⟩
   obtain rfl:k=s.ts.length:=by
    grind
   obtain⟨S,A1⟩:∃S,S=xX s (wV s) i f:=⟨_,rfl⟩
   rw[show(decide (f∈s.y.rc) ||(List.range s.ts.length).any (oV s (wV s) i f))=S from A1.symm];have⟨ql,B1,B0,S0⟩:=d33.V.qs;have C1:ql.length=s.qs.length:=by grind
   rw[(rX d33.sc).2.2.2.1,ae,B0.len nj,C1,aA];have C0:=a0;rw[abR k0,(aa0.1 hf).2,acu,abv]at C0;have D1:Az s i f=if S=true then []else((List.range s.qs.length).drop 0).filterMap (re s i f):=by unfold Az;rw[<-A1];rfl
   rw[D1]at C0;refine Lp.intro (γ:=Nat) (λq=>s.qs.length-q) (λq vs m4 lo=>∃P,vs=[.int .i64 q]/\q<=s.qs.length/\eB sf s=P++((if S=true then []else((List.range s.qs.length).drop q).filterMap (re s i f))++((D.drop (j+1)).flatMap (Az s i)++((List.range s.ts.length).drop (i+1)).flatMap (pj sf s (wV s))))/\I P.length m4/\e0.n<=m4.n/\RO pc n0 m4 D K0/\(m4.get m2.n=.cells f.c 53 none/\jJ pc m4 m2.n)/\B<=lo/\((lo=m.n/\P=[])\/lo < m.n)) 0 ⟨P,rfl,aa6 _,C0,o0,aaV _,z1,⟨A0,T1⟩,F0,H⟩ ?_;clear a0 C0 D1 H B0 S0 B1 d33 o0 z1 A0;rintro q vs m4 j3 ⟨P,rfl,hq,a0,p0,k3,s4,g4,E1,H⟩;have d4:=(hD _ _ p0).1;have⟨ql,B1,B0,S0⟩:=d4.V.qs;have C1:ql.length=s.qs.length:=by grind
   rw[aE,aQ,ae,ak];refine av (λH0=>?_) (λI2=>?_)
   ·have H0:q < s.qs.length:=by grind
    obtain⟨x',F1⟩:∃x,ql[q]?=some x:=⟨_,qz⟩
    have a2:s.qs[q]?=some x'.q:=by grind
    have⟨a',c2,q1,q2,q3⟩:=B0.index nj (k:=.i64) F1;obtain⟨rfl,d2⟩:c2=x'.c/\one x'.w=true:=q3;have q2:ah TE m4 79 a'=some x'.v:=q2;have⟨g2,i2⟩:=S0 x' (aa2 F1);have l3:=i2.len;rw[q1,ae,q2,ae];refine aw λn3 J2 G1 K2=>?_;refine aD RX G1 rfl rfl (by show(true && (one x'.w && true))=true;rw[d2];rfl) λa1 L2 H1 M2=>?_;have j2:a1.get m4.n=.cells x'.c 79 none:=H1;have g0:Ext m4 a1:=⟨by omega,by grind⟩
    have o3:=g0.n;have q0:=hI _ _ _ p0 g0;have b0:=g0.cells g4.1;have c1:=Na (hD _ _ p0).2.lt g0 g4.2;have g1:=s4.aG (hD _ _ p0).2.lt g0;have i1:re s i f q=if f∈x'.q.mS then some ⟨i,f,q⟩else none:=by unfold re;rw[a2]
    rw[yX H0,ac5,i1]at a0;refine bA (λvs m5 lo=>∃stop:Bool,vs=[.bool stop]/\B<=lo/\(stop=true->J m5/\lo < m.n)/\(stop=false->∃P,eB sf s=P++((if S=true then []else((List.range s.qs.length).drop (q+1)).filterMap (re s i f))++((D.drop (j+1)).flatMap (Az s i)++((List.range s.ts.length).drop (i+1)).flatMap (pj sf s (wV s))))/\I P.length m5/\e0.n<=m5.n/\RO pc n0 m5 D K0/\(m5.get m2.n=.cells f.c 53 none/\jJ pc m5 m2.n)/\((lo=m.n/\P=[])\/lo < m.n))) (λQ hQ=>?_) ?_
    ·rw[bE,ae,ak];refine av (λhs=>?_) (λhs=>hQ _ _ _ ⟨false,rfl,by omega,λh=>(by cases h),λ_=>⟨P,?_,q0,by omega,g1,⟨b0,c1⟩,H.elim (λh=> .inl ⟨by omega,h.2⟩) (λh=> .inr (by omega))⟩⟩)
     ·rw[abo]at hs;rw[hs,aa4 (by decide)]at a0;rw[(PC j2).2.1,ae,(oC b0).2.2,ae];refine aH (jl hX (g2.aG g0) (by omega) f) ?_;rw[ak];refine av (λhc=>?_) (λhc=>?_)
      ·have hc:=aa1 hc;rw[aa5 hc]at a0;rw[(oC b0).2.2,ae,VZ,ae,cj]
       have k2:(WK (eB sf s))[P.length]?=some [Ls.v ⟨i,f,q⟩]:=by
        grind
       obtain⟨v,m5,b5,u0,r3,u3,I1,J1⟩:=r0 P.length _ a1 (by omega) k2 q0;refine aH u0 ?_;have n5:=u0.1;rcases J1 with⟨rfl,l2⟩ |⟨rfl,o2⟩
       ·rw[bE,ae];refine hQ _ _ _ ⟨false,rfl,by omega,λh=>(by cases h),λ_=>⟨P++ [⟨i,f,q⟩],?_,?_,by omega,g1.yield I1,?_,.inr (by omega)⟩⟩
        ·rw[hs,aa4 (by decide)];rw[a0];simp only[abv,ad8,acw,abZ]
        ·rw[abq,List.length_singleton];exact l2
        have h:=I1 m2.n (by omega) (by omega) c1;exact⟨h.1.trans b0,h.2⟩
       rw[bE,ae];exact hQ _ _ _ ⟨true,rfl,by omega,λ_=>⟨o2,by omega⟩,λh=>(by cases h)⟩
      rw[aa4 (aaZ hc)]at a0;exact hQ _ _ _ ⟨false,rfl,by omega,λh=>(by cases h),λ_=>⟨P,by grind,q0,by omega,g1,⟨b0,c1⟩,H.elim (λh=> .inl ⟨by omega,h.2⟩) (λh=> .inr (by omega))⟩⟩
     rw[abj]at hs;rw[hs,aa5 rfl]at a0⊢;exact a0
    rintro _ m5 v3 ⟨stop,rfl,h1,h2,h3⟩;rw[aE,ak];refine av (λhs=>?_) (λhs=>?_)
    ·have⟨h4,h5⟩:=h2 hs;exact .inr ⟨.inr h5,by omega,.inr h4⟩
    have⟨P',b1,b2,b3,b4,b5,b6⟩:=h3 hs;rw[aS,ae,wrap64];exact⟨q+1,by omega,P',rfl,by omega,b1,b2,b3,b4,b5,h1,b6⟩
   obtain rfl:q=s.qs.length:=by
    grind
   rw[acp (by grind),adb,ite_self,abZ]at a0;rw[aS,ae,wrap64];exact⟨j+1,by omega,P,rfl,by omega,a0,p0,by omega,s4,E1,H⟩
  obtain rfl:j=D.length:=by
   grind
  rw[adm,List.flatMap_nil,abZ]at a0;rw[aS,ae,wrap64];exact⟨i+1,by omega,P,rfl,by omega,a0,z0,by omega,by omega,v1,H⟩
 obtain rfl:i=s.ts.length:=by
  grind
 rw[acp (by grind),List.flatMap_nil,abJ]at a0;have hlen:(WK (eB sf s)).length=P.length:=by grind
 rcases H with⟨h1,h2⟩ |h
 ·subst h2;refine .inl ⟨rfl,by omega,by omega,.inl ?_⟩;rw[hlen];exact h0
 refine .inr ⟨.inr h,by omega,.inl ?_⟩;rw[hlen];exact v0
instance:aZ Ls where
 ty:=55
 sz:=4
 agg:=true
 dd:=[]
 rep _ x cs:=cs=x.c
 pos:=by decide
 one:=by grind
 len:=by grind
 ee:=by rintro _ _ _ rfl;rfl
 bs:=by grind
theorem Bq:oO TE 45 55 Ls:=⟨ag.t45,ag.t55,by kernel_rfl,⟨_,rfl⟩,rfl,by kernel_rfl,rfl,rfl⟩
theorem V8:rH TE 45 Ls:=⟨ag.t45,ag.t55,by kernel_rfl,rfl,rfl,by kernel_rfl,by decide,rfl⟩
theorem Th{x:Ls}:aI TE m 45 1 [(0,x.v)]=some (.slice (some ⟨m.n,0,none⟩) 1 1,m.push (.cells x.c 55 none)):=by kernel_rfl
theorem FM{α β:Type}{f:α->List β}{c:Nat}:∀{l:List α},(∀x∈l,(f x).length<=c)->(l.flatMap f).length<=l.length*c
 |[],_=>by simp
 |x::l,h=>by
  have h1:=h x abT
  have h2:=FM (l:=l) λy H=>h y (abS _ H)
  rw[acu,abq,abe,Nat.succ_mul]
  omega
theorem uw{sf:List Fc->List Fc}(hS:zS X sf){s:nR}(H:EA s):(eB sf s).length<=320:=by
 have hq:∀i f,(yx s i f).length<=4:=λi f=>by have:=adw (re s i f) (List.range s.qs.length);rw[adT]at this;have:=H.ql;rw[Nc];omega
 have ht:∀i∈List.range s.ts.length,(pj sf s (wV s) i).length<=40:=λi _=>by
  unfold pj;split
  ·rename_i t _;have h1:=AR hS H.y.qk t
   have h2:=FM (l:=me sf s.y.us t) (f:=λf=>if xX s (wV s) i f=true then []else yx s i f) (c:=4) λf _=>by
    grind
   omega
  simp
 have:=FM ht;rw[adT]at this;have:=H.tl;unfold eB;omega
theorem Nv{b:Nat}{v:aes}{g:Option Nat}(h:m.get b=.cells [v] 45 g):ah TE m 45 (aeq b 0)=some v:=by rw[QH,aL h];rfl
theorem WO{b:Nat}{x:Ls}{g:Option Nat}(h:m.get b=.cells x.c 55 g):ah TE m 55 (aeq b 0)=some x.v:=by rw[QG,aP (n:=4) h (by grind)];rfl
theorem RS.aG{s:nR}{r r2 st rc mo tv pv qv:aes}{sb vb ob:Nat}{m':M}(h:RS s r r2 st rc mo tv pv qv sb vb ob m)(H:Ext m m'):RS s r r2 st rc mo tv pv qv sb vb ob m':=
 ⟨H.cells h.sc,H.cells h.vf,H.cells h.od,h.V.aG H⟩
set_option maxHeartbeats 1000000 in
theorem Et(hX:cy X){sf:List Fc->List Fc}(hS:zS X sf){s:nR}{r r2 st rc mo tv pv qv:aes}{sb vb ob:Nat}(hP:EA s)(d0:RS s r r2 st rc mo tv pv qv sb vb ob m):
  ∃v m',C X (.func 75) [aew,.func (.func 77) #[] #[ptrTo sb,ptrTo vb]] m m.n v m'/\Ext m m'/\Sl m' (eB sf s) v:=by
 refine Cl.FD hX (aaU func75) ?_;have hL:=uw hS hP
 have H:∀R:aet->M->Nat->Prop,(∀(v:aes) (m':M) (lo:Nat),m.n<=lo->Ext m m'->Sl m' (eB sf s) v->R [v] m' lo)->dp TE (aO TE X) f75 [aew,.func (.func 77) #[] #[ptrTo sb,ptrTo vb]] m R:=by
  intro R hR;rw[F75];dsimp only[δ,ι,κ,ν,ρ,ς,υ,χ,Δ];refine aw λm1 z0 j0 k0=>?_;have x1:Ext m m1:=⟨by omega,k0⟩
  have g1:m1.get m.n=.cells [aew] 45 none:=j0;rw[cj]
  refine⟨_,WK (eB sf s),_,λk m'=>m1.n<=m'.n/\Ext m m'/\∃r,m'.get m.n=.cells [r] 45 none/\Ow (m1.n+1) m' ((eB sf s).take k) r,
   λ_ _=>False,m.n,⟨_,rfl⟩,Fw (r:=r) (r2:=r2) (st:=st) (rc:=rc) (mo:=mo) (tv:=tv) (pv:=pv) (qv:=qv) (ob:=ob) (pc:=m.n) hX hS hP,by omega,?_,?_,?_,⟨aaV _,x1,_,g1,.nil⟩,?_,?_,?_⟩
  ·rintro k m' ⟨h1,h2,r',h4,h5⟩;refine⟨d0.aG h2,by omega,λv e g hv a n k ha=>?_⟩;rw[h4]at hv;cases hv;obtain⟨cs,g,hb, -⟩:=mQ h5 ha;exact M.bk hb
  ·rintro k m' l0 ⟨h1,h2,r',h4,h5⟩ hk;have A0:=hk.n;refine⟨by omega,⟨by grind,λc hc=>by rw[hk.get c (by omega) (by omega),h2.get c hc]⟩,r',by rw[hk.get _ (by omega) (by omega),h4],R9 rfl h5 λa n k e=>?_⟩;have⟨cs,g,hb,n0⟩:=mQ h5 e;exact hk.get _ (M.bk hb) (by omega)
  ·rintro e m' l0 h;exact h.elim
  ·rintro k args m3 B0 e0 ⟨h1,h2,r',h4,h5⟩
   obtain⟨x,hx,rfl⟩:∃x,(eB sf s)[k]?=some x/\args=[x.v]:=by rw[ach]at e0;have⟨x,hx,e⟩:=abl.1 e0;exact⟨x,hx,e.symm⟩
   rw[aE,Bi];refine aw λm7 C0 o0 D0=>?_;unfold ptrTo;refine aD Wu o0 rfl rfl rfl λm8 E0 p0 F0=>?_;have eZ:∀c,c < m3.n->m8.get c=m3.get c:=by grind
   refine⟨λc _ hc=>eZ c hc,λm10 v0 g0=>?_⟩;dsimp only;have gx:m10.get m3.n=.cells x.c 55 none:=by rw[g0 _ (by omega)];exact p0
   have h0:∀c,c < m3.n->c≠m1.n->m10.get c=m3.get c:=by grind
   have g10:m10.get m.n=.cells [r'] 45 none:=by grind
   have q0:Ow (m1.n+1) m10 ((eB sf s).take k) r':=R9 rfl h5 λad n k e=>by have⟨cs,g,hb,n0⟩:=mQ h5 e;exact h0 _ (M.bk hb) (by omega)
   have G0:=(aa0.1 hx).1;rw[Nv g10,ae,WO gx,ae];refine Di (T:=45) (x:=x) V8 rfl q0 (by omega) (by grind) Th (λ_=>rfl) λr0 m16 w2 n2 k2 H0 l2 k3 k4=>?_;have g16:m16.get m.n=.cells [r'] 45 none:=by grind
   refine bY Wv g16 (by rw[w2.sl.cells];rfl) (by rw[w2.sl.cells];show 0+1<=1;decide) (by rw[w2.sl.cells];simp[w2.sl.one]) λm17 y0 b0 a0=>?_;refine⟨by omega,λc I0 J0=>⟨by omega,λhc=>?_,λu0=>⟨?_,λv e g hv a n k ha=>?_⟩⟩,by omega,⟨by omega,λc hc=>by rw[a0 c (by omega),k2 c (by omega),h0 c (by omega) (by omega),h2.get c hc]⟩,r0,by rw[b0,w2.sl.cells];rfl,?_⟩
   ·rw[a0 c (by omega)];exact k2 _ (by omega)
   ·rw[a0 c (by omega)];exact k3 c (by omega) λa n k e=>u0 r' _ _ h4 a n k e
   ·rw[b0,w2.sl.cells]at hv;cases hv;have:=k4 a n k ha;omega
   rw[abg,hx];exact w2.pk rfl λc h1 h2=>a0 c (by omega)
  ·rintro m2 gh ⟨h1,h2,r',h4,h5⟩ i0;rw[abK,abD]at h5;unfold ptrTo;rw[Nv h4,ae];exact hR _ _ _ (by omega) h2 h5.sl
  rintro e m2 gh _ h;exact h.elim
 refine H _ λv m' lo i0 hx hs=>?_;show(bF v=true/\m.n<=lo/\(m.n=m.n/\Ext m m/\Sl m _ v))\/((bF v=false\/lo < m.n)/\(min m.n lo=m.n/\Ext m m'/\Sl m' _ v));rcases hs with⟨rfl,e⟩ |⟨b,o,c,bc,g,rfl,hr⟩;·exact .inl ⟨rfl,i0,rfl,.refl,by rw[e];exact .nil⟩
 exact .inr ⟨.inl rfl,by omega,hx,.inr ⟨b,o,c,bc,g,rfl,hr⟩⟩
theorem Cj(H:cy X){sf:List Fc->List Fc}(hS:zS X sf){s:nR}{r r2 st rc mo tv pv qv:aes}{sb vb ob:Nat}(hP:EA s)(d0:RS s r r2 st rc mo tv pv qv sb vb ob m):
  ∃v m',C X (.func 31) [.func (.func 77) #[] #[ptrTo sb,ptrTo vb]] m m.n v m'/\Ext m m'/\Sl m' (eB sf s) v:=by
 refine Cl.FD H (aaU func31) ?_;rw[F31];dsimp only[ψ];have⟨v,m2,c2,x2,s2⟩:=Et H hS hP d0;refine aH c2 ?_;rcases s2 with⟨rfl,e⟩ |⟨b,o,c,bc,g,rfl,hr⟩;·exact .inl ⟨rfl,by omega,by grind,.refl,by rw[e];exact .nil⟩
 exact .inr ⟨.inl rfl,by omega,x2,.inr ⟨b,o,c,bc,g,rfl,hr⟩⟩
theorem Jt(hX:cy X){s:nR}{r r2 st rc mo tv pv qv:aes}(hV:zD m s r r2 st rc mo tv pv qv):
  ∃H vb ob m',C X (.func 32) [Ai r r2 st rc mo tv pv qv] m m.n (.func (.func 77) #[] #[ptrTo H,ptrTo vb]) m'/\Ext m m'/\RS s r r2 st rc mo tv pv qv H vb ob m':=by
 refine Cl.Tv hX (aaU func32) (R:=λrv m'=>∃H vb ob,rv=.func (.func 77) #[] #[ptrTo H,ptrTo vb]/\Ext m m'/\RS s r r2 st rc mo tv pv qv H vb ob m') ?_ λrv m' hc ⟨H,vb,ob,e,h⟩=>⟨H,vb,ob,m',e ▸ hc,h⟩
 rw[F32];dsimp only[δ,ι,ρ,ς,υ,χ,ψ,Γ];refine aw λm1 n0 d0 e0=>?_;have x1:Ext m m1:=⟨by omega,e0⟩
 have g1:m1.get m.n=.cells (scc r r2 st rc mo tv pv qv) 43 none:=d0;unfold ptrTo;rw[(rX g1).2.2.2.2,ae];have⟨m4,c4,x4⟩:=yp hX (hV.aG x1);refine aH c4 ?_;have n4:=x4.n;have g0:=hV.ps.one;refine aw λm6 o0 h0 p0=>?_;refine aD RY h0 rfl rfl (by show(true && (one pv && true))=true;rw[g0];rfl) λm7 q0 i0 r0=>?_;have g7:m7.get m4.n=.cells [aev (s.ts.length:Int),pv] 75 none:=i0;have x7:Ext m4 m7:=⟨by omega,by grind⟩
 have n7:=x7.n;refine aw λm9 u0 j0 v0=>?_;refine bY SO j0 rfl (by show 0+1<=1;decide) rfl λm10 k0 b0 l0=>?_;have g10:m10.get m7.n=.cells [MA m.n m4.n] 155 none:=b0;have a0:Ext m7 m10:=⟨by omega,by grind⟩
 have xx:=x1.trans (x4.trans (x7.trans a0));exact .inr ⟨.inl rfl,by omega,m.n,m7.n,m4.n,rfl,xx,⟨(x4.trans (x7.trans a0)).cells g1,g10,a0.cells g7,hV.aG xx⟩⟩
theorem Ei(H:cy X){sf:List Fc->List Fc}(hS:zS X sf){s:nR}{r r2 st rc mo tv pv qv:aes}(hP:EA s)(hV:zD m s r r2 st rc mo tv pv qv):
  ∃v m',C X (.func 8) [Ai r r2 st rc mo tv pv qv] m m.n (.tuple #[v,aev 0]) m'/\Ext m m'/\Sl m' (eB sf s) v:=by
 refine Cl.kEG H (aaU func8) ?_;rw[F8];dsimp only[aO];refine aw λm1 h0 a0 b0=>?_;have x1:Ext m m1:=⟨by omega,b0⟩
 have g1:m1.get m.n=.cells (scc r r2 st rc mo tv pv qv) 43 none:=a0;unfold ptrTo;rw[(rX g1).2.2.2.2,ae];refine aH (Kh H hP (hV.aG x1)) ?_;rw[bE,ae,ak];show gG false _ _;rw[aT,(rX g1).2.2.2.2,ae];have⟨sb,vb,ob,m9,c9,x9,d9⟩:=Jt H (hV.aG x1);refine aH c9 ?_;have⟨v,m12,d0,e0,g0⟩:=Cj H hS hP d9;refine aH d0 ?_;have n9:=x9.n;have hx:=x1.trans (x9.trans e0);rcases g0 with⟨rfl,e⟩ |⟨b,o,c,bc,g,rfl,hr⟩;·exact .inl ⟨rfl,by omega,by grind,_,rfl,.refl,by rw[e];exact .nil⟩
 exact .inr ⟨.inl rfl,by omega,_,rfl,hx,.inr ⟨b,o,c,bc,g,rfl,hr⟩⟩
end
theorem Ni{sf:List Fc->List Fc}{s:nR}{x:Ls}{i q:Nat}{t:Tk}{y:Qn}(hi:x.task=i)(hq:x.q=q)(H:s.ts[i]?=some t)(hy:s.qs[q]?=some y)(hf:x.f∈me sf s.y.us t)(hn:x.f∈y.mS)(hr:x.f∉s.y.rc)
  (ho:∀(k:Nat) (u:Tk),s.ts[k]?=some u->iK (wV s) i k->EY u x.f=false):x∈eB sf s:=by
 unfold eB;refine adl.2 ⟨i,acR.2 (aa0.1 H).1,?_⟩;unfold pj;rw[H];refine adl.2 ⟨x.f,hf,?_⟩
 have hs:¬xX s (wV s) i x.f=true:=by
  unfold xX;rw[acA,abm,ab8];rintro(h |⟨k,hk,h⟩);·exact hr h
  unfold oV at h;split at h
  ·rename_i u hu;rw[aa3]at h;rw[ho k u hu h.2]at h;cases h.1
  cases h
 rw[aa4 hs];unfold yx;refine ac9.2 ⟨q,acR.2 (aa0.1 hy).1,?_⟩;rw[hy];show(if x.f∈y.mS then some (⟨i,x.f,q⟩:Ls)else none)=some x;rw[aa5 hn,<-hi,<-hq]
theorem rf{sf:List Fc->List Fc}{s s':nR}(H:s'.ts=s.ts)(a0:s'.y.us=s.y.us)(b0:∀f∈s.y.rc,f∈s'.y.rc)(d0:∀q∈s'.qs,q∈s.qs)(e0:∀b a,iK (wV s) b a->iK (wV s') b a){x:Ls}(hx:x∈eB sf s'):
  ∃z∈eB sf s,z.task=x.task/\z.f=x.f:=by have⟨i,q,t,y,e1,e2,ht,hy,hf,hn,hr,ho⟩:=Ay hx;have⟨q',g0⟩:=acM.1 (d0 y (aa2 hy));exact⟨⟨i,x.f,q'⟩,Ni rfl rfl (by rw[<-H];exact ht) g0 (by rw[<-a0];exact hf) hn (λh=>hr (b0 _ h)) (λk u hu hb=>ho k u (by rw[H];exact hu) (e0 _ _ hb)),e1.symm,rfl⟩
def nw(f:Fc):Tk:=⟨8,⟨0,0,0,[],0,0⟩,f.un,0,f.side,0⟩
theorem JB{f:Fc}(h:(0<=f.un/\f.un<=99)/\ -2<=f.side/\f.side<=7):dI (nw f):=by
 have⟨⟨h1,h2⟩,h3,h4⟩:=h;have H:cW f.un 0 99:=by rw[wT];omega
 have a2:cW f.side (-2) 7:=by rw[wT];omega
 unfold dI nw;simp[H,a2,eS]
theorem Kf{u:Un}{f:Fc}(h:f∈eR u):f.un=u.id:=by
 unfold eR at h
 grind
theorem Dc{u:Un}(hu:jF u)(p q:Pl):vo u p q∈eR u:=by
 have:=(dX ((aa3 _ _).mp hu).2).1
 unfold vo eR
 grind
theorem FW{sf:List Fc->List Fc}(hp:∀l,(sf l).Perm l){us:List Un}(H:cx us){t:Tk}{f:Fc}(h:f∈me sf us t):∃u,cf us f.un=some u/\f∈eR u:=by
 have key:∀{id u},cf us id=some u->f∈eR u->∃u,cf us f.un=some u/\f∈eR u:=λ{id u} e hf=>by have h1:=dK e;refine⟨u,?_,hf⟩;rw[Kf hf,h1.2];exact e
 unfold me at h;split at h;·cases h
 rename_i u hu;have hv:=H.val u (dK hu).1;split at h
 ·grind
 split at h
 ·grind
 split at h
 ·split at h;·cases h
  rename_i v hw;split at h
  ·simp only[abc,abn,or_false]at h;rcases h with rfl |rfl;·exact key hu (Dc hv _ _)
   exact key hw (Dc (H.val v (dK hw).1) _ _)
  cases h
 cases h
def nF(l:List Fc)(x:Fc):List Fc:=(l.filter λf=>decide (fa f x))++x::(l.filter λf=>decide (fa x f))
theorem NC{l:List Fc}{x f:Fc}(h:f∈l):f∈nF l x:=by
 by_cases e:f=x;·subst e;unfold nF;simp
 ·have:fa f x\/fa x f:=by
   cases f;cases x;unfold fa at*;simp only[Fc.mk.injEq]at e⊢;omega
  unfold nF
  grind
theorem QX{l:List Fc}{x f:Fc}(h:f∈nF l x):f=x\/f∈l:=by unfold nF at h;grind
theorem DS{x:Fc}:∀l:List Fc,(nF l x).length<=l.length+1
 |[]=>aaV _
 |f::l=>by
  have:=DS (x:=x) l
  have H:¬(fa f x/\fa x f):=by unfold fa;omega
  unfold nF at this⊢
  grind
theorem PJ{y:Yd}(hP:oL y){x:Fc}(hr:(0<=x.un/\x.un<=99)/\ -2<=x.side/\x.side<=7)(h9:y.rc.length<=9):oL {y with rc:=nF y.rc x}:=by have⟨h1,h2,h3,h4,h5,h6,h7,h8,H,a0,b0,d0,e0,g0,h0⟩:=hP;have:=DS (x:=x) y.rc;exact⟨h1,h2,h3,by grind,h5,h6,h7,h8,H,a0,b0,λf hf=>(QX hf).elim (λe=>e ▸ hr) (d0 f),yE e0,g0,h0⟩
end Go.Proofs.YtigpcbodmjjaiaaGreatDoor
namespace Go.D
open Go
def oK(S:List Nat):Code->Code
 |.region i ops d=>bif S.contains i then .goto 0 else .region i ops d
 |.seq a b=> .seq (oK S a) (oK S b)
 |.cond c x y=> .cond c (oK S x) (oK S y)
 |.block i c=> .block i (oK S c)
 |.loop c=> .loop (oK S c)
 |.scope c=> .scope (oK S c)
 |c=>c
def za(S:List Nat)(fn:Func):Func:={fn with body:=fn.body.map (oK S)}
section
variable {E:Env} {X:aM} {S:List Nat}
theorem yz{H b2:Fr->Option (Ex×Fr)}(h:∀fr r,H fr=some r->b2 fr=some r):∀(n:Nat) (fr:Fr) (r:Ex×Fr),ic H n fr=some r->ic b2 n fr=some r
 |0,_,_,e=>e
 |n+1,fr,r,e=>by
  unfold ic at e⊢
  cases h1:H fr with
  |none=>rw[h1]at e;cases e
  |some x=>
   rw[h1]at e
   rw[h _ _ h1]
   have⟨a,b⟩:=x
   cases a with
   |normal=>exact yz h n _ _ e
   |_=>exact e
theorem ij{call:aM}{n:Nat}:∀(c:Code) (fr:Fr) (r:Ex×Fr),bU E call n (oK S c) fr=some r->bU E call n c fr=some r
 |.region i ops d,fr,r,e=>by
  unfold oK at e
  cases H:S.contains i with
  |true=>rw[H]at e;cases e
  |false=>rw[H]at e;exact e
 |.seq a b,fr,r,e=>by
  simp only[oK,bU]at e⊢
  cases h1:bU E call n (oK S a) fr with
  |none=>rw[h1]at e;cases e
  |some x=>
   rw[h1]at e
   rw[ij a _ _ h1]
   have⟨a',a0⟩:=x
   cases a' with
   |normal=>exact ij b _ _ e
   |_=>exact e
 |.cond c x y,fr,r,e=>by
  simp only[oK,bU]at e⊢
  split at e
  ·rename_i t _
   cases t with
   |true=>exact ij x _ _ e
   |false=>exact ij y _ _ e
  ·cases e
 |.block i c,fr,r,e=>by
  simp only[oK,bU]at e⊢
  cases h1:bU E call n (oK S c) fr with
  |none=>rw[h1]at e;cases e
  |some x=>rw[h1]at e;rw[ij c _ _ h1];exact e
 |.loop c,fr,r,e=>by
  simp only[oK,bU]at e⊢
  exact yz (ij c) n fr r e
 |.scope c,fr,r,e=>by
  simp only[oK,bU]at e⊢
  exact ij c fr r e
 |.skip,_,_,e=>e
 |.label _,_,_,e=>e
 |.rangeFunc ..,_,_,e=>e
 |.exit _,_,_,e=>e
 |.ret,_,_,e=>e
 |.goto _,_,_,e=>e
 |.refuse _,_,_,e=>e
theorem Cl.SC{f:Nat}{fn:Func}{args:aet}{m:M}{rd:List Nat}{R:aet->M->Nat->Prop}(hX:∀l,X (.func f) args (m.wl l)=none)(hf:E.fn.get f=some fn)(hl:Nat.ble args.length fn.ntmps)
  (h:Wh E (aO E X) rd (za S fn) args m R):
  ∃vs m' lo,R vs m' lo/\m.n<=m'.n/\∃n0,∀n,n0<=n->∀l,l<=m.n->
   cJ E X n (.func f) args (m.wl l)=some (bif bF (bz vs) && Nat.ble m.n lo then(bz vs,m.wl l)else(bz vs,m'.wl (min l lo))):=by refine Cl.SB (fn':=za S fn) hX hf hl rfl (λb' H=>?_) h;obtain⟨b,hb,rfl⟩:=abl.1 (H:fn.body.map (oK S)=some b');exact⟨b,hb,λ_ _ _ _ h=>ij b _ _ h⟩
theorem Cl.WU{f:Nat}{fn:Func}{args:aet}{m:M}{R:aes->M->Nat->Prop}(hX:∀l,X (.func f) args (m.wl l)=none)(hf:E.fn.get f=some fn)(hl:Nat.ble args.length fn.ntmps)
  (h:dp E (aO E X) (za S fn) args m λvs m' lo=>(bF (bz vs)/\m.n<=lo/\R (bz vs) m m.n)\/((bF (bz vs)=false\/lo < m.n)/\R (bz vs) m' (min m.n lo))):
  ∃v m' b,Cl E X (.func f) args m b v m'/\R v m' b:=by
 have⟨vs,s,lo,h,hn,hr⟩:=Cl.SC hX hf hl h;rcases h with⟨H,a0,hR⟩ |⟨H,hR⟩;·exact⟨_,_,_,.of_flat H a0 hr,hR⟩
 exact⟨_,_,_,.wP hn H hr,hR⟩
end
end Go.D
namespace Go.Proofs.YtigpcbodmjjaiaaGreatDoor
open Go Go.D Go.Proofs.Tryz
section
section
variable {X:aM}{x0 x1 x2:aes}{m:M}{R:aet->M->Nat->Prop}
theorem F43:dp TE (aO TE X) (za [2,6] f43) [x0,x1] m R=ρ m x0 33 λa=>ς a [aew,aew] 33 λb=>δ b 33 (υ m) λc=>ψ X 91 [c] b λb c d=>ο .not b λb=>aU b False (δ c 33 (υ m) λb=>ψ X 104 [b] c λb c f=>ι c 33 (υ m) b λb c=>κ b .len [146] [x1] λg _=>Lp (λ_ b c d=>un b λ_ b=>un b λ_ b=>un b λb _=>η .lss 3 b g λb=>aU b False (δ c 33 (υ m) λb=>κ c .len [146] [x1] λf _=>ι c 33 (υ a) b λb c=>aj (ah TE b 33 (υ a)) λa=>R [a,f,χ 0] b (min d c))) [χ 0,χ 0,χ 0] b (Γ m.n d f c)):=by kernel_rfl
theorem F44:dp TE (aO TE X) f44 [x0] m R=ρ m x0 113 λa=>ς a [χ 0,χ 0,χ 0,aew,χ 0,χ 0,aew] 113 λb=>ε 113 (υ m) 0 λc=>ε 60 c 3 λc=>δ b 58 c λc=>ψ X 82 [c] b λb c d=>ε 113 (υ m) 0 λf=>ε 60 f 3 λf=>ι c 58 f b λb c=>ε 113 (υ m) 1 λf=>δ b 31 f λf=>ψ X 106 [f] b λb f g=>ε 113 (υ m) 1 λh=>ι f 31 h b λb f=>δ b 113 (υ m) λh=>ι b 113 (υ a) h λb h=>aj (ah TE b 113 (υ a)) λa=>R [a] b (Θ m.n d c g f h):=by kernel_rfl
theorem Zy:dp TE (aO TE X) f208 [x0,x1] m R=ρ m x0 33 λa=>ρ a x1 53 λb=>δ b 33 (υ m) λc=>ε 53 (υ a) 0 λd=>δ b 3 d λd=>ψ X 94 [c,d] b λb c d=>ξ b 0 λf=>ξ b 1 λb=>ς c [χ 0,χ 0,χ 0,aew,χ 0,χ 0] 60 λg=>ι g 60 (υ c) f λf g=>jn (λh=>aU b (δ f 60 (υ c) λb=>ψ X 85 [b] f λb c i=>(f.n<=i)/\(δ c 53 (υ a) λa=>ψ X 36 [b,a] c λa b c=>h [a] b (Δ m.n d g i c))) (h [aey] f (ω m.n d g))) (λa b c=>un a λa _=>R [a] b c):=by kernel_rfl
theorem Z4:dp TE (aO TE X) (za [5,7,9,11,17,26,28,31] f158) [x0,x1] m R=ρ m x0 38 λa=>ρ a x1 62 λb=>ε 38 (υ m) 0 λc=>δ b 33 c λc=>ε 62 (υ a) 2 λd=>δ b 3 d λd=>ψ X 94 [c,d] b λb c d=>ξ b 0 λf=>ξ b 1 λ_=>ς c [χ 0,χ 0,χ 0,aew,χ 0,χ 0] 60 λb=>ι b 60 (υ c) f λb c=>ε 62 (υ a) 2 λf=>δ b 3 f λf=>ε 62 (υ a) 4 λg=>δ b 3 g λg=>θ 53 [(0,f),(1,g)] λf=>ς b [χ 0,χ 0] 53 λg=>ι g 53 (υ b) f λf g=>ε 62 (υ a) 0 λa=>δ f 3 a λa=>η .eql 3 a (χ 1) λh=>aU h False (η .eql 3 a (χ 2) λh=>aU h False (η .eql 3 a (χ 3) λh=>aU h False (η .eql 3 a (χ 4) λh=>aU h False (η .eql 3 a (χ 5) λh=>aU h False (η .eql 3 a (χ 6) λh=>aU h False (η .eql 3 a (χ 7) λh=>aU h False (η .eql 3 a (χ 8) λa=>aU a (jn (λa=>ε 38 (υ m) 0 λh=>δ f 33 h λh=>δ f 53 (υ b) λi=>ψ X 208 [h,i] f λf h i=>aU f (ε 38 (υ m) 2 λf=>δ h 35 f λf=>κ h .len [35] [f] λf _=>η .lss 3 f (χ 60) λf=>aU f (a [aew,aex] h (Δ m.n d c g i)) (ε 38 (υ m) 2 λf=>δ h 35 f λf=>δ h 53 (υ b) λb=>ψ X 36 [f,b] h λb f h=>a [aew,b] f (Θ m.n d c g i h))) (a [aew,aey] h (Δ m.n d c g i))) (λa b c=>un a λa d=>un d λd _=>R [a,d] b c)) False))))))):=by kernel_rfl
theorem aax:dp TE (aO TE X) (za [2,5] f107) [x0,x1] m R=ρ m x0 38 λa=>ρ a x1 62 λb=>ς b [aew,aew] 33 λc=>jn (λb=>δ c 38 (υ m) λd=>ψ X 40 [d] c λc d f=>ο .not c λc=>aU c (b [aex] d (min m.n f)) (δ d 62 (υ a) λa=>ψ X 51 [a] d λa c d=>ο .not a λa=>b [a] c (ω m.n f d))) (λc d f=>un c λc _=>aU c False (δ d 38 (υ m) λc=>δ d 62 (υ a) λa=>ψ X 158 [c,a] d λa c d=>ξ a 0 λg=>ξ a 1 λa=>ο .not a λa=>aU a False (ε 38 (υ m) 0 λa=>δ c 33 a λa=>ψ X 43 [a,g] c λa c h=>ξ a 0 λi=>ξ a 1 λ_=>ξ a 2 λa=>ς c [aew,aew] 33 λj=>ι j 33 (υ c) i λi j=>δ i 33 (υ c) λc=>η .eql 46 a (χ 0) λa=>ι i 33 (υ b) c λc i=>aj (ah TE c 33 (υ b)) λb=>R [g,b,a] c (Δ f d h j i)))):=by kernel_rfl
theorem F45:dp TE (aO TE X) (za [3,13,24] f45) [x0,x1] m R=ρ m x0 38 λa=>ρ a x1 62 λb=>ς b [aew,aew,aew,aew,aew] 38 λc=>δ c 38 (υ m) λd=>δ c 62 (υ a) λf=>ψ X 107 [d,f] c λc d f=>ξ c 0 λ_=>ξ c 1 λg=>ξ c 2 λc=>ς d [aew,aew] 33 λh=>ι h 33 (υ d) g λg h=>ο .not c λc=>aU c False (δ g 33 (υ d) λc=>ε 38 (υ m) 2 λd=>δ g 35 d λd=>ψ X 41 [d] g λd i j=>(g.n<=j)/\(ε 38 (υ m) 3 λg=>δ i 36 g λg=>ψ X 42 [g] i λg k l=>(i.n<=l)/\(θ 38 [(0,c),(2,d),(3,g)] λc=>ς k [aew,aew,aew,aew,aew] 38 λd=>ι d 38 (υ k) c λc d=>ε 38 (υ m) 1 λg=>δ c 34 g λg=>κ c .len [34] [g] λi _=>Lp (λc d f h=>un d λd _=>η .lss 3 d i λi=>aU i (jn (λb=>ζ 34 g d λc=>δ f 113 c λc=>ς f [χ 0,χ 0,χ 0,aew,χ 0,χ 0,aew] 113 λd=>ι d 113 (υ f) c λc d=>jn (λb=>ε 62 (υ a) 0 λg=>δ c 3 g λg=>η .neq 3 g (χ 3) λg=>aU g (b [aex] c (min h d)) (ε 113 (υ f) 0 λf=>ε 60 f 0 λf=>δ c 3 f λf=>ε 62 (υ a) 2 λa=>δ c 3 a λa=>η .neq 3 f a λa=>b [a] c (min h d))) (λa c d=>un a λa _=>aU a (ε 38 (υ k) 1 λa=>δ c 34 a λa=>δ c 113 (υ f) λf=>ψ X 44 [f] c λf g h=>(c.n<=h)/\(ν g 34 1 [(0,f)] λc f=>κ (M.wl f f.n) .append [34,34] [a,c] λa c=>ε 38 (υ k) 1 λf=>ι c 34 f a λa f=>b [] a (Γ d h (M.low c) f))) (b [] c d))) (λ_ a b=>η .add 3 d (χ 1) λd=>c [d] a b)) (ε 62 (υ a) 0 λc=>δ f 3 c λc=>η .eql 3 c (χ 2) λd=>aU d False (η .eql 3 c (χ 8) λc=>aU c (ε 38 (υ k) 2 λc=>δ f 35 c λc=>ε 62 (υ a) 2 λd=>δ f 3 d λd=>ε 62 (υ a) 4 λa=>δ f 3 a λa=>θ 53 [(0,d),(1,a)] λa=>ψ X 109 [c,a,.func (.func 101) #[] #[]] f λa c d=>ε 38 (υ k) 2 λf=>ι c 35 f a λa c=>δ a 38 (υ k) λf=>ι a 38 (υ b) f λa f=>aj (ah TE a 38 (υ b)) λb=>R [b,χ 0] a (Γ h d c f)) False))) [χ 0] c (Θ m.n f h j l d)))):=by kernel_rfl
theorem F15:dp TE (aO TE X) (za [2,15] f15) [x0,x1] m R=ρ m x0 38 λa=>ς a [aew,aew,aew,aew,aew] 38 λb=>jn (λa=>δ b 38 (υ m) λc=>ψ X 40 [c] b λb c d=>ο .not b λb=>aU b (a [aex] c (min m.n d)) (κ c .len [39] [x1] λb _=>η .gtr 3 b (χ 20) λb=>a [b] c (min m.n d))) (λb c d=>un b λb _=>aU b False (ε 38 (υ m) 2 λb=>δ c 35 b λb=>ψ X 41 [b] c λb f g=>(c.n<=g)/\(ε 38 (υ m) 3 λc=>δ f 36 c λc=>ψ X 42 [c] f λc h i=>(f.n<=i)/\(θ 38 [(2,b),(3,c)] λb=>ς h [aew,aew,aew,aew,aew] 38 λc=>ι c 38 (υ h) b λb c=>ε 38 (υ m) 0 λf=>δ b 33 f λf=>ψ X 43 [f,aew] b λb f j=>ξ b 0 λk=>ξ b 1 λ_=>ξ b 2 λ_=>ε 38 (υ h) 0 λb=>ι f 33 b k λb f=>ε 38 (υ m) 1 λk=>δ b 34 k λk=>κ b .len [34] [k] λl _=>Lp (λb c d f=>un c λc _=>η .lss 3 c l λg=>aU g (ζ 34 k c λa=>δ d 113 a λa=>ς d [χ 0,χ 0,χ 0,aew,χ 0,χ 0,aew] 113 λg=>ι g 113 (υ d) a λa g=>ε 38 (υ h) 1 λi=>δ a 34 i λi=>δ a 113 (υ d) λd=>ψ X 44 [d] a λd j k=>(a.n<=k)/\(ν j 34 1 [(0,d)] λa d=>κ (M.wl d d.n) .append [34,34] [i,a] λa d=>ε 38 (υ h) 1 λh=>ι d 34 h a λa h=>η .add 3 c (χ 1) λc=>b [c] a (Δ f g k (M.low d) h))) (κ d .len [39] [x1] λb _=>Lp (λc d f g=>un d λd _=>η .lss 3 d b λb=>aU b (ζ 39 x1 d λa=>δ f 62 a λa=>ς f [χ 0,χ 0,χ 0,χ 0,aew,χ 0,χ 0,χ 0,χ 0,χ 0,χ 0] 62 λb=>ι b 62 (υ f) a λa b=>δ a 38 (υ h) λi=>δ a 62 (υ f) λf=>ψ X 45 [i,f] a λa f i=>ξ a 0 λj=>ξ a 1 λa=>ς f [aew,aew,aew,aew,aew] 38 λk=>ι k 38 (υ f) j λj k=>η .neq 46 a (χ 0) λa=>aU a False (δ j 38 (υ f) λa=>ι j 38 (υ h) a λa f=>η .add 3 d (χ 1) λd=>c [d] a (Δ g b i k f))) (δ f 38 (υ h) λb=>κ f .len [39] [x1] λc _=>ι f 38 (υ a) b λb d=>aj (ah TE b 38 (υ a)) λa=>R [a,c,χ 0] b (min g d))) [χ 0] d f)) [χ 0] b (Θ d g i c j f))))):=by kernel_rfl
theorem Z3:dU TE (aO TE X) f162 [x0,x1,x2] m R=ρ m x1 53 λa=>κ a .len [35] [x0] λb _=>Lp (λa c d f=>un c λc g=>un g λg _=>η .lss 3 c g λh=>aU h (η .add 3 c g λb=>aj (PG TE d 3 159 b) λb=>η .shr 159 b (.int .u64 1) λb=>aj (PG TE d 159 3 b) λb=>ζ 35 x0 b λh=>δ d 53 h λh=>δ d 53 (υ m) λi=>gJ x2 λj k l=>bB TE X j (k.toList++([h,i]++l.toList)) d λd h i=>η .lss 3 d (χ 0) λd=>aU d (η .add 3 b (χ 1) λb=>a [b,g] h (min f i)) (a [c,b] h (min f i))) (jn (λa=>η .lss 3 c b λb=>aU b (ζ 35 x0 c λb=>δ d 53 b λb=>δ d 53 (υ m) λg=>gJ x2 λh i j=>bB TE X h (i.toList++([b,g]++j.toList)) d λb d g=>η .eql 3 b (χ 0) λb=>a [c,b] d (min f g)) (a [c,aey] d f)) (λa b c=>un a λa d=>un d λd _=>R [a,d] b c))) [χ 0,b] a m.n:=by kernel_rfl
theorem aaw:dp TE (aO TE X) f109 [x0,x1,x2] m R=ρ m x1 53 λa=>δ a 53 (υ m) λb=>ψ X 162 [x0,b,x2] a λa b c=>ξ a 0 λd=>ξ a 1 λa=>aU a (ψ X 41 [x0] b λa b f=>δ b 53 (υ m) λg=>ζ 35 a d λd=>ι b 53 d g λb d=>R [a] b (Γ m.n c f d)) (ψ X 41 [x0] b λa f g=>(b.n<=g)/\(δ f 53 (υ m) λb=>ν f 35 1 [(0,b)] λb f=>ψ X 163 [a,d,b] f λa b d=>R [a] b (Γ m.n c g d))):=by kernel_rfl
theorem Z2:dp TE (aO TE X) (za [4,8] f163) [x0,x1,x2] m R=aj (slice? TE m 35 x0 (some x1) none none) λ_=>κ m .len [35] [x2] λa _=>η .eql 3 a (χ 0) λa=>aU a False (κ m .len [35] [x0] λa _=>η .eql 3 x1 a λa=>aU a (κ (M.wl m m.n) .append [35,35] [x0,x2] λa b=>R [a] b (min m.n (M.low b))) False):=by kernel_rfl
end
end
section
variable {X:aM} {m:M}
theorem CN(hX:cy X){l:List UW}{r vm:aes}(h:cY m l r)(hl:l.length < 1000000)(h1:one r/\one vm)(id:Int):
  ∃rv m',C X (.func 94) [.agg #[r,vm],aev id] m m.n rv m'/\Ext m m'/\eX (bR l) id m' rv:=by
 refine Cl.FD hX (aaU func94) ?_;rw[F94];dsimp only[δ,ε,ζ,η,θ,ι,ρ,ς,υ,χ,ψ,ω];refine aw λm1 v0 i0 y0=>?_;refine aw λm2 z0 j0 k0=>?_;refine aw λm3 A0 l0 b0=>?_;have n0:Ext m m3:=⟨by omega,by grind⟩
 have g1:m3.get m.n=.cells [r,vm] 33 none:=by rw[b0 _ (by omega),k0 _ (by omega)];exact i0
 have g2:m3.get m1.n=.cells [aev id] 3 none:=by rw[b0 _ (by omega)];exact j0
 have g3:m3.get m2.n=.cells Un.zc 60 none:=l0;have H:=h.aG n0;unfold ptrTo;simp only[cd,bN,ae];rw[rT g1,ae];refine aH (eL dt (hX.no _ rfl) (aaU func145) rfl uE (l:=l) (λx=>decide (x.u.id=id)) (by omega) H.sl λx hx cs hr=>?_) ?_
 ·obtain⟨rfl,hw⟩:cs=x.c/\one x.w:=hr;refine Cl.sW (args:=[x.v,aeq m1.n 0]) (hX.no _ rfl) (aaU func154) rfl rfl ?_;rw[Yr];dsimp only[δ,ε,η,ρ,υ];refine aw λm4 B0 o0 p0=>?_;have g4:m4.get m3.n=.cells (x.u.c x.w) 60 none:=o0;unfold ptrTo;rw[bD,ae,(kb g4).1,ae,wS (show m4.get m1.n=_ from(p0 _ (by omega)).trans g2),ae,aW,ae];exact⟨rfl,aaV _⟩
 rcases iU (λx:UW=>decide (x.u.id=id)) l with⟨e1,e2⟩ |⟨i,x,e1,e2,e3,e4⟩
 ·rw[e1,aQ,ae,ak,abb (by decide),bH,show aK TE 60 []=some (.agg Un.zc.toArray)from kL,ae];refine aD df g3 rfl rfl rfl λm12 q0 d0 r0=>?_;have g12:m12.get m2.n=.cells (Un.c ⟨0,0,0,[],0,0⟩ aew) 60 none:=d0;rw[bV g12,ae];refine .inl ⟨rfl,by omega,by grind,.refl,?_⟩;unfold eX cf
  rw[ac8.2 λy hy=>by obtain⟨x,hx,rfl⟩:=abF.1 hy;have:=e2 x hx;simpa using this]
  rfl
 rw[e1,aQ,ae,ak,tg,aT,rT g1,ae];obtain⟨p,f1,f2, -⟩:=H.sl.fx (k:=.i64) e2;rw[f1,ae,f2,ae];have e0:=aa2 e2;refine aD df g3 rfl rfl (Un.cM (h.sh x e0).one) λm20 u0 g0 h0=>?_;have g20:m20.get m2.n=.cells (x.u.c x.w) 60 none:=g0;rw[bV g20,ae];refine yO (m':=m20) (by grind) ?_ (by omega) ⟨by omega,by grind⟩;unfold eX
 have a0:cf (bR l) id=some x.u:=by
  unfold cf bR
  refine pz (i:=i) (by grind) e3 λj y hj hy=>?_
  grind
 rw[a0];exact⟨x.w,rfl,(H.sh x e0).bs λc cs t g hc ht=>by rw[h0 c (λe=>by subst e;rw[g3]at hc;cases hc;simp[aZ.ty,aZ.dd]at ht),hc]⟩
theorem FI(hX:cy X){l:List UW}{r vm:aes}(hF:cY m l r)(hP:cx (bR l))(h1:one r/\one vm){x:Fc}{u:Un}(hu:cf (bR l) x.un=some u)(hx:x∈eR u):
  C X (.func 208) [.agg #[r,vm],x.v] m m.n aex m:=by
 have n0:l.length<=12:=by have:=hP.len;rwa[cI]at this
 refine Cl.fG hX (aaU func208) ?_;rw[Zy];dsimp only[δ,ε,ι,ξ,ρ,ς,υ,χ,ψ,Δ,ω];refine aw λm1 u0 e0 v0=>?_;refine aw λm2 y0 g0 h0=>?_;have x2:Ext m m2:=⟨by omega,by grind⟩
 have g1:m2.get m.n=.cells [r,vm] 33 none:=(h0 _ (by omega)).trans e0;have g2:m2.get m1.n=.cells x.c 53 none:=g0;unfold ptrTo;rw[show ah TE m2 33 (aeq m.n 0)=some (.agg #[r,vm]) by rw[jj,aP (n:=2) g1 (by grind)];rfl,ae,cT,ae,(oC g2).1,ae];obtain⟨rv,m7,c7,x7,f7⟩:=CN hX (hF.aG x2) (by omega) h1 x.un;refine aH c7 ?_;obtain⟨u',w,b,rfl,fu⟩:=f7.PF hP;have i0:b/\u'=u:=by have:=fu.eq;rw[hu]at this;grind
 obtain⟨rfl,rfl⟩:=i0;rw[aJ,aJ];simp only[aaY,aaX,ae];refine aw λm11 o0 a0 p0=>?_;refine aD df a0 rfl rfl (Un.cM fu.sl.one) λm12 q0 b0 r0=>?_;have gu:m12.get m7.n=.cells (u'.c w) 60 none:=b0;have H:Ext m7 m12:=⟨by omega,by grind⟩
 have n7:=x7.n;have n12:=H.n;refine bA (λvs mm lo=>vs=[aex]/\m.n<=lo) (λQ hQ=>?_) ?_
 ·rw[ak,bH,bV gu,ae];have⟨m20,v,j0,d0,k0⟩:=yR (m:=m12) hX (fu.sl.aG H) fu.ln;refine aH j0 ⟨aaV _,?_⟩;rw[(oC (d0.cells (H.cells (x7.cells g2)))).2.2,ae];have z0:=rn (hP.val _ (dK hu).1);refine aH (jl hX k0.sl (by omega) x) ?_;have n20:=d0.n;exact hQ _ _ _ ⟨by grind,by omega⟩
 rintro _ _ lo ⟨rfl,l0⟩;exact⟨rfl,l0⟩
theorem Cl.kC{f:Nat}{fn:Func}{args:aet}{S:List Nat}{R:aes->M->Prop}(hX:cy X)(hf:TE.fn.get f=some fn)(H:dp TE (aO TE X) (za S fn) args m λvs m' lo=>(bF (bz vs)/\m.n<=lo/\m.n=m.n/\R (bz vs) m)\/((bF (bz vs)=false\/lo < m.n)/\min m.n lo=m.n/\R (bz vs) m'))(h0:zG f=false:=by exact rfl)(hl:Nat.ble args.length fn.ntmps:=by exact rfl):∃v m',C X (.func f) args m m.n v m'/\R v m':=by obtain⟨v,m',b,hc,rfl,h⟩:=Cl.WU (R:=λv m' b=>b=m.n/\R v m') (λ_=>hX.no f h0 _ _) hf hl H;exact⟨v,m',hc,h⟩
theorem Cl.fC{f:Nat}{fn:Func}{args:aet}{S:List Nat}{v:aes}(hX:cy X)(hf:TE.fn.get f=some fn)(h:dp TE (aO TE X) (za S fn) args m λvs m' lo=>bz vs=v/\m.n<=lo)(h0:zG f=false:=by exact rfl)(hl:Nat.ble args.length fn.ntmps:=by exact rfl)(hv:bF v:=by exact rfl):C X (.func f) args m m.n v m:=by obtain⟨vs,s,lo,⟨rfl,H⟩,_,hr⟩:=Cl.SC (λ_=>hX.no f h0 _ _) hf hl h;exact .of_flat hv H hr
theorem Cb{vs:aet}{m':M}{lo:Nat}{Q:aes->M->Prop}{P0:Prop}(H:m.n<=lo)(hx:Ext m m')(h:Q (bz vs) m')(hf:bF (bz vs)->Q (bz vs) m)(h0:P0:=by trivial):
  (bF (bz vs)/\m.n<=lo/\P0/\Ext m m/\Q (bz vs) m)\/((bF (bz vs)=false\/lo < m.n)/\min m.n lo=m.n/\Ext m m'/\Q (bz vs) m'):=by
 cases e:bF (bz vs)with
 |false=>exact .inr ⟨.inl rfl,by omega,hx,h⟩
 |true=>exact .inl ⟨rfl,H,h0,.refl,hf e⟩
theorem Er(hX:cy X){l:List UW}{ms:List Mk}{r vm:aes}(hF:cY m l r)(hP:cx (bR l))(hm:Sl m ms vm)(hM:im (bR l) ms):
  ∃rv m',C X (.func 43) [.agg #[r,vm],aew] m m.n rv m'/\Ext m m'/\tA (some (bR l,ms)) m' rv:=by
 refine Cl.kC (S:=[2,6]) hX (aaU func43) ?_;rw[F43];dsimp only[δ,η,ι,κ,ο,ρ,ς,υ,χ,ψ,Γ];refine aw λm1 q0 g0 r0=>?_;refine aw λm2 u0 h0 i0=>?_;have x2:Ext m m2:=⟨by omega,by grind⟩
 have g1:m2.get m.n=.cells [r,vm] 33 none:=(i0 _ (by omega)).trans g0;have g2:m2.get m1.n=.cells [aew,aew] 33 none:=h0;have ls:∀{mm:M} {b:Nat} {p q:aes} {g:Option Nat},mm.get b=.cells [p,q] 33 g->ah TE mm 33 (aeq b 0)=some (.agg #[p,q]):=λh=>by rw[jj,aP (n:=2) h (by grind)];rfl
 unfold ptrTo;rw[ls g1,ae];refine aH (uR hX (hF.aG x2) hP (hm.aG x2) hM) ?_;rw[bE,ae,ak];show gG false _ _;rw[aT,ls g1,ae];have p0:l.length<=12:=by have:=hP.len;rwa[cI]at this
 have v0:=hM.len
 obtain⟨r',H,m5,l',c5,x5,j0,b0,d0⟩:=Gz hX (hF.aG x2) (λx hx e=>by
  have:=hP.val x.u (abF.2 ⟨x,hx,rfl⟩)
  have:=(dX ((aa3 _ _).mp this).2).1
  grind) (by omega) (hm.aG x2) (by omega)
 refine aH c5 ?_;have n5:=x5.n;have o5:([r',H]:aet).all one:=by show(one r' && (one H && true))=true;rw[b0.sl.one,d0.sl.one];rfl
 refine aD dV (x5.cells g1) rfl rfl o5 λm8 y0 k0 a0=>?_;have g8:m8.get m.n=.cells [r',H] 33 none:=k0;have G2:m8.get m1.n=.cells [aew,aew] 33 none:=(a0 _ (by omega)).trans (x5.cells g2);have l0:fj (bR l) ms m8 (.agg #[r',H]):=fj.bs ⟨l',r',H,rfl,j0,b0,d0.sl⟩ λc cs t g hc ht=>(a0 c λe=>by subst e;rw[x5.cells g1]at hc;cases hc;exact ht rfl).trans hc;rw[show az TE m8 .len [146] [aew]=some (aev 0,m8) by kernel_rfl,aA];refine Lp.intro (γ:=Nat) (λ_=>0) (λ_ vs mm lo=>∃a b,vs=[a,b,aev 0]/\m8=mm/\m.n<=lo) 0 ⟨_,_,rfl,rfl,by omega⟩ ?_;rintro _ vs mm lo ⟨a,b,rfl,rfl,z0⟩;rw[aE,aE,aE,aQ,ae,ak];show gG false _ _;rw[aT,ls g8,ae,show az TE m8 .len [146] [aew]=some (aev 0,m8) by kernel_rfl,aA];refine aD dV G2 rfl rfl o5 λm9 A0 n0 e0=>?_
 have g9:m9.get m1.n=.cells [r',H] 33 none:=n0;rw[ls g9,ae];have o0:Ext m m9:=⟨by omega,λc hc=>by rw[e0 c (by omega),a0 c (by omega),x5.get c (by omega),x2.get c hc]⟩
 exact GW rfl ⟨r',H,0,rfl,l0.bs λc cs t g hc ht=>(e0 c λe=>by grind).trans hc⟩ (by omega) o0
theorem Km(H:cy X){l:List Pl}{v:aes}(hl:Sl m l v)(hs:l.length<=1000000):∃v' m',C X (.func 82) [v] m m.n v' m'/\Ext m m'/\wB m.n m' l v':=
 tj uT (H.no _ rfl) (aaU func82) rfl VK (by kernel_rfl) (λ_ _ _=>by kernel_rfl) (λ_=>by kernel_rfl) hl hs
theorem R1{α:Type}[aZ α]{l:List α}{v:aes}(h:Sl m l v):cells v=[v]/\one v:=⟨h.cells,h.one⟩
theorem qO(hX:cy X){x:KW}(h1:Sl m x.u.shape x.w)(h2:Sl m x.ms x.mv)(l1:x.u.shape.length<=1000000)(l2:x.ms.length<=1000000):
  ∃v m',C X (.func 44) [x.v] m m.n v m'/\Ext m m'/\∃k:KW,v=k.v/\k.u=x.u/\k.ms=x.ms/\Sl m' k.u.shape k.w/\Sl m' k.ms k.mv:=by
 refine Cl.FD hX (aaU func44) ?_;rw[F44];dsimp only[δ,ε,ι,ρ,ς,υ,χ,ψ,Θ];refine aw λm1 B0 n0 C0=>?_;refine aw λm2 D0 o0 p0=>?_;have x2:Ext m m2:=⟨by omega,by grind⟩
 have g1:m2.get m.n=.cells x.c 113 none:=(p0 _ (by omega)).trans n0;have g2:m2.get m1.n=.cells (KW.c ⟨⟨0,0,0,[],0,0⟩,aew,[],aew⟩) 113 none:=o0;have ln:∀{mm:M} {y:KW} {b:Nat} {g:Option Nat},mm.get b=.cells y.c 113 g->ah TE mm 58 (aeq b (0+0+3))=some y.w:=λh=>by rw[qh,aL h];rfl
 unfold ptrTo;simp only[cz,dL,bL,ae];rw[ln g1,ae];have⟨w',m7,c7,x7,p7⟩:=Km (m:=m2) hX (h1.aG x2) l1;refine aH c7 ?_;have n7:=x7.n;have hw:=R1 p7.sl;have G1:=x7.cells g1;refine bY xI G1 (by rw[hw.1];rfl) (by grind) (by grind) λm11 u0 v0 a0=>?_;have g11:m11.get m.n=.cells (KW.c ⟨x.u,w',x.ms,x.mv⟩) 113 none:=by grind
 have h0:∀c cs t g,m7.get c=.cells cs t g->t≠113->m11.get c=.cells cs t g:=λc cs t g hc ht=>(a0 c λe=>by grind).trans hc;have ht:∀{α:Type} [aZ α] {l:List α} {v:aes} {ma mb:M},(∀c cs t g,ma.get c=.cells cs t g->t≠113->mb.get c=.cells cs t g)->(∀t,t∈aZ.ty α::aZ.dd α->t≠113)->Sl ma l v->Sl mb l v:=λhk ht h=>h.bs λc cs t g hc hm=>hk c cs t g hc (ht t hm);have tp:∀t,t∈aZ.ty Pl::aZ.dd Pl->t≠113:=λt h=>by simp only[aZ.ty,aZ.dd,abc,abn,or_false]at h;subst h;decide
 have tm:∀t,t∈aZ.ty Mk::aZ.dd Mk->t≠113:=λt h=>by simp only[aZ.ty,aZ.dd,abc,abn,or_false]at h;subst h;decide
 rw[(DL g11).2.2.1,ae];have⟨H,m16,q0,b0,i0⟩:=zg (m:=m11) hX (ht h0 tm ((h2.aG x2).aG x7)) l2;refine aH q0 ?_;have n16:=b0.n;have hm:=R1 i0.sl;have r0:=b0.cells g11;refine bY GO r0 (by rw[hm.1];rfl) (by grind) (by grind) λm19 y0 z0 d0=>?_;have g19:m19.get m.n=.cells (KW.c ⟨x.u,w',x.ms,H⟩) 113 none:=by grind
 have j0:∀c cs t g,m16.get c=.cells cs t g->t≠113->m19.get c=.cells cs t g:=λc cs t g hc ht=>(d0 c λe=>by grind).trans hc;have G2:=(d0 m1.n (by omega)).trans (b0.cells ((a0 m1.n (by omega)).trans (x7.cells g2)));rw[(DL g19).2.2.2,ae];refine aD xK G2 rfl rfl (KW.cM (x:=⟨x.u,w',x.ms,H⟩) hw.2 hm.2) λm22 A0 k0 e0=>?_;have g22:m22.get m1.n=.cells (KW.c ⟨x.u,w',x.ms,H⟩) 113 none:=k0;have l0:∀c cs t g,m19.get c=.cells cs t g->t≠113->m22.get c=.cells cs t g:=λc cs t g hc ht=>(e0 c λe=>by grind).trans hc;rw[(DL g22).2.2.2,ae];have xm:Ext m m22:=⟨by omega,λc hc=>by rw[e0 c (by omega),d0 c (by omega),b0.get c (by omega),a0 c (by omega),x7.get c (by omega),x2.get c hc]⟩
 have s1:Sl m22 x.u.shape w':=ht l0 tp (ht j0 tp ((ht h0 tp p7.sl).aG b0));have s2:Sl m22 x.ms H:=ht l0 tm (ht j0 tm i0.sl);refine Cb (m:=m) (vs:=[KW.v ⟨x.u,w',x.ms,H⟩]) (Q:=λv m'=>∃k:KW,v=k.v/\k.u=x.u/\k.ms=x.ms/\Sl m' k.u.shape k.w/\Sl m' k.ms k.mv) (by omega) xm ⟨_,rfl,rfl,rfl,s1,s2⟩ λhf=>?_;have g0:(true && (true && (true && (D.bI w' && (true && (true && (D.bI H && true))))))):=hf;simp only[abG,adS,aa3]at g0;exact⟨⟨x.u,w',x.ms,H⟩,rfl,rfl,rfl,(kN s1 g0.1 m).2,(kN s2 g0.2 m).2⟩
end
section
variable {X:aM} {m:M} {y:Yd} {r r2 st rc mo:aes} {x:Fc} {u:Un}
theorem Bt{b:Nat}{p q:aes}{g:Option Nat}(h:m.get b=.cells [p,q] 33 g):ah TE m 33 (aeq b 0)=some (.agg #[p,q]):=by rw[jj,aP (n:=2) h (by grind)];rfl
set_option maxHeartbeats 1000000 in
theorem Rx(hX:cy X)(hV:lM m y r r2 st rc mo)(hP:oL y)(hu:cf y.us x.un=some u)(hx:x∈eR u)(h9:y.rc.length<=9):
  C X (.func 158) [yv r r2 st rc mo,(nw x).v aew] m m.n (.tuple #[aew,aex]) m:=by
 refine Cl.fC (S:=[5,7,9,11,17,26,28,31]) hX (aaU func158) ?_;obtain⟨⟨l,a0,hF⟩,i0, -,j0, -⟩:=hV;have H:cx (bR l):=by rw[a0];exact hP.qk
 have p0:l.length<=12:=by have:=H.len;rwa[cI]at this
 have ho:one r=true/\one r2=true:=⟨hF.sl.one,i0.one⟩
 rw[<-a0]at hu;rw[Z4];dsimp only[δ,ε,η,θ,ι,κ,ξ,ρ,ς,υ,χ,ψ,Δ,Θ];refine aw λm1 D0 k0 E0=>?_;refine aw λm2 F0 l0 n0=>?_;have x2:Ext m m2:=⟨by omega,by grind⟩
 have g1:m2.get m.n=.cells (yc r r2 st rc mo) 38 none:=(n0 _ (by omega)).trans k0;have g2:m2.get m1.n=.cells ((nw x).c aew) 62 none:=l0;unfold ptrTo;simp only[cH,dn,cC,cp,cG,ae];rw[(dP g1).1,ae,(lQ g2).2.1,ae];obtain⟨rv,m8,c8,x8,f8⟩:=CN (m:=m2) hX (hF.aG x2) (by omega) ho x.un;refine aH c8 ?_;obtain⟨u',w,b,rfl,fu⟩:=f8.PF H;rw[aJ,aJ];simp only[aaY,aaX,ae];refine aw λm12 q0 b0 r0=>?_;refine aD df b0 rfl rfl (Un.cM fu.sl.one) λm13 u0 v0 y0=>?_;have n8:=x8.n;have d0:Ext m8 m13:=⟨by omega,by grind⟩
 have G2:=d0.cells (x8.cells g2);rw[(lQ G2).2.1,ae,(lQ G2).2.2.2.1,ae,rE,ae];refine aw λm20 z0 e0 A0=>?_;refine aD oQ e0 rfl rfl rfl λm21 B0 g0 C0=>?_;have gf:m21.get m13.n=.cells x.c 53 none:=g0;have h0:Ext m13 m21:=⟨by omega,by grind⟩
 have xa:=x8.trans (d0.trans h0);have n21:=xa.n;rw[(lQ (h0.cells G2)).1,ae];simp only[aW,ae,ak];show gG false _ (gG false _ (gG false _ (gG false _ (gG false _ (gG false _ (gG false _ (gG true _ _)))))));simp only[aT,bH];refine bA (λvs mm lo=>vs=[aew,aex]/\m.n<=lo) (λQ hQ=>?_) ?_
 ·rw[(dP (xa.cells g1)).1,ae,(oC gf).2.2,ae];refine aH (FI hX (hF.aG (x2.trans xa)) H ho hu hx) ?_;rw[ak,bH,(dP (xa.cells g1)).2.2.1,ae,(j0.aG (x2.trans xa)).len dZ,aA,aQ,ae,ak,VF,bH];exact hQ _ _ _ ⟨rfl,by omega⟩
 rintro _ _ lo ⟨rfl,o0⟩;exact⟨rfl,o0⟩
theorem Ru(hX:cy X)(hV:lM m y r r2 st rc mo)(hP:oL y)(hr:(0<=x.un/\x.un<=99)/\ -2<=x.side/\x.side<=7)(hu:cf y.us x.un=some u)(hx:x∈eR u)(h9:y.rc.length<=9):
  ∃v m',C X (.func 107) [yv r r2 st rc mo,(nw x).v aew] m m.n v m'/\Ext m m'/\∃s,v=.tuple #[aew,s,aex]/\fj y.us y.ms m' s:=by
 refine Cl.kC (S:=[2,5]) hX (aaU func107) ?_;have q0:=hV;obtain⟨⟨l,b0,hF⟩,r0, -,I0, -⟩:=hV;have u0:cx (bR l):=by rw[b0];exact hP.qk
 rw[aax];dsimp only[δ,ε,η,ι,ξ,ο,ρ,ς,υ,χ,ψ,Δ,ω];refine aw λm1 J0 v0 K0=>?_;refine aw λm2 L0 y0 z0=>?_;refine aw λm3 N0 A0 e0=>?_;have x3:Ext m m3:=⟨by omega,by grind⟩
 have g1:m3.get m.n=.cells (yc r r2 st rc mo) 38 none:=(e0 m.n (by omega)).trans ((z0 _ (by omega)).trans v0);have g2:m3.get m1.n=.cells ((nw x).c aew) 62 none:=(e0 _ (by omega)).trans y0;have g3:m3.get m2.n=.cells [aew,aew] 33 none:=A0;have g0:=q0.aG x3;unfold ptrTo;refine bA (λvs mm lo=>vs=[aey]/\m3=mm/\m.n<=lo) (λQ hQ=>?_) ?_
 ·rw[(dP g1).2.2.2.2,ae];refine aH (tD hX g0 hP) ?_;rw[bE,ae,ak];show gG false _ _;rw[aT,fL g2,ae];refine aH (xF hX (show Sl m3 (nw x).un.shape _ from .nil) (by show 0 < 100000;decide) (JB hr)) ?_;rw[bE,ae];exact hQ _ _ _ ⟨rfl,rfl,by omega⟩
 rintro _ _ lo ⟨rfl,rfl,O0⟩;rw[aE,ak,aT,(dP g1).2.2.2.2,ae,fL g2,ae];refine aH (Rx hX g0 hP hu hx h9) ?_;rw[aJ,aJ];simp only[aaY,aaX,ae];rw[bE,ae,ak];show gG false _ _;rw[aT,cH,ae,(dP g1).1,ae];obtain⟨rv,m9,c9,x9,p,q,n,rfl,hS⟩:=Er (m:=m3) hX (hF.aG x3) u0 (r0.aG x3) (b0 ▸ hP.Av);refine aH c9 ?_;rw[aJ,aJ,aJ];simp only[aaY,aaX,ae];have n9:=x9.n;have⟨acc,p',q',e,h0,i0,j0⟩:=hS;cases e;have o9:([p,q]:aet).all one:=by show(one p && (one q && true))=true;rw[i0.sl.one,j0.one];rfl
 refine aw λP0 D0 k0 E0=>?_;refine aD dV k0 rfl rfl o9 λl0 F0 n0 G0=>?_;have B0:l0.get m9.n=.cells [p,q] 33 none:=n0;have d0:Ext m9 l0:=⟨by omega,by grind⟩
 have G3:=d0.cells (x9.cells g3);rw[Bt B0,ae,show aC TE .eql 46 (aev 0) (aev 0)=some aex by kernel_rfl,ae];refine aD dV G3 rfl rfl o9 λo0 H0 p0 H=>?_;have C0:o0.get m2.n=.cells [p,q] 33 none:=p0;rw[Bt C0,ae];have a0:fj y.us y.ms o0 (.agg #[p,q]):=fj.bs (fj.bs ⟨acc,p,q,rfl,h0.trans b0,i0,j0⟩ λc cs t g hc _=>d0.cells hc) λc cs t g hc ht=>(H c λe=>by grind).trans hc;refine Cb (m:=m) (vs:=[aew,.agg #[p,q],aex]) (Q:=λv m'=>∃s,v=.tuple #[aew,s,aex]/\fj y.us y.ms m' s) (by omega) ⟨by omega,λc hc=>by rw[H c (by omega),d0.get c (by omega),x9.get c (by omega),x3.get c hc]⟩ ⟨_,rfl,a0⟩ λhf=>⟨_,rfl,?_⟩
 have S0:(true && (D.dw (.agg #[p,q]) && (true && true))):=hf;exact a0.dw (by grind) m
end
section
variable {X:aM} {m:M}
theorem VN{W:Words}{x0:aes}{m:M}{R:aet->M->Nat->Prop}:dU TE W f41 [x0] m R=Wm 35 W x0 m R:=by kernel_rfl
theorem VL{W:Words}{x0:aes}{m:M}{R:aet->M->Nat->Prop}:dU TE W f42 [x0] m R=Wm 36 W x0 m R:=by kernel_rfl
theorem uO(H:cy X){l:List Fc}{v:aes}(hl:Sl m l v)(hs:l.length<=1000000):∃v' m',C X (.func 41) [v] m m.n v' m'/\Ext m m'/\wB m.n m' l v':=
 tj uV (H.no _ rfl) (aaU func41) rfl VN (by kernel_rfl) (λ_ _ _=>by kernel_rfl) (λ_=>by kernel_rfl) hl hs
theorem AV(H:cy X){l:List Mo}{v:aes}(hl:Sl m l v)(hs:l.length<=1000000):∃v' m',C X (.func 42) [v] m m.n v' m'/\Ext m m'/\wB m.n m' l v':=
 tj Pg (H.no _ rfl) (aaU func42) rfl VL (by kernel_rfl) (λ_ _ _=>by kernel_rfl) (λ_=>by kernel_rfl) hl hs
theorem Sz{x y:Fc}:EC [cZ x.un y.un,cZ x.side y.side] < 0↔fa x y:=by rw[Td];unfold cZ fa;grind
theorem Yb{x y:Fc}(h:EC [cZ x.un y.un,cZ x.side y.side]=0):x=y:=by rw[Td]at h;unfold cZ at h;cases x;cases y;grind
theorem Rp{α:Type}{p:α->Bool}{l:List α}{i:Nat}(h1:∀k y,k < i->l[k]?=some y->p y)(h2:∀k y,i<=k->l[k]?=some y->p y=false):l.filter p=l.take i:=by
 conv=>lhs;rw[<-abW i l]
 rw[abB,acd.2,acU.2,abJ]
 ·intro y H;have⟨k,hk⟩:=abi H;rw[ab0]at hk;rw[h2 _ y (by omega) hk];decide
 ·intro y H
  have⟨k,hk⟩:=abi H
  grind
theorem Rq{α:Type}{p:α->Bool}{l:List α}{i:Nat}(h1:∀k y,k < i->l[k]?=some y->p y=false)(h2:∀k y,i<=k->l[k]?=some y->p y):l.filter p=l.drop i:=by
 conv=>lhs;rw[<-abW i l]
 rw[abB,acU.2,acd.2,abZ]
 ·intro y H;have⟨k,hk⟩:=abi H;rw[ab0]at hk;exact h2 _ y (by omega) hk
 intro y H;have⟨k,hk⟩:=abi H;have:=h1 k y (by grind) (by grind);simp[this]
set_option maxHeartbeats 1000000 in
theorem Rz(hX:cy X){l:List Fc}{v:aes}{x:Fc}(hb:l.length < 400)(hl:Sl m l v)(h0:l.Pairwise fa)(i0:x∉l):
  ∃i,i<=l.length/\l.take i++x::l.drop i=nF l x/\C X (.func 162) [v,x.v,.func (.func 101) #[] #[]] m m.n (.tuple #[.int .i64 (i:Nat),aey]) m:=by
 have e0:∀i k x y,i < k->l[i]?=some x->l[k]?=some y->fa x y:=λi k x y u0 hx hy=>by
  rw[abw]at h0
  obtain⟨h1,rfl⟩:=aa0.1 hx
  obtain⟨h2,rfl⟩:=aa0.1 hy
  simp_all
 have key:∃rv m',C X (.func 162) [v,x.v,.func (.func 101) #[] #[]] m m.n rv m'/\m'=m/\∃i:Nat,rv=.tuple #[.int .i64 i,aey]/\i<=l.length/\l.take i++x::l.drop i=nF l x:=by
  refine Cl.kI hX (aaU func162) ?_;rw[Z3];dsimp only[δ,ζ,η,κ,ρ,υ,χ];refine aw λm1 v0 n0 o0=>?_;have x1:Ext m m1:=⟨by omega,o0⟩
  have g1:m1.get m.n=.cells x.c 53 none:=n0;have g0:=hl.aG x1;have step:∀y∈l,C X (.func 101) [y.v,x.v] m1 m1.n (.int .i64 (EC [cZ y.un x.un,cZ y.side x.side])) m1:=λy _=>xG hX y x;unfold ptrTo;rw[g0.len dZ,aA]
  refine Lp.intro (γ:=Nat×Nat) (λs=>s.2-s.1) (λs vs mm lo=>vs=[.int .i64 s.1,.int .i64 s.2]/\s.1<=s.2/\s.2<=l.length/\m1=mm/\m.n<=lo/\(∀k y,k < s.1->l[k]?=some y->fa y x)/\∀k y,s.2<=k->l[k]?=some y->fa x y) (0,l.length)
   ⟨rfl,aa6 _,aaV _,rfl,aaV _,λk y hk=>by omega,by grind⟩ ?_
  rintro⟨i,j⟩ vs mm lo ⟨rfl,p0,hj,rfl,q0,a0,H⟩;dsimp only at p0 hj a0 H⊢;rw[aE,aE,aQ,ae,ak];refine av (λb0=>?_) (λr0=>?_)
  ·have b0:i < j:=by grind
   obtain⟨y,hy⟩:∃y,l[(i+j)/2]?=some y:=⟨_,qz⟩
   have d0:=aa2 hy;have⟨a,cs,e1,e2,hr⟩:=g0.index dZ (k:=.i64) hy;obtain rfl:cs=y.c:=hr;have e2:ah TE m1 53 a=some y.v:=e2;rw[aS,ae,wrap64,show(i:Int)+(j:Int)=((i+j:Nat):Int) by omega,zd,RW (by omega),ae,R2,ae,ze,wrap64,ae,e1,ae,e2,ae,(oC g1).2.2,ae,cj];refine aH (step y d0) ?_;rw[aQ,ae,ak];refine av (λhc=>?_) (λhc=>?_)
   ·have hc:fa y x:=Sz.1 (aa1 hc);rw[aS,ae,wrap64];refine⟨((i+j)/2+1,j),by grind,by grind,by grind,hj,rfl,by omega,λk z hk hz=>?_,H⟩;by_cases e:k=(i+j)/2
    ·grind
    exact kW _ _ _ (e0 k _ z y (by grind) hz hy) hc
   have hc:fa x y:=(BK (a:=x) (b:=y) λe=>i0 (by grind)).resolve_right λh=>aaZ hc (Sz.2 h);refine⟨(i,(i+j)/2),by grind,rfl,by grind,by grind,rfl,by omega,a0,λk z hk hz=>?_⟩;by_cases e:k=(i+j)/2
   ·grind
   exact kW _ _ _ hc (e0 _ k y z (by grind) hy hz)
  have j0:i=j:=by
   grind
  subst j0;refine bA (λvs m' k0=>vs=[.int .i64 i,aey]/\m1=m'/\m.n<=k0) (λR hR=>?_) ?_
  ·rw[aQ,ae,ak]
   refine av (λb0=>?_) (λr0=>hR _ _ _ ⟨rfl,rfl,q0⟩)
   have b0:i < l.length:=by grind
   obtain⟨y,hy⟩:∃y,l[i]?=some y:=⟨_,aaW b0⟩
   have d0:=aa2 hy
   have⟨a,cs,e1,e2,hr⟩:=g0.index dZ (k:=.i64) hy
   obtain rfl:cs=y.c:=hr
   have e2:ah TE m1 53 a=some y.v:=e2
   rw[e1,ae,e2,ae,(oC g1).2.2,ae,cj]
   refine aH (step y d0) ?_
   rw[aW,ae,abt λh=>i0 (by rw[<-Yb h];exact d0)]
   grind
  rintro _ _ k0 ⟨rfl,rfl,l0⟩;rw[aE,aE];refine .inl ⟨rfl,l0,rfl,rfl,i,rfl,hj,?_⟩;unfold nF
  rw[Rp (i:=i) (λk y h hy=>abb (a0 k y h hy)) λk y h hy=>abt λh'=>uv _ (kW _ _ _ h' (H k y h hy)),
   Rq (i:=i) (λk y h hy=>abt λh'=>uv _ (kW _ _ _ h' (a0 k y h hy))) λk y h hy=>abb (H k y h hy)]
 obtain⟨_,_,hc,rfl,i,rfl,h1,h2⟩:=key;exact⟨i,h1,h2,hc⟩
structure Bc(X:aM):Prop where
 fc:∀args m,X (.func 163) args m=vW ⟨163,2,53⟩ (.func 163) args m
theorem NB(hI:Bc X){n1:Nat}{l:List Fc}{v:aes}{i bx:Nat}{x:Fc}(h:wB n1 m l v)(hi:i<=l.length)(hl:l.length < 1000000)(hx:m.get bx=.cells x.c 53 none)(b0:n1<=m.n):
  ∃H m' b,C X (.func 163) [v,aev i,aer bx 0 1 1] m b H m'/\n1<=b/\Ow n1 m' (l.take i++x::l.drop i) H/\m.n<=m'.n/\(∀c,c < m.n->(∀a n k,v=.slice (some a) n k->c≠a.block)->m'.get c=m.get c):=by
 by_cases e0:i < l.length
 ·rcases h with h |⟨rfl, -⟩
  ·obtain⟨H,m',b,h1,h2,h3,h4, -, -,h5⟩:=QQ (N:=⟨163,2,53⟩) rfl rfl rfl hI.fc h e0 hl hx rfl b0;exact⟨H,m',b,h1,h2,h3,h4,h5⟩
  simp at e0
 obtain rfl:i=l.length:=by omega
 rw[abD,adm];have⟨a0,c0,hv⟩:=h.sl.form;have hy:Sl m [x] (aer bx 0 1 1):=gH hx rfl;refine Cl.WU (S:=[4,8]) (R:=λH m' b=>n1<=b/\Ow n1 m' (l++ [x]) H/\m.n<=m'.n/\(∀c,c < m.n->(∀a n k,v=.slice (some a) n k->c≠a.block)->m'.get c=m.get c)) (λlw=>?_) (aaU func163) rfl ?_
 ·rw[hI.fc,hv]
  unfold vW
  dsimp only
  rw[ack,cond_true]
  cases a0 with
  |none=>rfl
  |some a=>grind
 rw[Z2];dsimp only[η,κ,χ];have⟨ti,te,t1,⟨e,t2⟩,t3,t4,t5,t6⟩:=id dZ
 have h0:∃w,slice? TE m 35 v (some (aev l.length)) none none=some w:=by
  rcases h with(⟨h1,rfl⟩ |⟨b,bc,rfl,h2,h3,h4,h5,h6⟩) |⟨h1,b,rfl,h2,h3⟩;·subst h1;exact⟨aew,by kernel_rfl⟩
  ·obtain⟨a',ha, -⟩:=jr (o:=0) t1 t2 (by rw[t3];decide) h4 (.inr (by rw[t3])) (aaV l.length) (aaV l.length)
   grind
  ·subst h1
   obtain⟨a',ha, -⟩:=jr (o:=0) (n:=0) (c:=0) (j:=0) t1 t2 (by rw[t3];decide) h3 (.inl rfl) (aaV _) (aaV _)
   grind
 have⟨w,hw⟩:=h0;rw[hw,ae,hy.len dZ,aA,aW,ae,ak];rw[show decide (((([x]:List Fc).length:Nat):Int)=0)=false from rfl,aT,h.sl.len dZ,aA,aW,ae,ak,abb rfl,bH];rcases h with h |⟨h1,b,rfl,h2,h3⟩
 ·obtain⟨H,m1,he,ho,i0,g0, -⟩:=h.append uV (show aZ.ty Fc∉aZ.dd Fc from λh=>by cases h) hy b0 (by grind);have:=i0.n;rw[he,aA];exact .inr ⟨.inl (ho.flat (by simp)),by omega,ho,this,λc hc d0=>eP he hc d0⟩
 subst h1;obtain⟨H,m1,he,ho,j0,g0⟩:=il uV h3 hy (by simp) (by simp);have:=j0.n;rw[he,aA];exact .inr ⟨.inl (ho.flat (by simp)),by omega,ho.mono b0,this,λc hc d0=>eP he hc d0⟩
theorem DN(hX:cy X)(hI:Bc X){l:List Fc}{v:aes}{x:Fc}(hb:l.length < 400)(hl:Sl m l v)(e0:l.Pairwise fa)(h0:x∉l):
  ∃rv m',C X (.func 109) [v,x.v,.func (.func 101) #[] #[]] m m.n rv m'/\Ext m m'/\Ow m.n m' (nF l x) rv/\D.bI rv=false:=by
 refine Cl.FD hX (aaU func109) ?_;rw[aaw];dsimp only[δ,ζ,ι,ν,ξ,ρ,υ,ψ,Γ];refine aw λm1 q0 i0 j0=>?_;have x1:Ext m m1:=⟨by omega,j0⟩
 have g1:m1.get m.n=.cells x.c 53 none:=i0;unfold ptrTo;rw[(oC g1).2.2,ae];have⟨i,hi,e,c4⟩:=Rz hX hb (hl.aG x1) e0 h0;refine aH c4 ?_;rw[aJ,aJ];simp only[aaY,aaX,ae];rw[ak,aT];obtain⟨w,m16,k0,b0,g0⟩:=uO (m:=m1) hX (hl.aG x1) (by omega);refine aH k0 ⟨aaV _,?_⟩;have n16:=b0.n;rw[(oC (b0.cells g1)).2.2,ae,wO,aA];obtain⟨m20,H⟩:∃q,q=m16.push (.cells x.c 53 none):=⟨_,rfl⟩
 have d0:Ext m16 m20:=H ▸ Ext.refl.push;have g20:m20.get m16.n=.cells x.c 53 none:=by rw[H];exact M.aY
 have n20:=d0.n;rw[<-H];obtain⟨rv,m22,b,l0,p0,a0,n22,n0⟩:=NB (n1:=m1.n) hI (g0.aG d0) hi (by omega) g20 (by omega);refine aH l0 ?_;rw[e]at a0;have o0:nF l x≠ []:=by unfold nF;simp
 have hf:D.bI rv=false:=by
  rcases a0 with⟨-,h⟩ |⟨b,cs,rfl, -⟩
  ·grind
  rfl
 refine .inr ⟨.inl (a0.flat o0),by omega,⟨by omega,λc hc=>?_⟩,a0.mono (by omega),hf⟩;rw[n0 c (by omega) λa n k ev=>?_,d0.get c (by omega),b0.get c (by omega),x1.get c hc];rcases g0 with(⟨rfl, -⟩ |⟨b,cs,rfl, -,h3, -⟩) |⟨-,b,rfl,h3, -⟩;·cases ev
 ·cases ev;show c≠b;omega
 cases ev;show c≠b;omega
structure zt(m0:M)(O:Nat)(m:M)(r r2 rc mo:aes)(acc:List KW)(st:aes):Prop where
 cell:m.get O=.cells (yc r r2 st rc mo) 38 none
 st:Ow m0.n m acc st
 kv:∀k∈acc,Sl m k.u.shape k.w/\Sl m k.ms k.mv/\k.u.shape.length < 1000000/\k.ms.length < 1000000
 n:m0.n<=m.n
 fr:∀c,c < m0.n->c≠O->m.get c=m0.get c
section
variable {m0:M} {O:Nat} {r r2 rc mo st:aes} {acc:List KW}
theorem zt.aG{m':M}(h:zt m0 O m r r2 rc mo acc st)(H:Ext m m'):zt m0 O m' r r2 rc mo acc st:=
 ⟨H.cells h.cell,h.st.aG H,λk hk=>⟨(h.kv k hk).1.aG H,(h.kv k hk).2.1.aG H,(h.kv k hk).2.2⟩,acn h.n H.n,λc h1 h2=>(H.get c (acK h1 h.n)).trans (h.fr c h1 h2)⟩
theorem zt.push(h:zt m0 O m r r2 rc mo acc st)(hO:O < m0.n){k:KW}(hk:Sl m k.u.shape k.w/\Sl m k.ms k.mv/\k.u.shape.length < 1000000/\k.ms.length < 1000000)(hl:acc.length < 1000000):
  ∃a m1 r' m2 m3,aI TE m 34 1 [(0,k.v)]=some (a,m1)/\az TE (M.wl m1 (M.n m1)) .append [34,34] [st,a]=some (r',m2)/\aF TE m2 34 (aeq O (0+2)) r'=some (m3,O)/\m0.n<=m2.low/\zt m0 O m3 r r2 rc mo (acc++ [k]) r':=by
 obtain⟨m1,a0⟩:∃q,q=m.push (.cells k.c 113 none):=⟨_,rfl⟩
 have b0:Ext m m1:=a0 ▸ Ext.refl.push;have e0:m1.get m.n=.cells k.c 113 none:=by rw[a0];exact M.aY
 have hn:=h.n;have h0:=b0.n;obtain⟨r',m2,m3, -,p1,p2,p3,p4,p5,p6,p7,p8⟩:=yi (n1:=m0.n) (o:=2) Cy rfl Mc rfl h.cell (by rfl) hO hn h.st b0 (gH (x:=k) e0 ⟨rfl,hk.1.one,hk.2.1.one⟩) hl
 have ks:∀{α:Type} [aZ α] {l:List α} {v:aes},(∀t,t∈aZ.ty α::aZ.dd α->t≠113/\t≠38)->Sl m l v->Sl m3 l v:=λht hs=>hs.bs λc cs t g hc hm=>by have d0:=b0.cells hc;rw[p8 c (M.bk d0) (λe=>by subst e;rw[h.cell]at hc;cases hc;exact(ht _ hm).2 rfl) λi0 g' e=>by rw[d0]at e;cases e;exact(ht _ hm).1 rfl,d0]
 have g0:∀z:KW,Sl m z.u.shape z.w/\Sl m z.ms z.mv/\z.u.shape.length < 1000000/\z.ms.length < 1000000->Sl m3 z.u.shape z.w/\Sl m3 z.ms z.mv/\z.u.shape.length < 1000000/\z.ms.length < 1000000:=λz H=>
  ⟨ks (λt h=>by simp only[aZ.ty,aZ.dd,abc,abn,or_false]at h;subst h;decide) H.1,ks (λt h=>by simp only[aZ.ty,aZ.dd,abc,abn,or_false]at h;subst h;decide) H.2.1,H.2.2⟩
 refine⟨_,m1,r',m2,m3,a0 ▸ M1,p1,p2,p3,⟨p4,p5,λz H=>?_,by omega,λc h1 h2=>(p7 c h1 h2).trans (h.fr c h1 h2)⟩⟩;rcases abp.1 H with H |H;·exact g0 z (h.kv z H)
 ·grind
theorem zt.kev{y:List Kp}(h:zt m0 O m r r2 rc mo acc st)(he:zC acc=y){m':M}(hk:∀c cs t g,m.get c=.cells cs t g->t≠38->m'.get c=.cells cs t g):∃k,zC k=y/\CH m' k st:=
 ⟨acc,he,CH.bs ⟨h.st.sl,h.st.YD,λx H=>(h.kv x H).1,λx H=>(h.kv x H).2.1,λx H=>(h.kv x H).2.2.1,λx H=>(h.kv x H).2.2.2⟩ λc cs t g hc ht=>hk c cs t g hc (by grind)⟩
end
theorem RA{r r2 a b:aes}(h1:cells a=[a])(H:cells b=[b]):aK TE 38 [(0,.agg #[r,r2]),(2,a),(3,b)]=some (yv r r2 aew a b):=by rw[zk rfl (by grind) (by grind),h1,H];rfl
set_option maxHeartbeats 2000000 in
theorem KN(hX:cy X)(hI:Bc X){y:Yd}{r r2 st rc mo:aes}{x:Fc}{u:Un}(hV:lM m y r r2 st rc mo)(hP:oL y)(hr:(0<=x.un/\x.un<=99)/\ -2<=x.side/\x.side<=7)(hu:cf y.us x.un=some u)(hx:x∈eR u)(h9:y.rc.length<=9)(r1:x∉y.rc):
  ∃rv m',C X (.func 45) [yv r r2 st rc mo,(nw x).v aew] m m.n rv m'/\Ext m m'/\lI (some {y with rc:=nF y.rc x}) m' rv:=by
 refine Cl.kC (S:=[3,13,24]) hX (aaU func45) ?_;have u1:=hV;obtain⟨-, -,⟨kl,L0,hK⟩,v1,w1⟩:=hV;have k2:kl.length<=12:=by have:=hP.P3;rw[<-L0,jk]at this;exact this
 rw[F45];dsimp only[δ,ε,ζ,η,θ,ι,κ,ν,ξ,ο,ρ,ς,υ,χ,ψ,Γ,Θ];refine aw λm1 L2 y1 M2=>?_;refine aw λm2 N2 z1 A1=>?_;refine aw λm3 O2 B1 N0=>?_;have x3:Ext m m3:=⟨by omega,by grind⟩
 have g1:m3.get m.n=.cells (yc r r2 st rc mo) 38 none:=(N0 m.n (by omega)).trans ((A1 _ (by omega)).trans y1);have g2:m3.get m1.n=.cells ((nw x).c aew) 62 none:=(N0 _ (by omega)).trans z1;have g3:m3.get m2.n=.cells (yc aew aew aew aew aew) 38 none:=B1;unfold ptrTo;rw[(dP g1).2.2.2.2,ae,fL g2,ae];obtain⟨rv,m7,c7,x7,s,rfl,hS⟩:=Ru (m:=m3) hX (u1.aG x3) hP hr hu hx h9;refine aH c7 ?_;obtain⟨us,p,q,rfl,C1,o0,p0⟩:=hS;have n7:=x7.n;have o7:([p,q]:aet).all one=true:=by show(one p && (one q && true))=true;rw[o0.sl.one,p0.one];rfl
 rw[aJ,aJ,aJ];simp only[aaY,aaX,ae];refine aw λm12 l2 O0 o2=>?_;refine aD dV O0 rfl rfl o7 λm13 u2 P0 v2=>?_;have g13:m13.get m7.n=.cells [p,q] 33 none:=P0;have S0:Ext m7 m13:=⟨by omega,by grind⟩
 rw[bE,ae,ak];show gG false _ _;simp only[dE,dn,eW,cC,cp,cG,ae];have a0:=x7.trans S0;rw[aT,Bt g13,ae,(dP (a0.cells g1)).2.2.1,ae];obtain⟨q0,m20,D1,a1,E1⟩:=uO (m:=m13) hX ((v1.aG x3).aG a0) (by omega);refine aH D1 ⟨aaV _,?_⟩;have b0:=a0.trans a1;rw[(dP (b0.cells g1)).2.2.2.1,ae];have w2:=hP.Si;obtain⟨H,j0,F1,F0,r0⟩:=AV (m:=m20) hX ((w1.aG x3).aG b0) (by omega);refine aH F1 ⟨aaV _,?_⟩;have B0:=b0.trans F0;have G0:=E1.sl.aG F0;rw[RA G0.cells r0.sl.cells,ae];refine aw λP2 y2 c1 z2=>?_;refine aD gQ c1 rfl rfl (by show(one p && (one q && (true && (one q0 && (one H && true)))))=true;rw[o0.sl.one,p0.one,G0.one,r0.sl.one];rfl) λg0 A2 d1 B2=>?_;have gO:g0.get j0.n=.cells (yc p q aew q0 H) 38 none:=d1
 have u0:Ext j0 g0:=⟨by omega,by grind⟩
 have d0:=B0.trans u0;have n329:=d0.n;have n325:=B0.n;have n320:=b0.n;have n313:=a0.n;have C0:=(hK.aG x3).aG d0;rw[(dP (d0.cells g1)).2.1,ae,C0.sl.len ff,aA];refine Lp.intro (γ:=Nat) (λi=>kl.length-i) (λi vs mm lo=>∃acc sv,vs=[.int .i64 i]/\i<=kl.length/\m.n<=lo/\zt g0 j0.n mm p q q0 H acc sv/\zC acc=(zC kl).take i) 0 ⟨[],_,rfl,aa6 _,by omega,⟨gO,.nil,λk hk=>(by cases hk),aaV _,λ_ _ _=>rfl⟩,rfl⟩ ?_;rintro i vs mm lo ⟨acc,sv,rfl,hi,T2,hO,k0⟩;have nO:=hO.n
 have a3:acc.length=i:=by have:=congrArg List.length k0;rw[jk,abP,jk]at this;omega
 have e0:∀c,c < m3.n->mm.get c=m3.get c:=λc hc=>(hO.fr c (by omega) (by omega)).trans (d0.get c hc);have G1:mm.get m.n=_:=(e0 _ (by omega)).trans g1;have G2:mm.get m1.n=_:=(e0 _ (by omega)).trans g2;have eZ:∀c cs t g,g0.get c=.cells cs t g->t≠38->mm.get c=.cells cs t g:=λc cs t g hc ht=>(hO.fr c (M.bk hc) λe=>by grind).trans hc;rw[aE,aQ,ae,ak];refine av (λH0=>?_) (λh1=>?_)
 ·have H0:i < kl.length:=by grind
  obtain⟨k,hk⟩:∃k,kl[i]?=some k:=⟨_,aaW H0⟩
  have v0:=aa2 hk;have l0:CH mm kl st:=C0.bs λc cs t g hc ht=>eZ c cs t g hc (by grind);have⟨a,cs,e1,e2,e3⟩:=l0.sl.index ff (k:=.i64) hk;obtain⟨rfl,H1,I1⟩:cs=k.c/\one k.w=true/\one k.mv=true:=e3;have e2:ah TE mm 113 a=some k.v:=e2;refine bA (λvs m' y0=>vs=[]/\m.n<=y0/\∃acc sv,zt g0 j0.n m' p q q0 H acc sv/\zC acc=(zC kl).take (i+1)) (λQ hQ=>?_) ?_
  ·rw[e1,ae,e2,ae];refine aw λc3 C2 i1 D2=>?_;refine aD xK i1 rfl rfl (KW.cM H1 I1) λz0 E2 j1 F2=>?_;have J1:z0.get mm.n=.cells k.c 113 none:=j1;have h0:Ext mm z0:=⟨by omega,by grind⟩
   have n48:=h0.n;refine bA (λvs m' y0=>vs=[aex]/\z0=m'/\m.n<=y0) (λQ2 K1=>?_) ?_
   ·rw[(lQ (h0.cells G2)).1,ae,bZ,ae,ak];show gG true _ _;rw[bH];exact K1 _ _ _ ⟨rfl,rfl,by omega⟩
   rintro _ _ gh ⟨rfl,rfl,H2⟩;rw[aE,ak,bH,(dP (h0.cells hO.cell)).2.1,ae,(DL J1).2.2.2,ae];have d3:=l0.ln k v0;have h3:=l0.lm k v0;obtain⟨v',i3,L1,N1,k',rfl,j3,k3,s1,s2⟩:=qO (m:=z0) hX ((l0.sh k v0).aG h0) ((l0.mv k v0).aG h0) (by omega) (by omega);refine aH L1 ⟨aaV _,?_⟩;obtain⟨a',l3,r',n3,o3,b1,b2,b3,b4,I0⟩:=((hO.aG h0).aG N1).push (by omega) (k:=k') ⟨s1,s2,by grind,by grind⟩ (by omega);rw[b1,aA,b2,aA,b3,aA];refine hQ _ _ _ ⟨rfl,by omega,_,_,I0,?_⟩
   have O1:(zC kl)[i]?=some k'.k:=by
    grind
   rw[abg,O1,<-k0];exact abE
  rintro _ _ y0 ⟨rfl,k1,l1,P1,I0,T1⟩;rw[aS,ae,wrap64];exact⟨i+1,by omega,l1,P1,rfl,H0,k1,I0,T1⟩
 have h1:i=kl.length:=by grind
 subst h1;have k0:zC acc=y.st:=by rw[k0,<-L0,abk (by rw[jk];omega)]
 rw[(lQ G2).1,ae];simp only[aW,ae,ak];show gG false _ (gG true _ _);rw[aT,bH,(dP hO.cell).2.2.1,ae,(lQ G2).2.1,ae,(lQ G2).2.2.2.1,ae,rE,ae];have nY:∀{α:Type} [aZ α] {l:List α} {v:aes} {ma mb:M},(∀c cs t g,ma.get c=.cells cs t g->t≠38->mb.get c=.cells cs t g)->(∀t,t∈aZ.ty α::aZ.dd α->t≠38)->Sl ma l v->Sl mb l v:=λhk ht h=>h.bs λc cs t g hc hm=>hk c cs t g hc (ht t hm);have tf:∀t,t∈aZ.ty Fc::aZ.dd Fc->t≠38:=λt h=>by simp only[aZ.ty,aZ.dd,abc,abn,or_false]at h;subst h;decide
 have tm:∀t,t∈aZ.ty Mk::aZ.dd Mk->t≠38:=λt h=>by simp only[aZ.ty,aZ.dd,abc,abn,or_false]at h;subst h;decide
 have to:∀t,t∈aZ.ty Mo::aZ.dd Mo->t≠38:=λt h=>by simp only[aZ.ty,aZ.dd,abc,abn,or_false]at h;subst h;decide
 obtain⟨nv,a2,c2,i0,A0,f91⟩:=DN hX hI (by omega) (nY eZ tf (G0.aG u0)) hP.An r1;refine aH c2 ?_;have r3:=i0.n;have cn:=A0.sl.cells;have d2:=i0.cells hO.cell;refine bY GN d2 (by rw[cn];rfl) (by grind) (by rw[cn];simp[A0.sl.one]) λh2 I2 J2 D0=>?_;have i2:h2.get j0.n=.cells (yc p q sv nv H) 38 none:=by grind
 rw[(dP i2).2.2.2.2,ae];have G3:=(D0 m2.n (by omega)).trans ((i0.get m2.n (by omega)).trans ((e0 m2.n (by omega)).trans g3));refine aD gQ G3 rfl rfl (by show(one p && (one q && (one sv && (one nv && (one H && true)))))=true;rw[o0.sl.one,p0.one,hO.st.sl.one,A0.sl.one,r0.sl.one];rfl) λJ0 K2 o1 p1=>?_;have j2:J0.get m2.n=.cells (yc p q sv nv H) 38 none:=o1;rw[(dP j2).2.2.2.2,ae]
 have K0:∀c cs t g,a2.get c=.cells cs t g->t≠38->J0.get c=.cells cs t g:=λc cs t g hc ht=>by
  grind
 have n0:∀c cs t g,g0.get c=.cells cs t g->t≠38->J0.get c=.cells cs t g:=λc cs t g hc ht=>K0 c cs t g (i0.cells (eZ c cs t g hc ht)) ht;have E0:=S0.trans (a1.trans (F0.trans u0));refine .inr ⟨.inl ?_,by omega,⟨by omega,λc hc=>by rw[p1 c (by omega),D0 c (by omega),i0.get c (by omega),e0 c (by omega),x3.get c hc]⟩,p,q,sv,nv,H,rfl,⟨us,C1,(o0.aG E0).bs λc cs t g hc ht=>n0 c cs t g hc (by grind)⟩,nY n0 tm (p0.aG E0),hO.kev k0 λc cs t g hc ht=>K0 c cs t g (i0.cells hc) ht,nY K0 tf A0.sl,nY n0 to (r0.sl.aG u0)⟩;show((D.bI p && (D.bI q && (D.bI sv && (D.bI nv && (D.bI H && true))))) && (true && true))=false;rw[f91];simp
theorem RB{a b:aes}(h1:cells a=[a])(H:cells b=[b]):aK TE 38 [(2,a),(3,b)]=some (yv aew aew aew a b):=by rw[Cu (by rw[h1];rfl) (by rw[H];rfl),h1,H];rfl
set_option maxHeartbeats 2000000 in
theorem PK(hX:cy X)(hI:Bc X){y:Yd}{r r2 st rc mo tv:aes}{x:Fc}{u:Un}(hV:lM m y r r2 st rc mo)(hP:oL y)(hr:(0<=x.un/\x.un<=99)/\ -2<=x.side/\x.side<=7)(hu:cf y.us x.un=some u)(hx:x∈eR u)(h9:y.rc.length<=9)(N1:x∉y.rc)(hT:Sl m [(⟨nw x,aew⟩:TW)] tv):
  ∃rv m',C X (.func 15) [yv r r2 st rc mo,tv] m m.n rv m'/\Ext m m'/\∃a b c d e n,rv=.tuple #[yv a b c d e,.int .i64 n,.int .i64 0]/\lM m' {y with rc:=nF y.rc x} a b c d e:=by
 refine Cl.kC (S:=[2,15]) hX (aaU func15) ?_;obtain⟨Y,hY⟩:∃Y:Yd,Y={y with rc:=nF y.rc x}:=⟨_,rfl⟩
 rw[<-hY];have O1:=hV;have⟨⟨us,H0,hF⟩,P1,⟨kl,l1,hK⟩,T1,h2⟩:=hV;have i2:cx (bR us):=by rw[H0];exact hP.qk
 have c3:kl.length<=12:=by have:=hP.P3;rw[<-l1,jk]at this;exact this
 rw[F15];dsimp only[δ,ε,ζ,η,θ,ι,κ,ν,ξ,ο,ρ,ς,υ,χ,ψ,Δ,Θ];refine aw λm1 F3 j2 G3=>?_;refine aw λm2 H3 k2 l2=>?_;have x2:Ext m m2:=⟨by omega,by grind⟩
 have g1:m2.get m.n=.cells (yc r r2 st rc mo) 38 none:=(l2 m.n (by omega)).trans j2;have g2:m2.get m1.n=.cells (yc aew aew aew aew aew) 38 none:=k2;unfold ptrTo;refine bA (λvs mm lo=>vs=[aey]/\m2=mm/\m.n<=lo) (λQ hQ=>?_) ?_
 ·rw[(dP g1).2.2.2.2,ae];refine aH (tD hX (O1.aG x2) hP) ?_;rw[bE,ae,ak];show gG false _ _;rw[aT,(hT.aG x2).len iy,aA,bX,ae];exact hQ _ _ _ ⟨rfl,rfl,by omega⟩
 rintro _ _ I3 ⟨rfl,rfl,d3⟩;simp only[cH,dE,dn,eW,ae];rw[aE,ak,aT,(dP g1).2.2.1,ae];obtain⟨e0,m19,o2,p0,u2⟩:=uO (m:=m2) hX (T1.aG x2) (by omega);refine aH o2 ⟨aaV _,?_⟩;rw[(dP (p0.cells g1)).2.2.2.1,ae];have g3:=hP.Si;obtain⟨g0,m24,v2,I0,J0⟩:=AV (m:=m19) hX ((h2.aG x2).aG p0) (by omega);refine aH v2 ⟨aaV _,?_⟩;have v0:=p0.trans I0;have n19:=p0.n;have n24:=I0.n;have K0:=u2.sl.aG I0;rw[RB K0.cells J0.sl.cells,ae];refine aw λJ3 h3 o1 i3=>?_;refine aD gQ o1 rfl rfl (by show(true && (true && (true && (one e0 && (one g0 && true)))))=true;rw[K0.one,J0.sl.one];rfl) λL0 j3 p1 k3=>?_;have r1:L0.get m24.n=.cells (yc aew aew aew e0 g0) 38 none:=p1;have u1:Ext m24 L0:=⟨by omega,by grind⟩
 have i0:=v0.trans u1;have y0:=x2.trans i0;have n28:=i0.n;rw[(dP (i0.cells g1)).1,ae];obtain⟨rv,v1,w2,N0,p,q,nn,rfl,w1⟩:=Er (m:=L0) hX (hF.aG y0) i2 (P1.aG y0) (H0 ▸ hP.Av);refine aH w2 ?_;have n33:=N0.n;have⟨ul,p',q',e,y2,z0,A0⟩:=w1;cases e;have z2:([p,q]:aet).all one=true:=by show(one p && (one q && true))=true;rw[z0.sl.one,A0.one];rfl
 rw[aJ,aJ,aJ];simp only[aaY,aaX,ae];have y1:=N0.cells r1;refine bY dV y1 rfl (by show 0+0+2<=5;decide) z2 λa0 l3 z1 B0=>?_;have gO:a0.get m24.n=.cells (yc p q aew e0 g0) 38 none:=z1;have A2:∀c cs t g,v1.get c=.cells cs t g->t≠38->a0.get c=.cells cs t g:=λc cs t g H ht=>(B0 c λe=>by grind).trans H;have C0:∀c,c < m24.n->a0.get c=m24.get c:=λc H=>by rw[B0 c (by omega),N0.get c (by omega),u1.get c H]
 have b0:∀c,c < m2.n->a0.get c=m2.get c:=λc H=>(C0 c (by omega)).trans (v0.get c H);have G1:=(b0 m.n (by omega)).trans g1;have D0:CH a0 kl st:=(hK.aG x2).bs λc cs t g H _=>(b0 c (M.bk H)).trans H;rw[(dP G1).2.1,ae,D0.sl.len ff,aA];refine Lp.intro (γ:=Nat) (λi=>kl.length-i) (λi vs mm lo=>∃acc sv,vs=[.int .i64 i]/\i<=kl.length/\m.n<=lo/\zt a0 m24.n mm p q e0 g0 acc sv/\zC acc=(zC kl).take i) 0 ⟨[],_,rfl,aa6 _,by omega,⟨gO,.nil,λk hk=>(by cases hk),aaV _,λ_ _ _=>rfl⟩,rfl⟩ ?_;rintro i vs mm lo ⟨acc,sv,rfl,hi,B2,hO,j0⟩;have nO:=hO.n
 have K3:acc.length=i:=by
  have:=congrArg List.length j0
  grind
 have eZ:∀c cs t g,a0.get c=.cells cs t g->t≠38->mm.get c=.cells cs t g:=λc cs t g H ht=>(hO.fr c (M.bk H) λe=>by grind).trans H;have A1:∀c,c < m2.n->mm.get c=m2.get c:=λc H=>(hO.fr c (by omega) (by omega)).trans (b0 c H);rw[aE,aQ,ae,ak];refine av (λq0=>?_) (λO0=>?_)
 ·have q0:i < kl.length:=by grind
  obtain⟨k,hk⟩:∃k,kl[i]?=some k:=⟨_,aaW q0⟩
  have r0:=aa2 hk;have k0:CH mm kl st:=D0.bs λc cs t g H ht=>eZ c cs t g H (by grind);have⟨a,cs,e1,e2,e3⟩:=k0.sl.index ff (k:=.i64) hk;obtain⟨rfl,C2,D2⟩:cs=k.c/\one k.w=true/\one k.mv=true:=e3;have e2:ah TE mm 113 a=some k.v:=e2;rw[e1,ae,e2,ae];refine aw λL3 m3 B1 n3=>?_;refine aD xK B1 rfl rfl (KW.cM C2 D2) λP0 o3 C1 r3=>?_;have E2:P0.get mm.n=.cells k.c 113 none:=C1;have l0:Ext mm P0:=⟨by omega,by grind⟩
  have n48:=l0.n;rw[(dP (l0.cells hO.cell)).2.1,ae,(DL E2).2.2.2,ae];have N3:=k0.ln k r0;have O3:=k0.lm k r0;obtain⟨v',a4,F2,H2,k',rfl,c4,d4,s1,s2⟩:=qO (m:=P0) hX ((k0.sh k r0).aG l0) ((k0.mv k r0).aG l0) (by omega) (by omega);refine aH F2 ⟨aaV _,?_⟩;obtain⟨a',e4,r',f4,g4,b1,b2,b3,b4,I2⟩:=((hO.aG l0).aG H2).push (by omega) (k:=k') ⟨s1,s2,by grind,by grind⟩ (by omega);rw[b1,aA,b2,aA,b3,aA,aS,ae,wrap64];refine⟨i+1,by omega,_,_,rfl,q0,by omega,I2,?_⟩
  have J2:(zC kl)[i]?=some k'.k:=by
   grind
  rw[abg,J2,<-j0];exact abE
 have O0:i=kl.length:=by grind
 subst O0;have j0:zC acc=y.st:=by rw[j0,<-l1,abk (by grind)]
 have nY:∀{α:Type} [aZ α] {l:List α} {v:aes} {ma mb:M},(∀c cs t g,ma.get c=.cells cs t g->t≠38->mb.get c=.cells cs t g)->(∀t,t∈aZ.ty α::aZ.dd α->t≠38)->Sl ma l v->Sl mb l v:=λhk ht h=>h.bs λc cs t g H hm=>hk c cs t g H (ht t hm);have tf:∀t,t∈aZ.ty Fc::aZ.dd Fc->t≠38:=λt h=>by simp only[aZ.ty,aZ.dd,abc,abn,or_false]at h;subst h;decide
 have tm:∀t,t∈aZ.ty Mk::aZ.dd Mk->t≠38:=λt h=>by simp only[aZ.ty,aZ.dd,abc,abn,or_false]at h;subst h;decide
 have to:∀t,t∈aZ.ty Mo::aZ.dd Mo->t≠38:=λt h=>by simp only[aZ.ty,aZ.dd,abc,abn,or_false]at h;subst h;decide
 have D1:∀c cs t g,m24.get c=.cells cs t g->t≠38->mm.get c=.cells cs t g:=λc cs t g H ht=>eZ c cs t g ((C0 c (M.bk H)).trans H) ht;have E0:∀c cs t g,v1.get c=.cells cs t g->t≠38->mm.get c=.cells cs t g:=λc cs t g H ht=>eZ c cs t g (A2 c cs t g H ht) ht;have K2:lM mm y p q sv e0 g0:=⟨⟨ul,y2.trans H0,z0.bs λc cs t g H ht=>E0 c cs t g H (by grind)⟩,nY E0 tm A0,hO.kev j0 λc cs t g H _=>H,nY D1 tf K0,nY D1 to J0.sl⟩
 have S0:∀{ma:M},(∀c,c < m2.n->ma.get c=m2.get c)->Sl ma [(⟨nw x,aew⟩:TW)] tv:=λhk=>(hT.aG x2).bs λc cs t g H _=>(hk c (M.bk H)).trans H;rw[(S0 A1).len iy,aA];refine Lp.intro (γ:=Nat) (λi=>1-i) (λi vs ma lo=>∃a b c d e,vs=[.int .i64 i]/\i<=1/\m.n<=lo/\ma.get m24.n=.cells (yc a b c d e) 38 none/\lM ma (if i=0 then y else Y) a b c d e/\a0.n<=ma.n/\∀c,c < m2.n->ma.get c=m2.get c) 0 ⟨p,q,sv,e0,g0,rfl,by omega,B2,hO.cell,K2,nO,A1⟩ ?_;rintro i vs ma h4 ⟨a,b,c,d,e,rfl,j4,u3,gA,d0,na,u0⟩;rw[aE,aQ,ae,ak];refine av (λq0=>?_) (λO0=>?_)
 ·obtain rfl:i=0:=by grind
  have d0:lM ma y a b c d e:=d0;have⟨ad,cs,e1,e2,e3⟩:=(S0 u0).index iy (k:=.i64) (i:=0) rfl;obtain⟨rfl, -⟩:cs=TW.c ⟨nw x,aew⟩/\one aew=true:=e3;have e2:ah TE ma 62 ad=some ((nw x).v aew):=e2;rw[e1,ae,e2,ae];refine aw λk4 v3 E1 w3=>?_;refine aD nT E1 rfl rfl rfl λa1 y3 F1 z3=>?_;have L2:a1.get ma.n=.cells ((nw x).c aew) 62 none:=F1;have c1:Ext ma a1:=⟨by omega,by grind⟩
  rw[(dP (c1.cells gA)).2.2.2.2,ae,fL L2,ae];have⟨l4,H1,M2,N2,hS⟩:=KN (m:=a1) hX hI (d0.aG c1) hP hr hu hx h9 N1;refine aH M2 ?_;rw[<-hY]at hS;obtain⟨a2,b2,c2,d2,f2,rfl,d1⟩:=hS;have n0:=c1.trans N2;have m4:=n0.n;rw[aJ,aJ];simp only[aaY,aaX,ae];refine aw λn4 A3 I1 B3=>?_;refine aD gQ I1 rfl rfl d1.ee λh1 C3 J1 D3=>?_;have O2:h1.get H1.n=.cells (yc a2 b2 c2 d2 f2) 38 none:=J1;have i1:Ext H1 h1:=⟨by omega,by grind⟩
  have P2:=i1.cells (n0.cells gA);rw[show aC TE .neq 46 (.int .i64 0) (.int .i64 0)=some aey by kernel_rfl,ae,ak,aT,(dP O2).2.2.2.2,ae];refine aD gQ P2 rfl rfl d1.ee λQ2 E3 K1 F0=>?_;rw[aS,ae,wrap64];have T2:∀c cs t g,h1.get c=.cells cs t g->t≠38->Q2.get c=.cells cs t g:=λc cs t g H ht=>(F0 c λe=>by grind).trans H;exact⟨1,by omega,a2,b2,c2,d2,f2,rfl,by omega,by omega,K1,(d1.aG i1).bs λc cs t g H ht=>T2 c cs t g H (by grind),by omega,λc H=>by rw[F0 c (by omega),i1.get c (by omega),n0.get c (by omega),u0 c H]⟩
 obtain rfl:i=1:=by grind
 have d0:lM ma Y a b c d e:=d0;rw[(dP gA).2.2.2.2,ae,(S0 u0).len iy,aA];have G2:=(u0 m1.n (by omega)).trans g2;refine aD gQ G2 rfl rfl d0.ee λG0 a3 j1 k1=>?_;have L1:G0.get m1.n=.cells (yc a b c d e) 38 none:=j1;rw[(dP L1).2.2.2.2,ae];have o0:lM G0 Y a b c d e:=d0.bs λc cs t g H ht=>(k1 c λe=>by grind).trans H;refine Cb (m:=m) (vs:=[yv a b c d e,.int .i64 (1:Nat),.int .i64 0]) (Q:=λrv m'=>∃a b c d e n,rv=.tuple #[yv a b c d e,.int .i64 n,.int .i64 0]/\lM m' Y a b c d e) (by omega) ⟨by omega,λc H=>by grind⟩ ⟨_,_,_,_,_,_,rfl,o0⟩ λhf=>⟨_,_,_,_,_,_,rfl,?_⟩
 have h0:((D.bI a && (D.bI b && (D.bI c && (D.bI d && (D.bI e && true))))) && (true && (true && true)))=true:=hf;simp only[aa3]at h0;exact o0.flat ⟨h0.1.1,h0.1.2.1,h0.1.2.2.1,h0.1.2.2.2.1,h0.1.2.2.2.2.1⟩ m
def PI{α:Type}[aZ α](n1:Nat)(m:M)(l:List α)(v:aes):Prop:=
 (l≠ []/\Ow n1 m l v)\/(l=[]/\∃b,v=.slice (some ⟨b,0,none⟩) 0 0/\n1<=b/\m.get b=.cells [] (aZ.ty α) none)
theorem PI.sl{α:Type}[aZ α]{n1:Nat}{l:List α}{v:aes}(h:PI n1 m l v):Sl m l v:=(show wB n1 m l v from h.imp And.right id).sl
theorem PI.aG{α:Type}[aZ α]{n1:Nat}{m':M}{l:List α}{v:aes}(h:PI n1 m l v)(H:Ext m m'):PI n1 m' l v:=
 h.imp (λh=>⟨h.1,h.2.aG H⟩) λ⟨h1,b,h2,h3,h4⟩=>⟨h1,b,h2,h3,H.cells h4⟩
theorem PI.append{α:Type}[aZ α]{T:TypeId}(hT:rH TE T α)(a0:aZ.dd α=[]){n1:Nat}{l ys:List α}{v y:aes}(h:PI n1 m l v)(hy:Sl m ys y\/(ys=[]/\∃a' c',y=.slice (some a') 0 c'))(hn:n1<=m.n)(hs:l.length+ys.length<=1000000):
  ∃v' m1,az TE (m.wl m.n) .append [T,T] [v,y]=some (v',m1)/\PI n1 m1 (l++ys) v'/\m.n<=m1.n/\(n1<=m1.low/\(l=[]->m.n<=m1.low))/\∀c,c < n1->m1.get c=m.get c:=by
 rcases h with⟨H,h⟩ |⟨rfl,b,rfl,h3,h4⟩
 ·obtain⟨v',m1,e1,ho,h2,h3,h4, -⟩:=h.vO hT a0 H hy hn hs;exact⟨v',m1,e1,.inl ⟨by simp[H],ho⟩,h2,⟨h3,λh=>(H h).elim⟩,h4⟩
 by_cases H:ys=[]
 ·subst H
  have he:(∃a c,y=.slice (some a) 0 c)\/y=aew:=by
   rcases hy with h |⟨-,h⟩
   ·obtain⟨a,c,rfl⟩:=h.form
    cases a with
    |none=>rcases h with⟨h, -⟩ |⟨b,o,c,bc,g,h, -⟩ <;>cases h;exact .inr rfl
    |some a=>exact .inl ⟨_,_,rfl⟩
   ·grind
  refine⟨_,m.wl m.n,append_nil hT (aaV _) (by decide) he,.inr ⟨rfl,b,rfl,h3,h4⟩,aaV _,⟨hn,λ_=>aaV _⟩,λ_ _=>rfl⟩
 have hy:Sl m ys y:=hy.resolve_right λh=>H h.1;obtain⟨v',m1,e1,ho,hx,hl⟩:=il hT h4 hy H (by grind);have:=hx.n;exact⟨v',m1,e1,.inl ⟨H,ho.mono hn⟩,this,⟨by omega,λ_=>by omega⟩,λc hc=>hx.get c (by omega)⟩
theorem nz(H:cy X){c n:Int}(hc:ka c)(hn:0 < n):C X (.func 14) [aev c,aev n] m m.n (aev (dO c n)) m:=by refine Cl.fG H (aaU func14) ?_;rw[F14];dsimp only[η,ο,χ];simp only[jn,aE];exact mM hc hn (P:=λv=>bz [v]=aev (dO c n)/\m.n<=m.n) ⟨rfl,aaV _⟩
end
section
variable {X:aM} {m:M} {sf:List Fc->List Fc} {s0:nR}
def uW(sf:List Fc->List Fc)(s0:nR)(m:M)(A:aet):Prop:=∃s r r2 st rc mo tv H qv,A=scc r r2 st rc mo tv H qv/\EA s/\zD m s r r2 st rc mo tv H qv/\∀x∈eB sf s,∃z∈eB sf s0,z.task=x.task/\z.f=x.f
theorem uW.bs{A:aet}{m':M}(h:uW sf s0 m A)(hk:∀c cs t g,m.get c=.cells cs t g->t≠43->t≠38->m'.get c=.cells cs t g):uW sf s0 m' A:=by have⟨s,r,r2,st,rc,mo,tv,H,qv,e,h1,h2,h3⟩:=h;exact⟨s,r,r2,st,rc,mo,tv,H,qv,e,h1,h2.bs hk,h3⟩
theorem WA{H:aet}{o:Nat}{a b:aes}(h1:H[o]?=some a)(h2:H[o+1]?=some b):(H.drop o).take 2=[a,b]:=by
 apply ab9
 grind
theorem Nh{l:List Ls}{v:aes}(h:Sl m l v){i:Nat}{x:Ls}(hx:l[i]?=some x):
  ∃b o,an TE 45 v (aev i)=some (aeq b o)/\ah TE m 3 (aeq b (o+0))=some (aev x.task)/\ah TE m 53 (aeq b (o+1))=some x.f.v:=by
 have⟨b,o,bc,g,cs,e1,hb,hr,hle,H⟩:=h.gM Bq (k:=.i64) hx;obtain rfl:cs=x.c:=hr;have hle:o+4<=bc.length:=hle;refine⟨b,o,e1,?_,?_⟩
 ·rw[bO,aL hb];exact H 0 (by show 0 < 4;decide)
 rw[wQ,aP (n:=2) hb (by omega),WA (H 1 (by show 1 < 4;decide)) (H 2 (by show 2 < 4;decide))];rfl
abbrev Lb(L:List Ls)(x:Ls):Bool:=L.any λz=>decide (z.task=x.task) && decide (z.f=x.f)
theorem PM{L:List Ls}{x:Ls}(h:∃z∈L,z.task=x.task/\z.f=x.f):Lb L x:=by
 grind
theorem Ih{L:List Ls}{x z:Ls}{n:Nat}(h:L[n]?=some z):Lb (L.take (n+1)) x=(Lb (L.take n) x ||(decide (z.task=x.task) && decide (z.f=x.f))):=by unfold Lb;rw[abg,h,List.any_append];simp
theorem RE{r r2 st rc mo tv pv qv:aes}:aI TE m 66 3 [(0,Ai r r2 st rc mo tv pv qv),(1,Ai r r2 st rc mo tv pv qv),(2,Ai r r2 st rc mo tv pv qv)]=
  some (.slice (some ⟨m.n,0,none⟩) 3 3,m.push (.cells (scc r r2 st rc mo tv pv qv++(scc r r2 st rc mo tv pv qv++scc r r2 st rc mo tv pv qv)) 43 none)):=by kernel_rfl
def GB(sf:List Fc->List Fc)(s0:nR)(m:M)(B:Nat):Prop:=∃H A1 A2,m.get B=.cells (H++(A1++A2)) 43 none/\uW sf s0 m H/\uW sf s0 m A1/\uW sf s0 m A2
theorem GB.at{B:Nat}(h:GB sf s0 m B){i:Nat}(hi:i < 3):∃a s r r2 st rc mo tv pv qv,an TE 66 (aer B 0 3 3) (aev (i:Nat))=some a/\ah TE m 43 a=some (Ai r r2 st rc mo tv pv qv)/\EA s/\zD m s r r2 st rc mo tv pv qv/\∀x∈eB sf s,∃z∈eB sf s0,z.task=x.task/\z.f=x.f:=by
 obtain⟨A0,A1,A2,g,⟨s,r,r2,st,rc,mo,tv,pv,qv,rfl,h1⟩,⟨s',r',i0,j0,k0,l0,n0,o0,p0,rfl,h2⟩,⟨q0,r0,H,a0,b0,d0,e0,g0,h0,rfl,h3⟩⟩:=h
 match i,hi with
 |0,_=>exact⟨_,s,r,r2,st,rc,mo,tv,pv,qv,(by kernel_rfl:_=some (aeq B 0)),by rw[wR,aP (n:=8) g (by grind)];rfl,h1⟩
 |1,_=>exact⟨_,s',r',i0,j0,k0,l0,n0,o0,p0,(by kernel_rfl:_=some (aeq B 8)),by rw[wR,aP (n:=8) g (by simp_all)];rfl,h2⟩
 |2,_=>exact⟨_,q0,r0,H,a0,b0,d0,e0,g0,h0,(by kernel_rfl:_=some (aeq B 16)),by rw[wR,aP (n:=8) g (by simp_all)];rfl,h3⟩
theorem GB.aG{B:Nat}{m':M}(h:GB sf s0 m B)(hx:Ext m m'):GB sf s0 m' B:=by have⟨A0,A1,A2,g,h1,h2,h3⟩:=h;exact⟨A0,A1,A2,hx.cells g,h1.bs λc cs t g H _ _=>hx.cells H,h2.bs λc cs t g H _ _=>hx.cells H,h3.bs λc cs t g H _ _=>hx.cells H⟩
theorem FE{B:Nat}:∀i:Nat,i < 3->an TE 66 (aer B 0 3 3) (aev (i:Nat))=some (aeq B (i*8))
 |0,_=>by kernel_rfl
 |1,_=>by kernel_rfl
 |2,_=>by kernel_rfl
theorem EA.X3{s:nR}(h:EA s){l:List Qn}(H:l.Sublist s.qs):EA ⟨s.y,s.ts,s.ps,l⟩:=
 ⟨h.y,h.ts,h.od,λq hq=>h.qs q (H.mem hq),acn H.length_le h.ql,h.uS.sublist H⟩
theorem Mx{α:Type}[aZ α]{l H:List α}{v:aes}(h:Sl m l v)(h':xA m H v):xA m l v:=by
 rcases h' with⟨rfl,rfl⟩ |⟨-,b,o,c,bc,g,rfl,h2,h3,h4⟩;·exact .inl ⟨(fy h rfl).1,rfl⟩
 have⟨a',c',e⟩:=h.form;have e2:H.length=l.length:=by grind
 exact .inr ⟨h,b,o,c,bc,g,by rw[e2],by omega,h3,h4⟩
theorem RD{a b:Int}:aK TE 62 [(0,aev 8),(2,aev a),(4,aev b)]=some ((nw ⟨a,b⟩).v aew):=zh rfl rfl rfl
end
theorem F4{W:Words}{x0 x1 x2 x3 x4 x5 x6 x7:aes}{m:M}{R:aet->M->Nat->Prop}:dp TE W Tryz.f4 [x0,x1,x2,x3,x4,x5,x6,x7] m R=W.bJ (M.push m (.cells (cells x0) 25 none)) λa=>W.bB (.func 6) [] a λa b c=>W.aj (dh .not a) λd=>aU d (R [aey] b (min m.n c)) (W.aj (ah TE b 25 (ptrTo m.n)) λd=>W.bB (.func 7) [d,x1,x2,x3] b λb d f=>W.bJ (M.push d (.cells [aew,aew,aew,aew,aew,aew,aew,aew] 43 none)) λg=>W.aR (aF TE g 43 (ptrTo d.n) b) λb g=>W.aj (ah TE b 43 (ptrTo d.n)) λh=>W.bB (.func 8) [h] b λb h i=>W.aj (bC b 0) λj=>W.aj (bC b 1) λb=>W.aj (aC TE .neq 46 b (.int .i64 0)) λb=>aU b (R [aey] h (min (min (min (min m.n c) f) g) i)) (W.aj (ah TE h 43 (ptrTo d.n)) λb=>W.aj (ah TE h 43 (ptrTo d.n)) λk=>W.aj (ah TE h 43 (ptrTo d.n)) λl=>W.aR (aI TE h 66 3 [(0,b),(1,k),(2,l)]) λb h=>W.jn (λa=>W.aj (af TE 43 (ptrTo d.n) 3) λj=>W.aj (ah TE h 41 j) λj=>W.aR (az TE h .len [41] [j]) λj _=>W.aj (aC TE .gtr 3 j (.int .i64 0)) λj=>aU j (W.aj (af TE 43 (ptrTo d.n) 3) λj=>W.aj (ah TE h 41 j) λj=>W.aR (az TE h .len [41] [j]) λj _=>W.bB (.func 14) [x4,j] h λh j k=>W.aR (aI TE j 41 0 []) λj l=>W.aj (af TE 43 (ptrTo d.n) 3) λn=>W.aj (ah TE l 41 n) λn=>W.aj (slice? TE l 41 n none (some h) none) λn=>W.aR (az TE (M.wl l l.n) .append [41,41] [j,n]) λj n=>(l.n<=M.low n)/\(W.aj (af TE 43 (ptrTo d.n) 3) λd=>W.aj (ah TE n 41 d) λd=>W.aj (aC TE .add 3 h (.int .i64 1)) λh=>W.aj (slice? TE n 41 d (some h) none none) λd=>W.aR (az TE (M.wl n n.n) .append [41,41] [j,d]) λd h=>W.aj (an TE 66 b (.int .i64 0)) λb=>W.aj (af TE 43 b 3) λb=>W.aR (aF TE h 41 b d) λb d=>a [] b (min (min (min (min (min (min (min (min m.n c) f) g) i) k) (M.low n)) (M.low h)) d))) (a [] h (min (min (min (min m.n c) f) g) i))) (λ_ c f=>W.jn (λa=>W.aR (az TE c .len [45] [j]) λg _=>W.aj (aC TE .gtr 3 g (.int .i64 0)) λg=>aU g (W.aR (az TE c .len [45] [j]) λg _=>W.bB (.func 14) [x5,g] c λc g h=>W.aj (an TE 45 j c) λc=>W.aj (af TE 55 c 1) λc=>W.aj (ah TE g 53 c) λc=>W.bJ (M.push g (.cells [.int .i64 0,.int .i64 0] 53 none)) λi=>W.aR (aF TE i 53 (ptrTo g.n) c) λc i=>W.aj (af TE 43 (ptrTo d.n) 0) λd=>W.aj (ah TE c 38 d) λd=>W.aj (af TE 53 (ptrTo g.n) 0) λj=>W.aj (ah TE c 3 j) λj=>W.aj (af TE 53 (ptrTo g.n) 1) λg=>W.aj (ah TE c 3 g) λg=>W.aj (aK TE 62 [(0,(.int .i64 8)),(2,j),(4,g)]) λg=>W.aR (aI TE c 39 1 [(0,g)]) λc g=>W.bB (.func 15) [d,c] g λc d g=>W.aj (bC c 0) λj=>W.aj (bC c 1) λ_=>W.aj (bC c 2) λc=>W.bJ (M.push d (.cells [aew,aew,aew,aew,aew] 38 none)) λk=>W.aR (aF TE k 38 (ptrTo d.n) j) λj k=>W.aj (aC TE .neq 46 c (.int .i64 0)) λc=>aU c (R [aey] j (min (min (min (min f h) i) g) k)) (W.aj (ah TE j 38 (ptrTo d.n)) λc=>W.aj (an TE 66 b (.int .i64 1)) λb=>W.aj (af TE 43 b 0) λb=>W.aR (aF TE j 38 b c) λb c=>a [aey] b (min (min (min (min (min f h) i) g) k) c))) (a [aey] c f)) (λc f g=>W.un c λc _=>W.jn (λa=>W.aj (af TE 43 (ptrTo d.n) 1) λc=>W.aj (ah TE f 39 c) λc=>W.aR (az TE f .len [39] [c]) λc _=>W.aj (aC TE .gtr 3 c (.int .i64 1)) λc=>aU c (W.aj (af TE 43 (ptrTo d.n) 1) λc=>W.aj (ah TE f 39 c) λc=>W.aR (az TE f .len [39] [c]) λc _=>W.bB (.func 14) [x6,c] f λc f h=>W.aj (af TE 43 (ptrTo d.n) 1) λi=>W.aj (ah TE f 39 i) λi=>W.aR (az TE f .len [39] [i]) λi _=>W.bB (.func 14) [x7,i] f λf i j=>W.aj (aC TE .lss 3 c f) λk=>aU k (W.aR (aI TE i 40 0 []) λi k=>W.aj (af TE 43 (ptrTo d.n) 2) λd=>W.aj (ah TE k 40 d) λd=>W.aR (az TE (M.wl k k.n) .append [40,40] [i,d]) λd i=>W.aj (aK TE 69 [(0,c),(1,f)]) λc=>W.aR (aI TE i 40 1 [(0,c)]) λc f=>W.aR (az TE (M.wl f f.n) .append [40,40] [d,c]) λc d=>W.aj (an TE 66 b (.int .i64 2)) λb=>W.aj (af TE 43 b 2) λb=>W.aR (aF TE d 40 b c) λb c=>a [] b (min (min (min (min (min g h) j) (M.low i)) (M.low d)) c)) (a [] i (min (min g h) j))) (a [] f g)) (λ_ d f=>W.Lp (λc d f g=>W.un d λd h=>W.un h λh _=>W.aj (aC TE .lss 3 h (.int .i64 3)) λi=>aU i (W.aj (an TE 66 b h) λa=>W.aj (ah TE f 43 a) λa=>W.bB (.func 8) [a] f λa b f=>W.aj (bC a 0) λi=>W.aj (bC a 1) λa=>W.aj (aC TE .neq 46 a (.int .i64 0)) λa=>aU a (R [aey] b (min g f)) (W.Lp (λa b d f=>W.un b λb g=>W.un g λg _=>W.aR (az TE d .len [45] [i]) λk _=>W.aj (aC TE .lss 3 g k) λk=>aU k (W.Lp (λc d f h=>W.un d λd k=>W.un k λk _=>W.aR (az TE f .len [45] [j]) λl _=>W.aj (aC TE .lss 3 k l) λl=>aU l (aU d (W.aj (aC TE .add 3 k (.int .i64 1)) λa=>c [aex,a] f h) (W.aj (an TE 45 j k) λa=>W.aj (af TE 55 a 0) λa=>W.aj (ah TE f 3 a) λa=>W.aj (an TE 45 i g) λb=>W.aj (af TE 55 b 0) λb=>W.aj (ah TE f 3 b) λb=>W.aj (aC TE .eql 3 a b) λa=>aU a (W.aj (an TE 45 j k) λa=>W.aj (af TE 55 a 1) λa=>W.aj (ah TE f 53 a) λa=>W.aj (an TE 45 i g) λb=>W.aj (af TE 55 b 1) λb=>W.aj (ah TE f 53 b) λb=>W.aj (aC TE .eql 53 a b) λa=>W.aj (aC TE .add 3 k (.int .i64 1)) λb=>c [a,b] f h) (W.aj (aC TE .add 3 k (.int .i64 1)) λa=>c [aey,a] f h))) (W.aj (dh .not d) λc=>aU c (R [aey] f h) (W.aj (aC TE .add 3 g (.int .i64 1)) λc=>a [b,c] f h))) [aey,.int .i64 0] d f) (W.aj (aC TE .add 3 h (.int .i64 1)) λa=>c [b,a] d f)) [d,.int .i64 0] b (min g f))) (R [a] f g)) [c,.int .i64 0] d f))))):=by kernel_rfl
end Go.Proofs.YtigpcbodmjjaiaaGreatDoor
