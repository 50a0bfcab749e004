/- works.Formed, at formed tasks. -/
import Derived.Test.YtigpcbodmjjaiaaGreatDoorG9J
set_option maxRecDepth 100000
namespace Go.Proofs.YtigpcbodmjjaiaaGreatDoor
open Go Go.D Go.Proofs.Tryz
section
variable {X:aK} {m:M}
abbrev tG(k:Int):Bt:=Tk.c ⟨k,⟨0,0,0,[],0,0⟩,0,0,0,0⟩ (.slice none 0 0)
def py(cs:Bt)(l:List (Nat×Int)):Bt:=l.foldl (λcs p=>cs.set p.1 (.int .i64 p.2)) cs
theorem Aq:∀(l:List (Nat×Int)) (cs:Bt),(py cs l).length=cs.length
 |[],_=>rfl
 |p::l,cs=>by show(py (cs.set p.1 _) l).length=_;rw[Aq l,List.length_set]
theorem Bh(u:Un)(h:eN u)(h0:u.id=0):u=⟨0,0,0,[],0,0⟩:=by
 have⟨a,b,c,d,e,f⟩:=u;unfold eN at h;grind
theorem HR{t:Tk}(h:dB t)(k:t.kind=1):jD t.un/\cR t.un.kind 6 8/\t.id=0/\t.other=0/\t.side=0/\t.du=0:=by
 unfold dB at h;grind
theorem HQ{t:Tk}(h:dB t)(k:t.kind≠1):t.un=⟨0,0,0,[],0,0⟩/\cR t.id 0 99/\cR t.other 0 99/\cR t.side (-2) 7/\cR t.du 0 7/\(t.kind=9->t.id<t.other)/\
  py (tG t.kind) (jt t)=Tk.c t YM:=by
 have hk:=rG h;unfold dB at h;rw[QL k]at h;have h0:cR 0 0 99:=by decide
 have h1:cR 0 (-2) 7:=by decide
 have h2:cR 0 0 7:=by decide
 have⟨kd,un,id,ot,sd,mt⟩:=t;simp only[]at h k hk;split at h
 ·rename_i c;simp only[JJ,EU]at h;obtain⟨⟨⟨⟨⟨H,e2⟩,e3⟩,rfl⟩,rfl⟩,rfl⟩:=h;have:=Bh un H e2;subst this;refine⟨rfl,e3,h0,h1,h2,λe=>?_,?_⟩;·grind
  unfold jt;simp only[];rw[QL k,im,im,im];rfl
 split at h
 ·rename_i c;simp only[JJ,EU]at h;obtain⟨⟨⟨⟨⟨H,e2⟩,e3⟩,rfl⟩,rfl⟩,e4⟩:=h;have:=Bh un H e2;subst this;refine⟨rfl,e3,h0,h1,e4,λe=>?_,?_⟩;·grind
  unfold jt;simp only[];rw[QL k,Tf c];rfl
 split at h
 ·rename_i c;simp only[JJ,EU]at h;obtain⟨⟨⟨⟨⟨H,e2⟩,e3⟩,rfl⟩,e4⟩,rfl⟩:=h;have:=Bh un H e2;subst this;refine⟨rfl,e3,h0,e4,h2,λe=>?_,?_⟩;·grind
  unfold jt;simp only[];rw[QL k,im,Tf c];rfl
 split at h;·rename_i c;simp only[JJ,EU]at h;obtain⟨⟨⟨⟨⟨⟨H,e2⟩,e3⟩,e4⟩,rfl⟩,e5⟩,e6⟩:=h;have:=Bh un H e2;subst this;refine⟨rfl,e3,e4,h1,e5,λ_=>e6,?_⟩;unfold jt;simp only[];rw[QL k,im,im,Tf c];rfl
 cases h
theorem TC{t:Tk}(h:dB t)(k:t.kind=1):py (tG t.kind) (jt t)=Tk.c {t with un:={t.un with shape:=[]}} YM:=by obtain⟨-, -,H,e2,e3,e4⟩:=HR h k;have⟨kd,un,id,ot,sd,mt⟩:=t;simp only[]at H e2 e3 e4 k;subst H e2 e3 e4 k;rfl
set_option maxHeartbeats 1000000 in
theorem ES(hX:cd X){t:Tk}{w:Φ}(hw:Sl m t.un.shape w)(y1:t.un.shape.length < 100000)(hf:dB t=true):C X (.func 51) [t.v w] m m.n Ku m:=by
 refine Cl.fG hX (Kg func51) ?_;have q0:=rG hf;rw[F51];dsimp only[δ,ε,ζ,η,θ,ι,κ,ο,ρ,ς,υ,χ,ψ,Δ,ω];refine aw λm1 z1 G0 H0=>?_;have g1:m1.get m.n=.cells (t.c w) 62 none:=G0;have I0:Ext m m1:=⟨by omega,H0⟩
 unfold ptrTo;simp only[cn,di,bZ,cE,cD,dh,cM,bD,ae];rw[(nq g1).1,ae];refine aG (iq hX) ?_;rw[bk,ae,show cR t.kind 1 9=true by unfold cR;rw[IH q0.1,IH q0.2];rfl,aj];show gH false _ _;have bt:aJ TE 62 [(0,.int .i64 t.kind)]=some (Tk.v ⟨t.kind,⟨0,0,0,[],0,0⟩,0,0,0,0⟩ YM):=rP rfl;rw[aN,(nq g1).1,ae,bt,ae];refine aw λm11 h1 i0 r0=>?_;refine aC mF i0 rfl rfl rfl λm12 i1 j0 s0=>?_;have gP:m12.get m1.n=.cells (tG t.kind) 62 none:=j0;have o0:Ext m1 m12:=⟨by omega,by grind⟩
 have j1:m1.n < m12.n:=by omega
 clear i0 r0 j0 s0;have⟨A1,m15,J0,d0,K0⟩:=AK (m:=m12) hX (o0.cells g1);refine aG J0 ?_;have n15:=d0.n;have⟨v17,m18,L0,e0,p0⟩:=AK (m:=m15) (t:=⟨t.kind,⟨0,0,0,[],0,0⟩,0,0,0,0⟩) hX (d0.cells gP);refine aG L0 ?_;have n18:=e0.n
 have u0:P6 m1.n ⟨t.kind,⟨0,0,0,[],0,0⟩,0,0,0,0⟩=P6 m1.n t:=by
  unfold P6 jt;simp only[];split;·rfl
  split;·rfl
  split;·rfl
  split <;>rfl
 rw[u0]at p0;have N0:=K0.aE e0;have O0:(P6 m1.n t).length=(jt t).length:=Gv _
 have B1:(jt t).length<=5:=by
  unfold jt;split;·simp
  split;·simp
  split;·simp
  split <;>simp
 rw[p0.len Fg,az,O0];have k0:=e0.cells (d0.cells gP);have g18:=e0.cells (d0.cells (o0.cells g1));have v0:=hw.aE (I0.trans (o0.trans (d0.trans e0)));refine Lp.intro (γ:=Nat) (λi=>(jt t).length-i) (λi vs H lo=>vs=[.int .i64 i]/\i<=(jt t).length/\m.n<=lo/\H.n=m18.n/\H.get m1.n=.cells (py (tG t.kind) ((jt t).take i)) 62 none/\∀c,c≠m1.n->H.get c=m18.get c) 0 ⟨rfl,ZE _,by omega,rfl,k0,λ_ _=>rfl⟩ ?_;rintro i vs H lo ⟨rfl,hi,P0,hn,gP,y0⟩;have gT:H.get m.n=.cells (t.c w) 62 none:=by grind
 have kp:∀{l:List IP} {v:Φ},Sl m18 l v->Sl H l v:=λh=>h.aV λc cs t' g hc ht=>by
  have ht:t'=195:=by simpa[aW.ty,aW.cT]using ht
  subst ht;rw[y0 c (by grind),hc]
 have z0:=kp p0;have A0:=kp N0;rw[aB,aM,ae,aj];refine an (λc=>?_) (λc=>?_)
 ·have c1:i < (jt t).length:=by grind
  obtain⟨p,hp⟩:∃p,(jt t)[i]?=some p:=⟨_,Fx c1⟩
  have⟨pv,Y5⟩:=QQ (w:=w) (LZ hp)
  obtain⟨a,cs,e1,e2,e3⟩:=z0.index Fg (k:=.i64) (show(P6 m1.n t)[i]?=some ⟨m1.n,p.1⟩ by grind)
  obtain rfl:cs=[.pointer (some ⟨m1.n,p.1,none⟩)]:=e3
  have e2:ah TE H 195 a=some (.pointer (some ⟨m1.n,p.1,none⟩)):=e2
  obtain⟨a',cs,e4,e5,e6⟩:=A0.index Fg (k:=.i64) (show(P6 m.n t)[i]?=some ⟨m.n,p.1⟩ by grind)
  obtain rfl:cs=[.pointer (some ⟨m.n,p.1,none⟩)]:=e6
  have e5:ah TE H 195 a'=some (.pointer (some ⟨m.n,p.1,none⟩)):=e5
  rw[e1,ae,e2,ae,e4,ae,e5,ae,gB,ae,bF,aI gT,pv,ae,gB,ae]
  have l0:(py (tG t.kind) ((jt t).take i)).length=11:=by rw[Aq];rfl
  refine bS rf gP rfl (by show p.1+1<=_;rw[l0];omega) rfl λC1 k1 B0 l1=>?_
  rw[aP,ae,wrap64]
  refine⟨i+1,by omega,rfl,by omega,by omega,by omega,?_,by grind⟩
  rw[B0]
  congr 1
  rw[Q1,hp]
  show(py (tG t.kind) ((jt t).take i)).take p.1++(Value.int .i64 p.2::(py (tG t.kind) ((jt t).take i)).drop (p.1+1))=py (tG t.kind) ((jt t).take i++ [p])
  unfold py
  rw[RR]
  exact iO (by show p.1 < (py (tG t.kind) ((jt t).take i)).length;rw[l0];exact Y5)
 obtain rfl:i=(jt t).length:=by have:¬(i:Int)< ((jt t).length:Int):=Ja c;omega
 rw[V9]at gP;have g0:Sl H t.un.shape w:=mL v0 k0 y0;refine aZ (λvs m' lo=>∃w',vs=[]/\m.n<=lo/\m'.get m.n=.cells (t.c w) 62 none/\m'.get m1.n=.cells (t.c w') 62 none/\Sl m' t.un.shape w/\Sl m' t.un.shape w'/\m.n<=m'.n) (λQ hQ=>?_) ?_
 ·rw[(nq gT).1,ae,aS,ae,aj];refine an (λk=>?_) (λk=>?_)
  ·rw[TC hf (NT k)]at gP;rw[(rX gT).2.2.2.1,ae];refine MC gP g0.one g0.cells λD1 o1 C0 D0=>?_;have n0:=mL g0 gP D0;exact hQ _ _ _ ⟨w,rfl,by omega,by grind,C0,n0,n0,by omega⟩
  obtain⟨e1, -, -, -, -, -,e2⟩:=HQ hf (Ja k);rw[e2]at gP;exact hQ _ _ _ ⟨_,rfl,P0,gT,gP,g0,by rw[e1];exact .nil,by omega⟩
 rintro _ E0 fO ⟨w',rfl,p1,gT,gP,F0,d1,r1⟩;have⟨a0,a1,a2,a3,a4⟩:=nq gT;have⟨b0,b1,b2,b3,b4⟩:=nq gP;refine aZ (λvs H lo=>vs=[Zf]/\E0=H/\m.n<=lo) (λQ hQ=>?_) ?_
 ·have nt:∀z:Int,(!decide (z=z))=false:=by grind
  simp only[a1,a2,a3,a4,b1,b2,b3,b4,ae,bL,aj,nt,aN,rh gT,rh gP];refine aG (Dl hX d1 F0 (by omega)) ?_;rw[bk,ae];exact hQ _ _ _ ⟨rfl,rfl,by omega⟩
 rintro _ _ E1 ⟨rfl,rfl,v1⟩;rw[aB,aj,aN,a0,ae,aS,ae,aj];refine an (λk=>?_) (λk=>?_)
 ·obtain⟨u1,u2, -⟩:=HR hf (NT k);refine aZ (λvs H lo=>vs=[Ku]/\m.n<=lo) (λQ hQ=>?_) ?_
  ·rw[rh gT,ae];refine aG (mE hX F0 (by omega)) ?_;rw[u1,aj,bH,(rX gT).2.1,ae];refine aG (iq hX) ?_;rw[u2];exact hQ _ _ _ ⟨rfl,by omega⟩
  rintro _ H l ⟨rfl,hl⟩;rw[aB];exact⟨rfl,hl⟩
 obtain⟨-,u1,u2,u3,u4,u5, -⟩:=HQ hf (Ja k);refine aZ (λvs H lo=>vs=[Ku]/\E0=H/\m.n<=lo) (λQ hQ=>?_) ?_
 ·rw[a1,ae];refine aG (iq hX) ?_;rw[u1,aj,bH,a2,ae];refine aG (iq hX) ?_;rw[u2];exact hQ _ _ _ ⟨rfl,rfl,by omega⟩
 rintro _ _ F1 ⟨rfl,rfl,w1⟩;rw[aB];refine aZ (λvs H lo=>vs=[Ku]/\m.n<=lo) (λQ hQ=>?_) ?_
 ·rw[aj,bH,a3,ae];refine aG (iq hX) ?_;rw[u3,aj,bH,a4,ae];refine aG (iq hX) ?_;rw[u4,aj,bH,a0,ae,bL,ae,aj];refine an (λc=>hQ _ _ _ ⟨rfl,by omega⟩) (λc=>?_);rw[Q0]at c;have:=u5 (NT c);rw[a1,ae,a2,ae,aM,ae,IH this];exact hQ _ _ _ ⟨rfl,by omega⟩
 rintro _ H l ⟨rfl,hl⟩;rw[aB];exact⟨rfl,hl⟩
theorem acv{a b:Int}:JC [a,b]=if a=0 then b else a:=by
 unfold JC;grind
theorem Lq(hX:cd X){x y:KW}(h:x.u.id<y.u.id):C X (.func 99) [x.v,y.v] m m.n (YR (-1)) m:=by
 refine Cl.fG hX (Kg func99) ?_;rw[F99];dsimp only[δ,ε,ρ,υ,ψ];refine aw λm1 d0 H e0=>?_;refine aw λm2 g0 a0 b0=>?_;have g1:m2.get m.n=.cells x.c 113 none:=by rw[b0 _ (by omega)];exact H
 have g2:m2.get m1.n=.cells y.c 113 none:=a0;unfold ptrTo;rw[bW,ae,bz,ae,(EJ g1).1,ae,bW,ae,bz,ae,(EJ g2).1,ae];refine aG (ed hX _ _) ?_;exact⟨by unfold dp;rw[Tf h];rfl,by omega⟩
theorem ael(H:cd X)(x y:Fc):C X (.func 101) [x.v,y.v] m m.n (YR (JC [dp x.un y.un,dp x.side y.side])) m:=by
 refine Cl.fG H (Kg func101) ?_;rw[aa0];dsimp only[δ,ε,ν,ρ,υ,ψ,Γ];refine aw λm1 i0 d0 j0=>?_;refine aw λm2 k0 e0 g0=>?_;have g1:m2.get m.n=.cells x.c 53 none:=by rw[g0 _ (by omega)];exact d0
 have g2:m2.get m1.n=.cells y.c 53 none:=e0;obtain⟨a0,a1, -⟩:=qq g1;obtain⟨b0,b1, -⟩:=qq g2;unfold ptrTo;simp only[cW,dj,ae];rw[a0,ae,b0,ae];refine aG (ed H _ _) ⟨Ox _,?_⟩;rw[a1,ae,b1,ae];refine aG (ed H _ _) ?_;rw[mX,az];obtain⟨m18,hm⟩:∃q,q=m2.push (.cells ([dp x.un y.un,dp x.side y.side].map (.int .i64)) 3 none):=⟨_,rfl⟩
 rw[<-hm];have g18:m18.get m2.n=.cells ([dp x.un y.un,dp x.side y.side].map (.int .i64)) 3 none:=by rw[hm];exact M.aX
 have n18:m2.n<=m18.n:=by rw[hm];exact Pz _
 refine aG (Hp H (nw g18) (by grind)) ?_;exact⟨rfl,by omega⟩
theorem CU(H:cd X)(x y:Mo):C X (.func 103) [x.v,y.v] m m.n (YR (JC [dp x.a y.a,dp x.b y.b])) m:=by
 refine Cl.fG H (Kg func103) ?_;rw[aaY];dsimp only[δ,ε,ν,ρ,υ,ψ,Γ];refine aw λm1 i0 d0 j0=>?_;refine aw λm2 k0 e0 g0=>?_;have g1:m2.get m.n=.cells x.c 109 none:=by rw[g0 _ (by omega)];exact d0
 have g2:m2.get m1.n=.cells y.c 109 none:=e0;obtain⟨a0,a1, -⟩:=NI g1;obtain⟨b0,b1, -⟩:=NI g2;unfold ptrTo;simp only[dO,eF,ae];rw[a0,ae,b0,ae];refine aG (ed H _ _) ⟨Ox _,?_⟩;rw[a1,ae,b1,ae];refine aG (ed H _ _) ?_;rw[mX,az];obtain⟨m18,hm⟩:∃q,q=m2.push (.cells ([dp x.a y.a,dp x.b y.b].map (.int .i64)) 3 none):=⟨_,rfl⟩
 rw[<-hm];have g18:m18.get m2.n=.cells ([dp x.a y.a,dp x.b y.b].map (.int .i64)) 3 none:=by rw[hm];exact M.aX
 have n18:m2.n<=m18.n:=by rw[hm];exact Pz _
 refine aG (Hp H (nw g18) (by grind)) ?_;exact⟨rfl,by omega⟩
theorem BU{a b c d:Int}(h:a<c\/a=c/\b<d):JC [dp a c,dp b d]<0:=by
 rw[acv];unfold dp;grind
abbrev PH(T t:TypeId)(z:Bt)(W:Words)(x0 x1 x2:Φ)(m:M)(R:Bt->M->Nat->Prop):Prop:=
(W.aO (av TE m .len [T] [x0]) λv1 _=>(W.Lp (λP2 j0 m4 a0=>W.un j0 λv6 r7=>W.un r7 λv8 r9=>(W.ai (aA TE .lss 3 v8 v1) λv10=>(aR v10
(W.ai (ak TE T x0 v8) λv11=>(W.ai (ah TE m4 t v11) λv12=>(W.bC (M.push m4 (.cells z t none)) λm13=>(W.aO (aD TE m13 t (ptrTo (M.n m4)) v12) λm14 d0=>(W.jn (λe0=>(W.ai (ah TE m14 t (ptrTo (M.n m4))) λv20=>(gL x2 λg21 f22 k0=>(W.bs g21 (f22.toList++([v20]++k0.toList)) m14 λv24 H g0=>(W.ai (cU .not v24) λv27=>(aR v27
(e0 [.bool true] H (min (min a0 d0) g0))
(W.ai (aA TE .gtr 3 v8 (.int .i64 0)) λv28=>(aR v28
(W.ai (aA TE .sub 3 v8 (.int .i64 1)) λv29=>(W.ai (ak TE T x0 v29) λv30=>(W.ai (ah TE H t v30) λv31=>(W.ai (ah TE H t (ptrTo (M.n m4))) λv32=>(gL x1 λl0 f34 n0=>(W.bs l0 (f34.toList++([v31,v32]++n0.toList)) H λv36 o0 p0=>(W.ai (aA TE .geq 3 v36 (.int .i64 0)) λv39=>(e0 [v39] o0 (min (min (min a0 d0) g0) p0)))))))))
(e0 [.bool false] H (min (min a0 d0) g0))))))))))
(λi0 m18 b0=>W.un i0 λv40 r0=>(aR v40
(R [.bool false] m18 b0)
(W.ai (aA TE .add 3 v8 (.int .i64 1)) λq0=>(P2 [v6,q0] m18 b0)))))))))
(R [.bool true] m4 a0)))) [.bool false,.int .i64 0] m (M.n m)))
theorem adn{W:Words}{x0 x1 x2:Φ}{m:M}{R:Bt->M->Nat->Prop}:dk TE W f98 [x0,x1,x2] m R=PH 34 113 [YR 0,YR 0,YR 0,YM,YR 0,YR 0,YM] W x0 x1 x2 m R:=F98
theorem Wq{W:Words}{x0 x1 x2:Φ}{m:M}{R:Bt->M->Nat->Prop}:dk TE W f100 [x0,x1,x2] m R=PH 35 53 [YR 0,YR 0] W x0 x1 x2 m R:=aa1
theorem aa4{W:Words}{x0 x1 x2:Φ}{m:M}{R:Bt->M->Nat->Prop}:dk TE W f102 [x0,x1,x2] m R=PH 36 109 [YR 0,YR 0,YR 0] W x0 x1 x2 m R:=aaZ
theorem GH{T t:TypeId}{te:TI}{α:Type}[aW α](hT:oU TE T t α)(q0:aW.agg α)(r0:TE.ty.get t=some te)(s0:te.size=aW.sz α)(k0:∀(mm:M) (b:Nat) (cs:Bt),mm.get b=.cells cs t none->cs.length=aW.sz α->ah TE mm t (Ga b 0)=some (.agg cs.toArray)){z:Bt}(hz:z.length=aW.sz α)
  {m:M} {l:List α} {v:Φ} {g1 g2:Fn} {f1 c1 f2 c2:Array Φ} {R:Bt->M->Nat->Prop} (val:α->Bt) (e0:∀m x cs,aW.rep m x cs->cs=val x) (hb:l.length<1000000)
  (J:Nat->M->Nat->Prop) (u0:∀i m1 m2 lo,J i m1 lo->Ext m1 m2->J i m2 lo) (l0:∀i m1 lo b,J i m1 lo->m.n<=b->J i m1 (min lo b)) (hn:∀i m1 lo,J i m1 lo->m.n<=m1.n) (hl:∀i m1 lo,J i m1 lo->Sl m1 l v)
  (hr:∀i x m1 H,l[i]?=some x->J i m1 H->∃b m2,C X g2 (f2.toList++([.agg (val x).toArray]++c2.toList)) m1 b Ku m2/\J (i+1) m2 (min H b)/\m1.n<=m2.n/\∀c,m.n<=c->c<m1.n->m2.get c=m1.get c)
  (hc:∀i x y m1,l[i]?=some x->l[i+1]?=some y->m.n<=m1.n->∃k:Int,k<0/\C X g1 (f1.toList++([.agg (val x).toArray,.agg (val y).toArray]++c1.toList)) m1 m1.n (YR k) m1)
  (h0:J 0 m m.n) (hR:∀m2 fO,J l.length m2 fO->R [Ku] m2 fO):PH T t z (aL TE X) v (.func g1 f1 c1) (.func g2 f2 c2) m R:=by
 dsimp only[PH,aL];rw[(hl 0 m m.n h0).len hT,az];refine Lp.intro (γ:=Nat) (λi=>l.length-i) (λi vs m1 lo=>∃w,vs=[w,YR i]/\i<=l.length/\J i m1 lo) 0 ⟨_,rfl,ZE _,h0⟩ ?_;rintro i vs m1 H ⟨w,rfl,hi,hJ⟩;rw[aB,aB,aM,ae,aj];refine an (λc=>?_) (λc=>?_)
 ·have v0:i<l.length:=by grind
  obtain⟨x,hx⟩:∃x,l[i]?=some x:=⟨_,Fx v0⟩
  have g0:∀cs:Bt,aW.val α cs=.agg cs.toArray:=λcs=>by unfold aW.val;rw[q0];rfl
  have⟨a,cs,e1,e2,e3⟩:=(hl i m1 H hJ).index hT (k:=.i64) hx;have j0:=e0 _ _ _ e3;subst j0;have b0:(val x).length=aW.sz α:=aW.len e3;have y0:(val x).all one:=aW.dS e3;rw[g0]at e2;rw[e1,ae,e2,ae];refine aw λm13 E0 n0 F0=>?_;unfold ptrTo;refine aC r0 n0 (by show(val x).length=_;rw[b0,s0]) (by show(val x).length=_;rw[b0,hz]) y0 λm14 G0 a0 H0=>?_;have a0:m14.get m1.n=.cells (val x) t none:=a0;have z0:Ext m1 m14:=⟨by omega,by grind⟩
  have A0:=hn i m1 H hJ;refine aZ (λvs mm lo=>vs=[Zf]/\J (i+1) mm lo) (λQ hQ=>?_) ?_
  ·rw[k0 _ _ _ a0 b0,ae,cg];obtain⟨b,o0,B0,d0,I0,J0⟩:=hr i x m14 (min H m1.n) hx (l0 _ _ _ _ (u0 _ _ _ _ hJ z0) A0);refine aG B0 ?_;rw[bk,ae,aj];show gH false _ _;rw[aN,bP,ae,aj];refine an (λc=>?_) (λc=>hQ _ _ _ ⟨rfl,d0⟩);have K0:0<i:=by grind
   rw[dt,ae,wrap64,show(i:Int)-1=((i-1:Nat):Int) by omega];obtain⟨y,hy⟩:∃y,l[i-1]?=some y:=⟨_,qp⟩
   obtain⟨a',L0,e4,e5,e6⟩:=(hl _ _ _ d0).index hT (k:=.i64) hy;have j0:=e0 _ _ _ e6;subst j0;rw[g0]at e5;have p0:o0.get m1.n=.cells (val x) t none:=by grind
   rw[e4,ae,e5,ae,k0 _ _ _ p0 b0,ae,cg];have i0:=hn _ _ _ d0;obtain⟨k,hk,C0⟩:=hc (i-1) y x o0 hy (by grind) i0;refine aG C0 ?_;rw[cI,ae,tx];exact hQ _ _ _ ⟨rfl,l0 _ _ _ _ d0 i0⟩
  rintro _ mm lo ⟨rfl,D0⟩;rw[aB,aj,aN,aP,ae,wrap64];exact⟨i+1,by omega,w,rfl,by omega,D0⟩
 obtain rfl:i=l.length:=by have:¬(i:Int)< (l.length:Int):=Ja c;omega
 exact hR _ _ hJ
theorem Ll(hX:cd X){l:List UW}{r vm:Φ}(hF:cP m l r)(hlen:l.length<1000000){id:Int}(b0:∀x∈l,x.u.id≠id):
  C X (.func 94) [.agg #[r,vm],YR id] m m.n (.tuple #[.agg Un.zc.toArray,Zf]) m:=by
 refine Cl.fG hX (Kg func94) ?_;rw[F94];dsimp only[δ,ε,ζ,η,θ,ι,ρ,ς,υ,χ,ψ,ω];refine aw λm1 q0 d0 r0=>?_;refine aw λm2 s0 e0 g0=>?_;refine aw λm3 u0 i0 H=>?_;have j0:Ext m m3:=⟨by omega,by grind⟩
 have g1:m3.get m.n=.cells [r,vm] 33 none:=by rw[H _ (by omega),g0 _ (by omega)];exact d0
 have g2:m3.get m1.n=.cells [YR id] 3 none:=by rw[H _ (by omega)];exact e0
 have g3:m3.get m2.n=.cells Un.zc 60 none:=i0;have k0:=hF.aE j0;unfold ptrTo;rw[bV,ae,bJ,ae,Bq g1,ae];refine aG (eZ dc (hX.no _ rfl) (Kg func145) rfl AD (l:=l) (λx=>decide (x.u.id=id)) (by omega) k0.sl λx hx cs hr=>?_) ?_
 ·obtain⟨rfl,hw⟩:cs=x.c/\one x.w:=hr;refine Cl.th (args:=[x.v,Ga m1.n 0]) (hX.no _ rfl) (Kg func154) rfl rfl ?_;rw[aav];dsimp only[δ,ε,η,ρ,υ];refine aw λm4 v0 l0 n0=>?_;have g4:m4.get m3.n=.cells (x.u.c x.w) 60 none:=l0;have l4:ah TE m4 3 (Ga m1.n 0)=some (YR id):=by rw[bF,aI (show m4.get m1.n=_ from(n0 _ (by omega)).trans g2)];rfl
  unfold ptrTo;rw[bz,ae,(kz g4).1,ae,l4,ae,aS,ae];exact⟨rfl,Ox _⟩
 rw[sW λx hx=>Dh (b0 x hx),aM,ae,aj];rw[IH (by decide),bH,show aJ TE 60 []=some (.agg Un.zc.toArray)from ng,ae];refine aC dm g3 rfl rfl rfl λm12 o0 a0 p0=>?_;have g12:m12.get m2.n=.cells (Un.c ⟨0,0,0,[],0,0⟩ YM) 60 none:=a0;rw[bU g12,ae];exact⟨rfl,by omega⟩
def rM:Nat->List Int->List MapEntry
 |_,[]=> []
 |k,z::l=>{key:=.int .i64 z,val:=.bool true,born:=k}::rM (k+1) l
theorem AO:∀(l:List Int) (k:Nat) (z:Int),rM k (l++ [z])=rM k l++ [{key:=YR z,val:=Ku,born:=k+l.length}]
 |[],_,_=>rfl
 |a::l,k,z=>by
  show _::rM (k+1) (l++ [z])=_::(rM (k+1) l++_);rw[AO l (k+1) z,zG,show k+1+l.length=k+(l.length+1) by omega]
theorem Ep:∀(l:List Int) (k:Nat),(rM k l).length=l.length
 |[],_=>rfl
 |a::l,k=>by show(rM (k+1) l).length+1=_;rw[Ep l];rfl
theorem Y0{a b:Int}:eq? TE 3 (.int .i64 a) (.int .i64 b)=some (decide (a=b)):=by kernel_rfl
theorem WK{z:Int}:keyed TE 3 (.int .i64 z)=true:=by kernel_rfl
theorem AJ{z:Int}:∀(l:List Int) (k i:Nat),z∉l->findKey TE 3 (YR z) (rM k l) i=some none
 |[],_,_,_=>rfl
 |a::l,k,i,h=>by
  rw[RN,not_or]at h;show(match eq? TE 3 (YR z) (YR a)with|some true=>_|some false=>findKey TE 3 (YR z) (rM (k+1) l) (i+1)|none=>none)=_;rw[Y0,Dh h.1];exact AJ l (k+1) (i+1) h.2
theorem Bi:TE.ty.get 173=some ag.t173:=by kernel_rfl
theorem Ny{b:Nat}{z:Int}{l:List Int}{P:M->Nat->Prop}(h:m.get b=.map (rM 0 l) l.length)(H:z∉l)
  (hP:∀m1,m1.n=m.n->m1.get b=.map (rM 0 (l++ [z])) (l++ [z]).length->(∀c,c≠b->m1.get c=m.get c)->P m1 b):
  aO (iE TE m 173 (.map (some b)) (YR z) Ku) P:=by
 have hb:b<m.n:=by refine Nat.lt_of_not_le λhle=>?_;rw[M.iV hle]at h;cases h
 have e:iE TE m 173 (.map (some b)) (YR z) Ku=some (m.set b (.map (rM 0 (l++ [z])) (l++ [z]).length),b):=by simp only[iE,dN,Bi,ag.t173,h,WK,cond_true,AJ l 0 0 H];rw[AO,NN,Wl];rfl
 rw[e,az];exact hP _ rfl (M.dw hb) λc hc=>M.dg hc
theorem acI{b:Nat}{l:List Int}(h:m.get b=.map (rM 0 l) l.length):av TE m .len [173] [.map (some b)]=some (YR l.length,m):=by
 have:av TE m .len [173] [.map (some b)]=(wi TE m 173 (.map (some b))).map (·,m):=rfl
 rw[this];have:wi TE m 173 (.map (some b))=some (YR (rM 0 l).length):=by simp[wi,Bi,ag.t173,h]
 rw[this,Ep];rfl
structure lO(mp sb cb:Nat)(l:List Int)(m:M):Prop where
 em:m.get mp=.map (rM 0 l) l.length
 es:m.get sb=.cells [.map (some mp)] 173 none
 ec:m.get cb=.cells [.int .i64 (l.length:Int)] 3 none
theorem lO.aE{mp sb cb:Nat}{l:List Int}{m':M}(h:lO mp sb cb l m)(h1:mp<m.n)(H:Ext m m'):lO mp sb cb l m':=
 ⟨by rw[H.get _ h1];exact h.em,H.cells h.es,H.cells h.ec⟩
theorem HK{b mp:Nat}{g:Option Nat}(h:m.get b=.cells [.map (some mp)] 173 g):ah TE m 173 (Ga b 0)=some (.map (some mp)):=by rw[abL,aI h];rfl
theorem BX{b:Nat}{z:Int}{g:Option Nat}(h:m.get b=.cells [YR z] 3 g):ah TE m 3 (Ga b 0)=some (YR z):=by rw[bF,aI h];rfl
theorem Hs(hX:cd X){mp sb H:Nat}{ids:List Int}{l:List Mk}{v:Φ}(hN:lO mp sb H ids m)(hl:Sl m l v)(hd:mp<m.n/\mp≠sb/\mp≠H/\sb≠H)(C0:(ids++l.map Mk.id).Nodup)(hlen:ids.length+l.length<1000000):
  ∃rv b m',C X (.func 92) [v,Ga sb 0,Ga H 0] m b rv m'/\lO mp sb H (ids++l.map Mk.id) m'/\min (min mp H) m.n<=b/\(b<=H\/l=[])/\m.n<=m'.n/\∀c,c<m.n->c≠mp->c≠H->m'.get c=m.get c:=by
 have D0:=M.aU hN.ec;have E0:=M.aU hN.es;have key:=Cl.FU (E:=TE) (X:=X) (f:=92) (args:=[v,Ga sb 0,Ga H 0]) (m:=m) (R:=λrv m' b=>lO mp sb H (ids++l.map Mk.id) m'/\min (min mp H) m.n<=b/\(b<=H\/l=[])/\m.n<=m'.n/\∀c,c<m.n->c≠mp->c≠H->m'.get c=m.get c) (hX.no _ rfl) (Kg func92) rfl ?_;·have⟨rv,m',b,hc,h⟩:=key;exact⟨rv,b,m',hc,h⟩
 rw[F92];dsimp only[δ,ε,ζ,η,ι,κ,ς,υ,χ,Γ];rw[hl.len dv,az];refine Lp.intro (γ:=Nat) (λi=>l.length-i) (λi vs mm lo=>vs=[YR i]/\i<=l.length/\lO mp sb H (ids++(l.take i).map Mk.id) mm/\min (min mp H) m.n<=lo/\m.n<=mm.n/\(∀c,c<m.n->c≠mp->c≠H->mm.get c=m.get c)/\(i=0->mm=m/\lo=m.n)/\(0<i->lo<=H)) 0 ⟨rfl,ZE _,by grind,by omega,Ox _,λ_ _ _ _=>rfl,λ_=>⟨rfl,rfl⟩,λh=>absurd h (by decide)⟩ ?_;rintro i vs mm lo ⟨rfl,hi,hS,F0,r0,g0,h0,h1⟩;have s0:Sl mm l v:=hl.aV λc cs t g hc ht=>by
  have ht:t=137:=by simpa[aW.ty,aW.cT]using ht
  subst ht;rw[g0 c (M.aU hc) (λe=>by subst e;rw[hN.em]at hc;cases hc) (λe=>by subst e;rw[hN.ec]at hc;cases hc),hc]
 rw[aB,aM,ae,aj];refine an (λc=>?_) (λc=>?_)
 ·have i0:i<l.length:=by grind
  obtain⟨x,hx⟩:∃x,l[i]?=some x:=⟨_,Fx i0⟩
  have⟨p,e1,e2⟩:=s0.qZ (k:=.i64) hx;rw[e1,ae,e2,ae];refine aw λm11 u0 j0 v0=>?_;refine aC tT j0 rfl rfl rfl λm12 y0 k0 z0=>?_;have g12:m12.get mm.n=.cells x.c 137 none:=k0;have l0:Ext mm m12:=⟨by omega,by grind⟩
  have a0:=hS.aE (by omega) l0;have n12:=l0.n;have n0:(l.take (i+1)).map Mk.id=(l.take i).map Mk.id++ [x.id]:=by rw[Q1,hx];simp
  have o0:x.id∉ids++(l.take i).map Mk.id:=by
   have G0:ids++l.map Mk.id=(ids++(l.take i).map Mk.id)++x.id::(l.drop (i+1)).map Mk.id:=by
    conv=>lhs;rw[<-Gw i l,JK i0]
    grind
   grind
  unfold ptrTo;rw[HK a0.es,ae,bX,ae,(CL g12).1,ae];refine Ny a0.em o0 λm17 A0 p0 b0=>?_;have d0:m17.get H=.cells [YR ((ids++(l.take i).map Mk.id).length:Int)] 3 none:=by rw[b0 _ (λe=>hd.2.2.1 e.symm)];exact a0.ec
  have H0:(ids++(l.take i).map Mk.id).length<=ids.length+l.length:=by grind
  rw[BX d0,ae,aP,ae,wrap64];refine bS rf d0 rfl (by show 0+1<=1;decide) rfl λm21 B0 q0 e0=>?_;rw[aP,ae,wrap64];refine⟨i+1,by omega,rfl,by omega,⟨?_,?_,?_⟩,by omega,by omega,by grind,λh=>absurd h (by omega),λ_=>by omega⟩;·rw[e0 mp hd.2.2.1,p0,n0,WO]
  ·rw[e0 sb hd.2.2.2,b0 sb (λe=>hd.2.1 e.symm)];exact a0.es
  have e:((ids++((l.take i).map Mk.id++ [x.id])).length:Int)=((ids++(l.take i).map Mk.id).length:Int)+1:=by grind
  rw[q0,n0,e];rfl
 obtain rfl:i=l.length:=by
  grind
 rw[V9]at hS;by_cases hz:l.length=0;·obtain⟨rfl,rfl⟩:=h0 hz;exact .inl ⟨rfl,Ox _,hS,by omega,.inr (Pj.1 hz),Ox _,λ_ _ _ _=>rfl⟩
 have:=h1 (by omega);exact .inr ⟨.inr (by omega),hS,by omega,.inl (by omega),r0,g0⟩
theorem acd(H:cd X){f:Fc}(h:(0<=f.un/\f.un<=99)/\ -2<=f.side/\f.side<=7):C X (.func 95) [f.v] m m.n Ku m:=by
 refine Cl.fG H (Kg func95) ?_;rw[F95];dsimp only[δ,ε,ρ,υ,χ,ψ,ω];refine aw λm1 d0 b0 e0=>?_;have g1:m1.get m.n=.cells f.c 53 none:=b0;obtain⟨a0,a1, -⟩:=qq g1;unfold ptrTo;refine aZ (λvs mm lo=>vs=[Ku]/\m.n<=lo) (λQ hQ=>?_) ?_;·rw[cW,ae,a0,ae];refine aG (iq H) ?_;rw[show cR f.un 0 99=true by unfold cR;rw[IH h.1.1,IH h.1.2];rfl,aj,bH,dj,ae,a1,ae];refine aG (iq H) ?_;rw[show cR f.side (-2) 7=true by unfold cR;rw[IH h.2.1,IH h.2.2];rfl];exact hQ _ _ _ ⟨rfl,by omega⟩
 rintro _ mm l ⟨rfl,hl⟩;rw[aB];exact⟨rfl,hl⟩
theorem EP(hX:cd X){x:Mo}(h:0<=x.a/\x.a<x.b/\x.b<=99/\0<=x.du/\x.du<=7):C X (.func 97) [x.v] m m.n Ku m:=by
 refine Cl.fG hX (Kg func97) ?_;rw[F97];dsimp only[δ,ε,η,ρ,υ,χ,ψ];refine aw λm1 b0 H d0=>?_;have g1:m1.get m.n=.cells x.c 109 none:=H;obtain⟨a0,a1,a2, -⟩:=NI g1;unfold ptrTo;simp only[dO,eF,oG,ae];refine aZ (λvs mm lo=>vs=[Ku]/\m.n<=lo) (λQ hQ=>?_) ?_;·simp only[a0,a1,a2,ae,cI,aM,cz,aj];rw[IH h.1,bH,IH h.2.1,bH,IH h.2.2.1,bH];refine aG (iq hX) ?_;rw[show cR x.du 0 7=true by unfold cR;rw[IH h.2.2.2.1,IH h.2.2.2.2];rfl];exact hQ _ _ _ ⟨rfl,by omega⟩
 rintro _ mm l ⟨rfl,hl⟩;rw[aB];exact⟨rfl,hl⟩
theorem SI{b:Nat}{v:Φ}{g:Option Nat}(h:m.get b=.cells [v] 174 g):ah TE m 174 (Ga b 0)=some v:=by rw[NM,aI h];rfl
abbrev Ht(H cb:Nat):Φ:=.func (.func 92) #[] #[.pointer (some ⟨H,0,none⟩),.pointer (some ⟨cb,0,none⟩)]
theorem Qa{x:UW}:aF TE m 28 1 [(0,x.u.v x.w)]=some (.slice (some ⟨m.n,0,none⟩) 1 1,m.push (.cells x.c 60 none)):=by kernel_rfl
set_option maxHeartbeats 1000000 in
theorem Lj(hX:cd X){mp sb cb nb yb:Nat}{ids:List Int}{y:Yd}{r r2 st rc mo:Φ}{x:KW}(hN:lO mp sb cb ids m)(hd:mp < m.n/\mp≠sb/\mp≠cb/\sb≠cb)(gn:m.get nb=.cells [Ht sb cb] 174 none)
  (gy:m.get yb=.cells (yc r r2 st rc mo) 38 none) {l:List UW} (hF:cP m l r) (hlen:l.length < 1000000) (r0:∀u∈l,u.u.id≠x.u.id) (s0:Sl m x.u.shape x.w) (u0:x.u.shape.length < 1000000) (k0:Sl m x.ms x.mv)
  (v0:cq [x.u]) (y0:il [x.u] x.ms) (z0:(ids++x.ms.map Mk.id).Nodup) (A0:ids.length+x.ms.length < 1000000):
  ∃b m',C X (.func 93) [x.v,.pointer (some ⟨nb,0,none⟩),.pointer (some ⟨yb,0,none⟩)] m b Ku m'/\lO mp sb cb (ids++x.ms.map Mk.id) m'/\min (min mp cb) m.n<=b/\(b<=cb\/x.ms=[])/\m.n<=m'.n/\∀c,c < m.n->c≠mp->c≠cb->m'.get c=m.get c:=by
 have d1:=M.aU hN.ec;have e1:=M.aU hN.es;have g1:=M.aU gn;have i1:=M.aU gy;have key:=Cl.FU (E:=TE) (X:=X) (f:=93) (args:=[x.v,.pointer (some ⟨nb,0,none⟩),.pointer (some ⟨yb,0,none⟩)]) (m:=m) (R:=λrv m' b=>rv=Ku/\lO mp sb cb (ids++x.ms.map Mk.id) m'/\min (min mp cb) m.n<=b/\(b<=cb\/x.ms=[])/\m.n<=m'.n/\∀c,c < m.n->c≠mp->c≠cb->m'.get c=m.get c) (hX.no _ rfl) (Kg func93) rfl ?_
 ·obtain⟨rv,m',b,H,rfl,h⟩:=key;exact⟨b,m',H,h⟩
 rw[F93];dsimp only[δ,ε,θ,ι,ν,ξ,ο,ρ,ς,υ,χ,ψ,Γ,Δ];refine aw λm1 j1 B0 C0=>?_;have gk:m1.get m.n=.cells x.c 113 none:=B0;have x1:Ext m m1:=⟨by omega,C0⟩
 have k1:m.n < m1.n:=by omega
 unfold ptrTo;simp only[bW,cO,cF,bz,ae];rw[SI (x1.cells gn),ae,(EJ gk).2.2.1,ae,cg];obtain⟨rv,l0,m9,c9,D0,K0,i0,n9,SO⟩:=Hs (m:=m1) hX (hN.aE hd.1 x1) (k0.aE x1) ⟨by omega,hd.2⟩ z0 A0;refine aG c9 ?_
 have kp:∀{α:Type} [aW α] {l:List α} {v:Φ},aW.cT α=[]->aW.ty α≠3->Sl m l v->Sl m9 l v:=λ{α _ l v} E0 F0 h=>h.aV λc cs t g H ht=>by rw[E0,Qk]at ht;subst ht;rw[SO c (by have:=M.aU H;omega) (λe=>by subst e;rw[hN.em]at H;cases H) (λe=>by subst e;rw[hN.ec]at H;simp only[Ob.cells.injEq]at H;exact F0 H.2.1.symm),x1.cells H]
 have j0:m9.get m.n=.cells x.c 113 none:=by grind
 have G0:m9.get yb=.cells (yc r r2 st rc mo) 38 none:=by rw[SO _ (by omega) (λe=>by subst e;rw[hN.em]at gy;cases gy) (λe=>by subst e;rw[hN.ec]at gy;cases gy)];exact x1.cells gy
 have H0:cP m9 l r:=hF.aV λc cs t g H ht=>by rw[SO c (by have:=M.aU H;omega) (λe=>by subst e;rw[hN.em]at H;cases H) (λe=>by subst e;rw[hN.ec]at H;cases H;exact absurd ht (by decide)),x1.cells H]
 have g0:=kp rfl (by decide) s0;have b0:=kp rfl (by decide) k0;rw[(dW G0).1,ae,(EJ j0).1,ae];refine aG (Ll hX H0 hlen r0) ?_;rw[aH,aH];simp only[zi,F9,ae];refine aw λm21 L0 n0 N0=>?_;refine aC dm n0 rfl rfl rfl λm22 O0 P0 a1=>?_;have a0:Ext m9 m22:=⟨by omega,by grind⟩
 have n22:=a0.n;have o0:mp < m9.n:=by omega
 refine aZ (λvs m' lo=>vs=[Ku]/\Ext m22 m'/\lo=min (min m.n l0) lo/\min m.n l0<=lo) (λQ hQ=>?_) ?_
 ·rw[bk,ae,aj];show gH true _ _;rw[bH,(EJ (a0.cells j0)).2.1,ae,Qa (x:=⟨x.u,x.w⟩),az];obtain⟨m32,d0⟩:∃q,q=m22.push (.cells (UW.c ⟨x.u,x.w⟩) 60 none):=⟨_,rfl⟩
  rw[<-d0];have I0:m32.get m22.n=.cells (UW.c ⟨x.u,x.w⟩) 60 none:=by rw[d0];exact M.aX
  have e0:Ext m22 m32:=d0 ▸ Ext.refl.push;have p0:=HT I0 g0.one (g0.aE (a0.trans e0)) u0;have n32:=e0.n;rw[show aJ TE 30 [(0,.slice (some ⟨m22.n,0,none⟩) 1 1)]=some (.agg #[.slice (some ⟨m22.n,0,none⟩) 1 1])from zl rfl,ae,(EJ (e0.cells (a0.cells j0))).2.2.1,ae];rw[show aJ TE 33 [(0,.agg #[.slice (some ⟨m22.n,0,none⟩) 1 1]),(1,x.mv)]=some (.agg #[.slice (some ⟨m22.n,0,none⟩) 1 1,x.mv]) by rw[nR rfl (by rw[b0.cells];rfl),b0.cells];rfl,ae];refine aG (uY hX p0 v0 (b0.aE (a0.trans e0)) y0) ?_;exact hQ _ _ _ ⟨rfl,e0,by omega,by omega⟩
 rintro _ m' lo ⟨rfl,x',b1,c1⟩;rw[aB];have J0:=D0.aE o0 (a0.trans x');have n':=x'.n;by_cases H:lo < m.n;·refine .inr ⟨.inr H,rfl,J0,by omega,i0.imp (λh=>by omega) id,by omega,λc h1 h2 h3=>by rw[x'.get c (by omega),a0.get c (by omega),SO c (by omega) h2 h3,x1.get c h1]⟩
 have q0:x.ms=[]:=by
  grind
 refine .inl ⟨rfl,by omega,by first |rfl |trivial,?_,by omega,.inr q0,Ox _,by grind⟩;rw[q0,Rj,Zu];exact hN
theorem LC:TE.ty.get 113=some ag.t113:=by kernel_rfl
theorem Lu(hX:cd X){l:List Fc}{v:Φ}(hl:Sl m l v)(hlen:l.length<1000000)(a0:∀f∈l,(0<=f.un/\f.un<=99)/\ -2<=f.side/\f.side<=7)(H:l.Pairwise gZ):
  C X (.func 100) [v,.func (.func 101) #[] #[],.func (.func 95) #[] #[]] m m.n Ku m:=by
 refine Cl.fG hX (Kg func100) ?_;rw[Wq]
 refine GH dA rfl qI rfl (λmm b cs h hc=>?_) rfl Fc.c (λm x cs h=>h) hlen (λi m1 lo=>Ext m m1/\m.n<=lo) (λi m1 m2 lo h hx=>⟨h.1.trans hx,h.2⟩) (λi m1 lo b h hb=>⟨h.1,by omega⟩) (λi m1 lo h=>h.1.n) (λi m1 lo h=>hl.aE h.1)
  (λi x m1 lo hx h=>⟨m1.n,m1,acd hX (a0 x (LZ hx)),⟨h.1,by have:=h.1.n;omega⟩,Ox _,λ_ _ _=>rfl⟩) (λi x y m1 hx hy _=>?_) ⟨.refl,Ox _⟩ (λm2 lo h=>⟨rfl,h.2⟩)
 ·rw[sU,aQ (n:=2) h (by rw[hc];decide),QA,QM (by rw[hc];decide)];rfl
 refine⟨_,?_,ael hX x y⟩;have h1:=OJ.1 hx;have h2:=OJ.1 hy;have:=Px.1 H i (i+1) h1.1 h2.1 (by omega);rw[h1.2,h2.2]at this;exact BU this
theorem Lr(hX:cd X){l:List Mo}{v:Φ}(hl:Sl m l v)(hlen:l.length<1000000)(a0:∀x∈l,0<=x.a/\x.a<x.b/\x.b<=99/\0<=x.du/\x.du<=7)(H:l.Pairwise lP):
  C X (.func 102) [v,.func (.func 103) #[] #[],.func (.func 97) #[] #[]] m m.n Ku m:=by
 refine Cl.fG hX (Kg func102) ?_;rw[aa4]
 refine GH jH rfl Bk rfl (λmm b cs h hc=>?_) rfl Mo.c (λm x cs h=>h) hlen (λi m1 lo=>Ext m m1/\m.n<=lo) (λi m1 m2 lo h hx=>⟨h.1.trans hx,h.2⟩) (λi m1 lo b h hb=>⟨h.1,by omega⟩) (λi m1 lo h=>h.1.n) (λi m1 lo h=>hl.aE h.1)
  (λi x m1 lo hx h=>⟨m1.n,m1,EP hX (a0 x (LZ hx)),⟨h.1,by have:=h.1.n;omega⟩,Ox _,λ_ _ _=>rfl⟩) (λi x y m1 hx hy _=>?_) ⟨.refl,Ox _⟩ (λm2 lo h=>⟨rfl,h.2⟩)
 ·rw[DT,aQ (n:=3) h (by rw[hc];decide),QA,QM (by rw[hc];decide)];rfl
 refine⟨_,?_,CU hX x y⟩;have h1:=OJ.1 hx;have h2:=OJ.1 hy;have:=Px.1 H i (i+1) h1.1 h2.1 (by omega);rw[h1.2,h2.2]at this;exact BU this
abbrev jM(l:List KW):List Int:=(l.flatMap KW.ms).map Mk.id
theorem AE{H:List KW}{i:Nat}{x:KW}(h:H[i]?=some x):jM (H.take (i+1))=jM (H.take i)++x.ms.map Mk.id:=by unfold jM;rw[Q1,h,rJ,Cu];simp
set_option maxHeartbeats 1000000 in
theorem Lt(hX:cd X){mp sb cb nb yb:Nat}{ids:List Int}{y:Yd}{r r2 st rc mo:Φ}{H:List KW}(hN:lO mp sb cb ids m)(hd:mp < m.n/\mp≠sb/\mp≠cb/\sb≠cb)(gn:m.get nb=.cells [Ht sb cb] 174 none)
  (gy:m.get yb=.cells (yc r r2 st rc mo) 38 none) {l:List UW} (hF:cP m l r) (hlen:l.length < 1000000) (hK:EG m H st) (k0:H.length < 1000000) (l0:∀x∈H,∀u∈l,u.u.id≠x.u.id)
  (n0:∀x∈H,cq [x.u]) (o0:∀x∈H,il [x.u] x.ms) (g0:(ids++jM H).Nodup) (p0:(ids++jM H).length < 1000000) (i0:H.Pairwise λa b=>a.u.id < b.u.id):
  ∃b m',C X (.func 98) [st,.func (.func 99) #[] #[],.func (.func 93) #[] #[.pointer (some ⟨nb,0,none⟩),.pointer (some ⟨yb,0,none⟩)]] m b Ku m'/\lO mp sb cb (ids++jM H) m'/\min (min mp cb) m.n<=b/\m.n<=m'.n/\∀c,c < m.n->c≠mp->c≠cb->m'.get c=m.get c:=by
 have r0:=M.aU hN.ec;have key:=Cl.FU (E:=TE) (X:=X) (f:=98) (args:=[st,.func (.func 99) #[] #[],.func (.func 93) #[] #[.pointer (some ⟨nb,0,none⟩),.pointer (some ⟨yb,0,none⟩)]]) (m:=m) (R:=λrv m' b=>rv=Ku/\lO mp sb cb (ids++jM H) m'/\min (min mp cb) m.n<=b/\m.n<=m'.n/\∀c,c < m.n->c≠mp->c≠cb->m'.get c=m.get c) (hX.no _ rfl) (Kg func98) rfl ?_
 ·grind
 rw[adn]
 have b0:∀{m1:M},(∀c,c < m.n->c≠mp->c≠cb->m1.get c=m.get c)->∀c cs t g,m.get c=.cells cs t g->t≠3->m1.get c=.cells cs t g:=λd0 c cs t g hc ht=>by rw[d0 c (M.aU hc) (λe=>by subst e;rw[hN.em]at hc;cases hc) (λe=>by subst e;rw[hN.ec]at hc;cases hc;exact ht rfl),hc]
 have kK:∀{m1:M},(∀c,c < m.n->c≠mp->c≠cb->m1.get c=m.get c)->EG m1 H st:=λd0=>hK.aV λc cs t g hc ht=>b0 d0 c cs t g hc (by grind)
 refine GH eM rfl LC rfl (λmm b cs h hc=>?_) rfl KW.c (λm x cs h=>h.1) k0
  (λi m1 lo=>lO mp sb cb (ids++jM (H.take i)) m1/\min (min mp cb) m.n<=lo/\m.n<=m1.n/\(∀c,c < m.n->c≠mp->c≠cb->m1.get c=m.get c)/\(lo<=cb\/(H.take i).flatMap KW.ms=[]))
  (λi m1 m2 lo h hx=>⟨h.1.aE (by grind) hx,h.2.1,by have:=hx.n;have:=h.2.2.1;omega,λc h1 h2 h3=>by rw[hx.get c (by grind),h.2.2.2.1 c h1 h2 h3],h.2.2.2.2⟩)
  (λi m1 lo b h hb=>⟨h.1,by grind,h.2.2.1,h.2.2.2.1,h.2.2.2.2.imp (λh=>by omega) id⟩) (λi m1 lo h=>h.2.2.1) (λi m1 lo h=>(kK h.2.2.2.1).sl)
  (λi x m1 lo hx h=>?_) (λi x y m1 hx hy _=>?_) ⟨by grind,by omega,Ox _,λ_ _ _ _=>rfl,.inr rfl⟩ (λm2 lo h=>?_)
 ·rw[DS,aQ (n:=7) h (by rw[hc];decide),QA,QM (by rw[hc];decide)];rfl
 ·have⟨h1,h2,h3,h4,h5⟩:=h;have a0:=LZ hx;have e0:=kK h4
  have q0:ids++jM H=(ids++jM (H.take i)++x.ms.map Mk.id)++jM (H.drop (i+1)):=by
   conv=>lhs;rw[<-Gw (i+1) H]
   have e:jM (H.take (i+1)++H.drop (i+1))=jM (H.take (i+1))++jM (H.drop (i+1)):=by unfold jM;rw[rJ,Cu]
   rw[e,AE hx];simp only[WO]
  rw[q0]at g0 p0
  have j0:(ids++jM (H.take i)).length+x.ms.length < 1000000:=by
   have e1:(ids++jM (H.take i)++x.ms.map Mk.id++jM (H.drop (i+1))).length=((ids++jM (H.take i)).length+x.ms.length)+(jM (H.drop (i+1))).length:=by rw[NN,NN,Gv]
   omega
  obtain⟨b,m2,c1,c2,c3,c4,c5,c6⟩:=Lj (m:=m1) (x:=x) (y:=y) hX h1 ⟨by omega,hd.2⟩ (b0 h4 _ _ _ _ gn (by decide)) (b0 h4 _ _ _ _ gy (by decide)) (hF.aV λc cs t g hc ht=>b0 h4 c cs t g hc (by rcases ht with rfl |rfl <;>decide)) hlen (l0 x a0) (e0.sh x a0) (e0.ln x a0) (e0.mv x a0) (n0 x a0) (o0 x a0) (JQ.1 g0).1 j0;refine⟨b,m2,c1,⟨?_,by omega,by omega,λc k1 k2 k3=>by rw[c6 c (by omega) k2 k3,h4 c k1 k2 k3],?_⟩,c5,λc k1 k2=>c6 c k2 (by omega) (by omega)⟩;·rw[AE hx,<-WO];exact c2
  rcases c4 with c4 |c4;·exact .inl (by omega)
  rcases h5 with h5 |h5;·exact .inl (by omega)
  refine .inr ?_;rw[Q1,hx,rJ,h5];simp[c4]
 ·refine⟨-1,by decide,Lq hX ?_⟩;have h1:=OJ.1 hx;have h2:=OJ.1 hy;have:=Px.1 i0 i (i+1) h1.1 h2.1 (by omega);rw[h1.2,h2.2]at this;exact this
 rw[V9]at h;have⟨h1,h2,h3,h4,h5⟩:=h;by_cases hc:lo < m.n;·exact .inr ⟨.inr hc,rfl,h1,by omega,h3,h4⟩
 have h5:=h5.resolve_left (by omega);refine .inl ⟨rfl,by omega,rfl,?_,by omega,Ox _,λ_ _ _ _=>rfl⟩;rw[show jM H=[] by unfold jM;rw[h5];rfl,Zu];exact hN
theorem BY{y:Yd}(hP:qG y){H:List KW}(a0:EK H=y.st){x:KW}(hx:x∈H):x.k∈y.st:=by
 grind
theorem R1{y:Yd}{kl:List KW}(H:EK kl=y.st):(allM y.ms y.st).map Mk.id=y.ms.map Mk.id++jM kl:=by
 unfold allM jM;rw[Cu,<-H];congr 2;unfold EK;rw[List.flatMap_map]
set_option maxHeartbeats 1000000 in
theorem zV(hX:cd X){y:Yd}{r r2 st rc mo:Φ}(hV:lR m y r r2 st rc mo)(hP:qG y):C X (.func 40) [yv r r2 st rc mo] m m.n Ku m:=by
 refine Cl.fG hX (Kg func40) ?_;have⟨⟨l,n0,hF⟩,I0,⟨kl,e0,hK⟩,J0,K0⟩:=hV;have d1:cq (bM l):=by rw[n0];exact hP.qE
 have e1:il (bM l) y.ms:=by rw[n0];exact hP.BN
 have p1:l.length<=12:=by have:=hP.qE.len;rwa[<-n0,cx]at this
 have r1:kl.length<=12:=by have:=hP.Qq;rwa[<-e0,qn]at this
 have u1:=hP.Ss;have v1:=hP.SF;have p0:=R1 (y:=y) e0;have g0:=hP.Y8;have w1:(y.ms.map Mk.id++jM kl).length<=20:=by rw[<-p0,Gv];exact hP.Jf
 rw[p0]at g0;rw[F40];dsimp only[δ,ε,η,ι,κ,ο,ρ,ς,υ,χ,ψ,Θ,Λ,Ξ];refine aw λm1 K1 h1 i1=>?_;have g1:m1.get m.n=.cells (yc r r2 st rc mo) 38 none:=h1;have x1:Ext m m1:=⟨by omega,i1⟩
 unfold ptrTo;simp only[cF,dG,dF,eV,cB,ae];refine aZ (λvs mm lo=>vs=[Zf]/\m1=mm/\m.n<=lo) (λQ hQ=>?_) ?_
 ·rw[(dW g1).1,ae];refine aG (uY hX (hF.aE x1) d1 (I0.aE x1) e1) ?_;rw[bk,ae,aj];show gH false _ _;rw[aN,(dW g1).2.1,ae,(hK.aE x1).sl.len eM,az,bP,ae,aj,tx,aN,(dW g1).2.2.1,ae,(J0.aE x1).len dA,az,bP,ae,aj,tx,aN,(dW g1).2.2.2.1,ae,(K0.aE x1).len jH,az,bP,ae,tx];exact hQ _ _ _ ⟨rfl,rfl,by omega⟩
 rintro _ _ lo ⟨rfl,rfl,L1⟩;rw[aB,aj,aN];refine aw λi0 y1 q0 L0=>?_;refine aw λN1 z1 r0 s0=>?_;refine bS Bi r0 rfl (by show 0+1<=1;decide) rfl λa0 A1 u0 v0=>?_;refine aw λO1 B1 y0 j0=>?_;refine bS rf y0 rfl (by show 0+1<=1;decide) rfl λo0 C1 z0 k0=>?_;refine aw λP1 D1 A0 b0=>?_;refine bS adA A0 rfl (by show 0+1<=1;decide) rfl λH E1 B0 d0=>?_;have gn:H.get o0.n=.cells [Ht i0.n a0.n] 174 none:=B0;have G0:Ext m1 H:=⟨by omega,by grind⟩
 have hN:lO m1.n i0.n a0.n [] H:=by
  refine⟨?_,?_,?_⟩;·rw[d0 _ (by omega),b0 _ (by omega),k0 _ (by omega),j0 _ (by omega),v0 _ (by omega),s0 _ (by omega)];exact q0
  ·rw[d0 _ (by omega),b0 _ (by omega),k0 _ (by omega),j0 _ (by omega)];exact u0
  rw[d0 _ (by omega),b0 _ (by omega)];exact z0
 have T1:m1.n < i0.n/\i0.n < a0.n/\a0.n < o0.n/\o0.n < H.n:=by omega
 clear q0 L0 r0 s0 u0 v0 y0 j0 z0 k0 A0 b0 B0 d0;have C0:=x1.trans G0;rw[SI gn,ae,(xB (G0.cells g1)).2.2,ae,cg];have F1:=(JQ.1 g0).1;have a2:y.ms.length<=20:=hP.BN.len;obtain⟨rv,b2,j1,k1,D0,G1, -,n44,N0⟩:=Hs (m:=H) hX hN (I0.aE C0) ⟨by omega,by omega,by omega,by omega⟩ (by grind) (by grind);refine aG k1 ?_;rw[Zi]at D0
 have O0:∀{ma:M},(∀c,c < H.n->c≠m1.n->c≠a0.n->ma.get c=H.get c)->H.n<=ma.n->Ext m ma/\ma.get m.n=.cells (yc r r2 st rc mo) 38 none/\ma.get o0.n=.cells [Ht i0.n a0.n] 174 none:=λP0 hn=>
  ⟨⟨by omega,λc hc=>by rw[P0 c (by omega) (by omega) (by omega),C0.get c hc]⟩,by rw[P0 _ (by omega) (by omega) (by omega)];exact G0.cells g1,by grind⟩
 have⟨a1,E0,b1⟩:=O0 N0 n44;refine aZ (λvs mm lo=>vs=[Ku]/\m.n<=lo) (λQ hQ=>?_) ?_
 ·rw[(dW E0).2.1,ae]
  obtain⟨c2,l1,o1,l0,H1,d2,I1⟩:=Lt (m:=j1) (y:=y) hX D0 ⟨by omega,by omega,by omega,by omega⟩ b1 E0 (hF.aE a1) (by omega) (hK.aE a1) (by omega)
   (λx hx u hu=>by have:=hP.off x.k (BY hP e0 hx) u.u (by rw[<-n0];exact LY.2 ⟨u,hu,rfl⟩);exact this)
   (λx hx=>hP.NY x.k (BY hP e0 hx)) (λx hx=>hP.FO x.k (BY hP e0 hx)) g0 (by omega)
   (by have:=hP.tP;rw[<-e0]at this;exact(Te (f:=KW.k) (R:=λa b:Kp=>a.un.id < b.un.id)).1 this)
  refine aG o1 ?_;have H0:∀c,c < H.n->c≠m1.n->c≠a0.n->l1.get c=H.get c:=by grind
  obtain⟨c1,F0,J1⟩:=O0 H0 (by omega);rw[aj,bH,(dW F0).2.2.1,ae];refine aG (Lu hX (J0.aE c1) (by omega) hP.M5 hP.Dq) ?_;rw[aj,bH,(dW F0).2.2.2.1,ae];refine aG (Lr hX (K0.aE c1) (by omega) hP.NH hP.DJ) ?_;rw[aj,bH,HK l0.es,ae,acI l0.em,az,BX l0.ec,ae,aS,ae,aj,IH rfl,bH,ae,cz,ae,CM];exact hQ _ _ _ ⟨rfl,by omega⟩
 rintro _ mm l ⟨rfl,hl⟩;rw[aB];exact⟨rfl,hl⟩
end
section
section
variable {X:aK}{x0 x1 x2:Φ}{m:M}{R:Bt->M->Nat->Prop}{W:Words}
theorem F46:dk TE (aL TE X) f46 [x0,x1,x2] m R=jn (λa=>η .leq 3 x1 x0 λb=>aR b (η .leq 3 x0 x2 λb=>a [b] m m.n) (a [Zf] m m.n)) (λa b c=>un a λa _=>R [a] b c):=by kernel_rfl
theorem F34:dk TE (aL TE X) f34 [x0,x1] m R=ρ m x0 53 λa=>ρ a x1 53 λb=>ε 53 (υ m) 0 λc=>δ b 3 c λc=>ε 53 (υ a) 0 λd=>δ b 3 d λd=>ψ X 59 [c,d] b λc d f=>(b.n<=f)/\(ε 53 (υ m) 1 λb=>δ d 3 b λb=>ε 53 (υ a) 1 λa=>δ d 3 a λa=>ψ X 59 [b,a] d λa b d=>ν b 26 2 [(0,c),(1,a)] λa b=>ψ X 80 [a] b λa b c=>R [a] b (Γ m.n f d c)):=by kernel_rfl
theorem F62:dk TE W f62 [x0,x1] m R=W.Lp (λa b c d=>W.un b λb f=>W.un f λf _=>W.aO (av TE c .len [41] [x0]) λg _=>W.ai (aA TE .lss 3 f g) λg=>aR g (W.ai (aA TE .sub 3 f (.int .i64 1)) λg=>W.ai (ak TE 41 x0 g) λg=>W.ai (ah TE c 79 g) λg=>W.ai (ak TE 41 x0 f) λh=>W.ai (ah TE c 79 h) λh=>gL x1 λi j k=>W.bs i (j.toList++([g,h]++k.toList)) c λc g h=>W.ai (aA TE .geq 3 c (.int .i64 0)) λc=>aR c (R [Zf] g (min d h)) (W.ai (aA TE .add 3 f (.int .i64 1)) λc=>a [b,c] g (min d h))) (R [Ku] c d)) [Zf,.int .i64 1] m m.n:=by kernel_rfl
theorem aaQ:dk TE W f119 [x0,x1] m R=W.Lp (λa b c d=>W.un b λb f=>W.un f λf _=>W.aO (av TE c .len [35] [x0]) λg _=>W.ai (aA TE .lss 3 f g) λg=>aR g (W.ai (aA TE .sub 3 f (.int .i64 1)) λg=>W.ai (ak TE 35 x0 g) λg=>W.ai (ah TE c 53 g) λg=>W.ai (ak TE 35 x0 f) λh=>W.ai (ah TE c 53 h) λh=>gL x1 λi j k=>W.bs i (j.toList++([g,h]++k.toList)) c λc g h=>W.ai (aA TE .geq 3 c (.int .i64 0)) λc=>aR c (R [Zf] g (min d h)) (W.ai (aA TE .add 3 f (.int .i64 1)) λc=>a [b,c] g (min d h))) (R [Ku] c d)) [Zf,.int .i64 1] m m.n:=by kernel_rfl
theorem F57:dk TE (aL TE X) f57 [x0] m R=ρ m x0 79 λa=>jn (λb=>ε 79 (υ m) 0 λc=>δ a 3 c λc=>ψ X 46 [c,χ 0,χ 99] a λa c d=>aR a (ε 79 (υ m) 1 λa=>δ c 35 a λa=>κ c .len [35] [a] λa _=>η .leq 3 a (χ 6) λa=>aR a (ε 79 (υ m) 1 λa=>δ c 35 a λa=>ψ X 64 [a,.func (.func 118) #[] #[]] c λa c f=>ο .not a λa=>aR a (ε 79 (υ m) 1 λa=>δ c 35 a λa=>ψ X 119 [a,.func (.func 34) #[] #[]] c λa c g=>b [a] c (Γ m.n d f g)) (b [Zf] c (ω m.n d f))) (b [Zf] c (min m.n d))) (b [Zf] c (min m.n d))) (λa b c=>un a λa _=>R [a] b c):=by kernel_rfl
theorem aaR:dk TE (aL TE X) f118 [x0] m R=ρ m x0 53 λa=>jn (λb=>ε 53 (υ m) 0 λc=>δ a 3 c λc=>ψ X 46 [c,χ 0,χ 99] a λa c d=>ο .not a λa=>aR a (b [Ku] c (min m.n d)) (ε 53 (υ m) 1 λa=>δ c 3 a λa=>ψ X 46 [a,χ (-2),χ 7] c λa c f=>ο .not a λa=>b [a] c (ω m.n d f))) (λa b c=>un a λa _=>R [a] b c):=by kernel_rfl
theorem F84:dk TE (aL TE X) f84 [x0,x1] m R=ρ m x0 38 λa=>ρ a x1 3 λb=>ς b [χ 0,χ 0,χ 0,YM,χ 0,χ 0] 60 λc=>ε 38 (υ m) 0 λd=>ε 33 d 0 λd=>ε 30 d 0 λd=>δ c 28 d λd=>ψ X 145 [d,.func (.func 146) #[] #[υ a]] c λa c d=>η .lss 3 a (χ 0) λf=>aR f (θ 60 [] λa=>ι c 60 (υ b) a λa c=>ai (ah TE a 60 (υ b)) λb=>R [b,Zf] a (ω m.n d c)) (ε 38 (υ m) 0 λf=>ε 33 f 0 λf=>ε 30 f 0 λf=>δ c 28 f λf=>ζ 28 f a λa=>δ c 60 a λa=>ι c 60 (υ b) a λa c=>ai (ah TE a 60 (υ b)) λb=>R [b,Ku] a (ω m.n d c)):=by kernel_rfl
theorem aaD:dk TE (aL TE X) f146 [x0,x1] m R=ρ m x0 60 λa=>ε 60 (υ m) 0 λb=>δ a 3 b λb=>δ a 3 x1 λc=>η .eql 3 b c λb=>R [b] a m.n:=by kernel_rfl
theorem F55:dk TE (aL TE X) f55 [x0,x1] m R=ρ m x0 38 λa=>ρ a x1 62 λb=>ε 62 (υ a) 0 λc=>δ b 3 c λc=>jn (λa=>η .eql 3 c (χ 4) λd=>aR d (a [d] b m.n) (η .eql 3 c (χ 5) λc=>a [c] b m.n)) (λb d f=>un b λb _=>aR b (ε 62 (υ a) 2 λa=>δ d 3 a λa=>ψ X 117 [a,υ m] d λa b c=>R [a] b (min f c)) (η .eql 3 c (χ 9) λb=>aR b (jn (λb=>ε 62 (υ a) 2 λc=>δ d 3 c λc=>ψ X 117 [c,υ m] d λc d g=>aR c (ε 62 (υ a) 3 λa=>δ d 3 a λa=>ψ X 117 [a,υ m] d λa c d=>b [a] c (ω f g d)) (b [Zf] d (min f g))) (λa b c=>un a λa _=>R [a] b c)) (R [Ku] d f))):=by kernel_rfl
theorem aaS:dk TE (aL TE X) f117 [x0,x1] m R=δ m 38 x1 λa=>ψ X 84 [a,x0] m λa b c=>ξ a 0 λd=>ξ a 1 λa=>ς b [χ 0,χ 0,χ 0,YM,χ 0,χ 0] 60 λf=>ι f 60 (υ b) d λb d=>R [a] b (ω m.n c d):=by kernel_rfl
theorem F47:dk TE (aL TE X) f47 [x0] m R=ρ m x0 43 λa=>ς a [χ 0,YM] 75 λb=>ε 43 (υ m) 1 λc=>δ b 39 c λc=>κ b .len [39] [c] λc _=>ε 43 (υ m) 2 λd=>δ b 40 d λd=>θ 75 [(0,c),(1,d)] λc=>ι b 75 (υ a) c λb c=>ai (ah TE b 75 (υ a)) λa=>R [a] b (min m.n c):=by kernel_rfl
theorem F23:dk TE (aL TE X) f23 [x0] m R=ρ m x0 43 λa=>jn (λb=>δ a 43 (υ m) λc=>ψ X 47 [c] a λa c d=>ψ X 53 [a] c λa c f=>ο .not a λa=>aR a (b [Ku] c (ω m.n d f)) (ε 43 (υ m) 0 λa=>δ c 38 a λa=>ψ X 40 [a] c λa c g=>ο .not a λa=>aR a (b [Ku] c (Γ m.n d f g)) (ε 43 (υ m) 3 λa=>δ c 41 a λa=>κ c .len [41] [a] λa _=>η .gtr 3 a (χ 10) λa=>b [a] c (Γ m.n d f g)))) (λa b c=>un a λa _=>aR a (R [Zf] b c) (jn (λa=>ε 43 (υ m) 1 λd=>δ b 39 d λd=>ψ X 60 [d,.func (.func 54) #[] #[υ m]] b λb d f=>ο .not b λb=>aR b (ε 43 (υ m) 3 λb=>δ d 41 b λb=>ψ X 61 [b,.func (.func 56) #[] #[]] d λb d g=>ο .not b λb=>aR b (ε 43 (υ m) 3 λb=>δ d 41 b λb=>ψ X 62 [b,.func (.func 58) #[] #[]] d λb d h=>a [b] d (Γ c f g h)) (a [Zf] d (ω c f g))) (a [Zf] d (min c f))) (λa b c=>un a λa _=>R [a] b c))):=by kernel_rfl
theorem F54:dk TE (aL TE X) f54 [x0,x1] m R=ρ m x0 62 λa=>jn (λb=>δ a 62 (υ m) λc=>ψ X 51 [c] a λa c d=>ο .not a λa=>aR a (b [Ku] c (min m.n d)) (ε 43 x1 0 λa=>δ c 38 a λa=>δ c 62 (υ m) λf=>ψ X 55 [a,f] c λa c f=>ο .not a λa=>b [a] c (ω m.n d f))) (λa b c=>un a λa _=>R [a] b c):=by kernel_rfl
theorem F56:dk TE (aL TE X) f56 [x0] m R=ρ m x0 79 λa=>δ a 79 (υ m) λb=>ψ X 57 [b] a λa b c=>ο .not a λa=>R [a] b (min m.n c):=by kernel_rfl
theorem F58:dk TE (aL TE X) f58 [x0,x1] m R=ρ m x0 79 λa=>ρ a x1 79 λb=>ε 79 (υ m) 0 λc=>δ b 3 c λc=>ε 79 (υ a) 0 λa=>δ b 3 a λa=>ψ X 59 [c,a] b λa b c=>R [a] b (min m.n c):=by kernel_rfl
theorem F87:dk TE (aL TE X) f87 [x0,x1] m R=ρ m x0 60 λa=>ρ a x1 143 λb=>ς b [χ 0,χ 0] 53 λc=>ε 60 (υ m) 3 λd=>δ c 58 d λd=>κ c .len [58] [d] λf _=>Lp (λc g h i=>un g λg _=>η .lss 3 g f λf=>aR f (ζ 58 d g λd=>δ h 141 d λd=>ς h [χ 0,χ 0] 141 λf=>ι f 141 (υ h) d λd f=>ε 60 (υ m) 3 λj=>δ d 58 j λj=>η .add 3 g (χ 1) λk=>ε 60 (υ m) 3 λl=>δ d 58 l λl=>κ d .len [58] [l] λl _=>η .rem 3 k l λk=>ζ 58 j k λj=>δ d 141 j λj=>ς d [χ 0,χ 0] 141 λk=>ι k 141 (υ d) j λj k=>jn (λb=>ε 143 (υ a) 0 λc=>δ j 141 c λc=>ψ X 150 [c,υ d,υ h] j λc g j=>ο .not c λc=>aR c (ε 143 (υ a) 1 λa=>δ g 141 a λa=>ψ X 150 [a,υ d,υ h] g λa c d=>ο .not a λa=>b [a] c (Δ i f k j d)) (b [Zf] g (Γ i f k j))) (λa d f=>un a λa _=>aR a (ε 60 (υ m) 0 λa=>δ d 3 a λa=>θ 53 [(0,a),(1,g)] λa=>ι d 53 (υ b) a λa c=>ai (ah TE a 53 (υ b)) λb=>R [b] a (min f c)) (η .add 3 g (χ 1) λa=>c [a] d f))) (ε 60 (υ m) 0 λa=>δ h 3 a λa=>θ 53 [(0,a)] λa=>ι h 53 (υ b) a λa c=>ai (ah TE a 53 (υ b)) λb=>R [b] a (min i c))) [χ 0] c m.n:=by kernel_rfl
theorem aaz:dk TE W f150 [x0,x1,x2] m R=JA W m x0 141 λa=>Wo W 141 x1 0 λb=>Fm W a 3 b λb=>Wo W 141 x2 0 λc=>Fm W a 3 c λc=>LH W .sub 3 b c λb=>Wo W 141 (IJ m) 1 λc=>Fm W a 3 c λc=>Wo W 141 x2 1 λd=>Fm W a 3 d λd=>LH W .sub 3 c d λc=>LH W .mul 3 b c λb=>Wo W 141 x1 1 λc=>Fm W a 3 c λc=>Wo W 141 x2 1 λd=>Fm W a 3 d λd=>LH W .sub 3 c d λc=>Wo W 141 (IJ m) 0 λd=>Fm W a 3 d λd=>Wo W 141 x2 0 λf=>Fm W a 3 f λf=>LH W .sub 3 d f λd=>LH W .mul 3 c d λc=>LH W .neq 3 b c λb=>R [b] a m.n:=by kernel_rfl
theorem F37:dk TE (aL TE X) f37 [x0,x1] m R=ρ m x0 38 λa=>ρ a x1 62 λb=>δ b 38 (υ m) λc=>ε 62 (υ a) 2 λd=>δ b 3 d λd=>ψ X 84 [c,d] b λb c d=>ξ b 0 λf=>ξ b 1 λb=>ς c [χ 0,χ 0,χ 0,YM,χ 0,χ 0] 60 λg=>ι g 60 (υ c) f λf g=>ο .not b λb=>aR b (R [YM] f (ω m.n d g)) (jn (λb=>ε 62 (υ a) 0 λh=>δ f 3 h λh=>η .eql 3 h (χ 4) λi=>aR i (δ f 60 (υ c) λa=>ψ X 85 [a] f λa b c=>ψ X 33 [a,.func (.func 34) #[] #[]] b λ_ b f=>R [a] b (Δ m.n d g c f)) (η .eql 3 h (χ 5) λi=>aR i (ε 62 (υ a) 2 λh=>δ f 3 h λh=>ε 62 (υ a) 4 λa=>δ f 3 a λa=>θ 53 [(0,h),(1,a)] λa=>ς f [χ 0,χ 0] 53 λh=>ι h 53 (υ f) a λa h=>δ a 60 (υ c) λc=>ψ X 85 [c] a λc i j=>(a.n<=j)/\(δ i 53 (υ f) λa=>ψ X 36 [c,a] i λa c i=>aR a (δ c 53 (υ f) λa=>ν c 35 1 [(0,a)] λa b=>R [a] b (Θ m.n d g h j i)) (b [YM] c (Θ m.n d g h j i)))) (η .eql 3 h (χ 9) λh=>aR h (δ f 38 (υ m) λh=>ε 62 (υ a) 3 λa=>δ f 3 a λa=>ψ X 84 [h,a] f λa f h=>ξ a 0 λi=>ξ a 1 λa=>ς f [χ 0,χ 0,χ 0,YM,χ 0,χ 0] 60 λj=>ι j 60 (υ f) i λi j=>δ i 60 (υ c) λk=>δ i 60 (υ f) λl=>ψ X 86 [k,l] i λi k l=>ξ i 0 λn=>ξ i 1 λi=>ς k [χ 0,χ 0,χ 0,χ 0,χ 0,χ 0,χ 0,χ 0] 145 λo=>ι o 145 (υ k) n λn o=>jn (λb=>aR a (b [i] n (Λ m.n d g h j l o)) (b [Zf] n (Λ m.n d g h j l o))) (λa d g=>un a λa _=>aR a (δ d 60 (υ c) λa=>ε 145 (υ k) 2 λb=>δ d 143 b λb=>ψ X 87 [a,b] d λa b c=>(d.n<=c)/\(δ b 60 (υ f) λd=>ε 145 (υ k) 2 λf=>δ b 143 f λf=>ψ X 87 [d,f] b λb d f=>ν d 35 2 [(0,a),(1,b)] λa b=>R [a] b (ω g c f))) (b [YM] d g))) (b [YM] f (ω m.n d g))))) (λa b c=>un a λ_ _=>R [YM] b c)):=by kernel_rfl
theorem F36:dk TE (aL TE X) f36 [x0,x1] m R=ρ m x1 53 λa=>δ a 53 (υ m) λb=>ψ X 83 [x0,b] a λa b c=>η .geq 3 a (χ 0) λa=>R [a] b (min m.n c):=by kernel_rfl
theorem F83:dk TE (aL TE X) f83 [x0,x1] m R=ρ m x1 53 λa=>κ a .len [35] [x0] λb _=>Lp (λa c d f=>un c λc g=>un g λg _=>η .lss 3 g b λb=>aR b (δ d 53 (υ m) λb=>ζ 35 x0 g λh=>δ d 53 h λh=>η .eql 53 b h λb=>aR b (R [g] d f) (η .add 3 g (χ 1) λb=>a [c,b] d f)) (R [χ (-1)] d f)) [χ 0,χ 0] a m.n:=by kernel_rfl
theorem F60:dk TE (aL TE X) f60 [x0,x1] m R=ψ X 121 [x0,x1] m λa b c=>η .geq 3 a (χ 0) λa=>R [a] b (min m.n c):=by kernel_rfl
theorem F61:dk TE (aL TE X) f61 [x0,x1] m R=ψ X 122 [x0,x1] m λa b c=>η .geq 3 a (χ 0) λa=>R [a] b (min m.n c):=by kernel_rfl
theorem F64:dk TE (aL TE X) f64 [x0,x1] m R=ψ X 123 [x0,x1] m λa b c=>η .geq 3 a (χ 0) λa=>R [a] b (min m.n c):=by kernel_rfl
end
end
section
variable {X:aK} {m:M}
theorem yW(hX:cd X){a lo hi:Int}:C X (.func 46) [YR a,YR lo,YR hi] m m.n (.bool (cR a lo hi)) m:=by
 refine Cl.fG hX (Kg func46) ?_;rw[F46];dsimp only[η];refine aZ (λvs mm l=>vs=[.bool (cR a lo hi)]/\m.n<=l) (λQ H=>?_) ?_;·rw[cz,ae,aj];refine an (λc=>?_) (λc=>H _ _ _ ⟨by unfold cR;rw[c];rfl,Ox _⟩);rw[cz,ae];exact H _ _ _ ⟨by unfold cR;rw[c];rfl,Ox _⟩
 rintro _ mm l ⟨rfl,hl⟩;rw[aB];exact⟨rfl,hl⟩
theorem acw(H:cd X)(x y:Fc):C X (.func 34) [x.v,y.v] m m.n (YR (JC [dp x.un y.un,dp x.side y.side])) m:=by
 refine Cl.fG H (Kg func34) ?_;rw[F34];dsimp only[δ,ε,ν,ρ,υ,ψ,Γ];refine aw λm1 i0 d0 j0=>?_;refine aw λm2 k0 e0 g0=>?_;have g1:m2.get m.n=.cells x.c 53 none:=by rw[g0 _ (by omega)];exact d0
 have g2:m2.get m1.n=.cells y.c 53 none:=e0;obtain⟨a0,a1, -⟩:=qq g1;obtain⟨b0,b1, -⟩:=qq g2;unfold ptrTo;simp only[cW,dj,ae];rw[a0,ae,b0,ae];refine aG (ed H _ _) ⟨Ox _,?_⟩;rw[a1,ae,b1,ae];refine aG (ed H _ _) ?_;rw[mX,az];obtain⟨m18,hm⟩:∃q,q=m2.push (.cells ([dp x.un y.un,dp x.side y.side].map (.int .i64)) 3 none):=⟨_,rfl⟩
 rw[<-hm];have g18:m18.get m2.n=.cells ([dp x.un y.un,dp x.side y.side].map (.int .i64)) 3 none:=by rw[hm];exact M.aX
 have n18:m2.n<=m18.n:=by rw[hm];exact Pz _
 refine aG (Hp H (nw g18) (by grind)) ?_;exact⟨rfl,by omega⟩
abbrev Ib(T t:TypeId)(W:Words)(x0 x1:Φ)(m:M)(R:Bt->M->Nat->Prop):Prop:=
(W.Lp (λP1 b0 m3 H=>W.un b0 λv5 r6=>W.un r6 λv7 r8=>(W.aO (av TE m3 .len [T] [x0]) λv9 _=>(W.ai (aA TE .lss 3 v7 v9) λv10=>(aR v10
(W.ai (aA TE .sub 3 v7 (.int .i64 1)) λv11=>(W.ai (ak TE T x0 v11) λv12=>(W.ai (ah TE m3 t v12) λd0=>(W.ai (ak TE T x0 v7) λe0=>(W.ai (ah TE m3 t e0) λg0=>(gL x1 λg16 f17 i0=>(W.bs g16 (f17.toList++([d0,g0]++i0.toList)) m3 λj0 m20 a0=>(W.ai (aA TE .geq 3 j0 (.int .i64 0)) λv22=>(aR v22
(R [.bool false] m20 (min H a0))
(W.ai (aA TE .add 3 v7 (.int .i64 1)) λv23=>(P1 [v5,v23] m20 (min H a0))))))))))))
(R [.bool true] m3 H))))) [.bool false,.int .i64 1] m (M.n m))
theorem Ia{T t:TypeId}{α:Type}[aW α](hT:oU TE T t α)(d0:aW.agg α){l:List α}{v:Φ}{g1:Fn}{f1 c1:Array Φ}{R:Bt->M->Nat->Prop}(val:α->Bt)(H:∀m x cs,aW.rep m x cs->cs=val x)(hb:l.length<1000000)(hl:Sl m l v)
  (hc:∀i x y,l[i]?=some x->l[i+1]?=some y->∃k:Int,k<0/\C X g1 (f1.toList++([.agg (val x).toArray,.agg (val y).toArray]++c1.toList)) m m.n (YR k) m)
  (hR:R [Ku] m m.n):Ib T t (aL TE X) v (.func g1 f1 c1) m R:=by
 dsimp only[Ib,aL];have b0:∀cs:Bt,aW.val α cs=.agg cs.toArray:=λcs=>by unfold aW.val;rw[d0];rfl
 refine Lp.intro (γ:=Nat) (λi=>l.length+1-i) (λi vs m1 lo=>∃w,vs=[w,YR i]/\1<=i/\i<=l.length+1/\m=m1/\lo=m.n) 1 ⟨_,rfl,Ox _,by omega,rfl,rfl⟩ ?_;rintro i vs _ _ ⟨w,rfl,h1,hi,rfl,rfl⟩;rw[aB,aB,hl.len hT,az,aM,ae,aj];refine an (λc=>?_) (λc=>hR);have e0:i<l.length:=by grind
 rw[dt,ae,wrap64,show(i:Int)-1=((i-1:Nat):Int) by omega];obtain⟨x,hx⟩:∃x,l[i-1]?=some x:=⟨_,qp⟩
 obtain⟨y,hy⟩:∃y,l[i]?=some y:=⟨_,Fx e0⟩
 have⟨a,cs,e1,e2,e3⟩:=hl.index hT (k:=.i64) hx;have⟨a',i0,e4,e5,e6⟩:=hl.index hT (k:=.i64) hy;have a0:=H _ _ _ e3;subst a0;have a0:=H _ _ _ e6;subst a0;rw[b0]at e2 e5;rw[e1,ae,e2,ae,e4,ae,e5,ae,cg];obtain⟨k,hk,g0⟩:=hc (i-1) x y hx (by grind);refine aG g0 ?_;rw[cI,ae,aj,tx,aN,aP,ae,wrap64];exact⟨i+1,by omega,w,rfl,by omega,by omega,rfl,by omega⟩
theorem Pp(hX:cd X){l:List Fc}{v:Φ}(hl:Sl m l v)(hlen:l.length<1000000)(H:l.Pairwise gZ):C X (.func 119) [v,.func (.func 34) #[] #[]] m m.n Ku m:=by refine Cl.fG hX (Kg func119) ?_;rw[show∀{W:Words} {x0 x1:Φ} {m:M} {R:Bt->M->Nat->Prop},dk TE W f119 [x0,x1] m R=Ib 35 53 W x0 x1 m R from aaQ];refine Ia dA rfl Fc.c (λm x cs h=>h) hlen hl (λi x y hx hy=>⟨_,?_,acw hX x y⟩) ⟨rfl,Ox _⟩;have h1:=OJ.1 hx;have h2:=OJ.1 hy;have:=Px.1 H i (i+1) h1.1 h2.1 (by omega);rw[h1.2,h2.2]at this;exact BU this
theorem aeh{W:Words}{x0 x1:Φ}{m:M}{R:Bt->M->Nat->Prop}:dP TE W f123 [x0,x1] m R=zH 35 53 W x0 x1 m R:=by kernel_rfl
theorem Ro{W:Words}{x0 x1:Φ}{m:M}{R:Bt->M->Nat->Prop}:dP TE W f121 [x0,x1] m R=zH 39 62 W x0 x1 m R:=by kernel_rfl
theorem Rp{W:Words}{x0 x1:Φ}{m:M}{R:Bt->M->Nat->Prop}:dP TE W f122 [x0,x1] m R=zH 41 79 W x0 x1 m R:=by kernel_rfl
theorem acQ{f:Fc}(h:(0<=f.un/\f.un<=99)/\ -2<=f.side/\f.side<=7):cR f.un 0 99/\cR f.side (-2) 7:=
 ⟨by unfold cR;rw[IH h.1.1,IH h.1.2];rfl,by unfold cR;rw[IH h.2.1,IH h.2.2];rfl⟩
theorem zF(H:cd X){x:QW}(hs:Sl m x.q.lg x.w)(hq:YQ x.q):C X (.func 57) [x.v] m m.n Ku m:=by
 refine Cl.fG H (Kg func57) ?_;have hlen:=hq.len;rw[F57];dsimp only[δ,ε,η,κ,ο,ρ,υ,χ,ψ,Γ,ω];refine aw λm1 j0 e0 g0=>?_;have g1:m1.get m.n=.cells x.c 79 none:=e0;have x1:Ext m m1:=⟨by omega,g0⟩
 have b0:=hs.aE x1;obtain⟨a0,a1, -⟩:=La g1;unfold ptrTo;simp only[fY,eT,ae];refine aZ (λvs mm lo=>vs=[Ku]/\m.n<=lo) (λQ hQ=>?_) ?_
 ·rw[a0,ae];refine aG (yW H) ?_;rw[show cR x.q.id 0 99=true by unfold cR;rw[IH hq.id.1,IH hq.id.2];rfl,aj,bH,a1,ae,b0.len dA,az,cz,ae,aj,CM,bH,ae];have hc:C X (.func 64) [x.w,.func (.func 118) #[] #[]] m1 m1.n Zf m1:=by
   refine Cl.fG H (Kg func64) ?_;rw[F64];dsimp only[η,χ,ψ];refine aG (eZ dA (H.no _ rfl) (Kg func123) rfl aeh (λ_=>false) (by omega) b0 λf hf cs hr=>?_) ?_
   ·have hr:cs=f.c:=hr;subst hr;have⟨b1,b2⟩:=acQ (hq.ok f hf);refine Cl.th (args:=[f.v]) (H.no _ rfl) (Kg func118) rfl rfl ?_;rw[aaR];dsimp only[δ,ε,ο,ρ,υ,χ,ψ,ω];refine aw λm2 k0 i0 l0=>?_;have g2:m2.get m1.n=.cells f.c 53 none:=i0;obtain⟨c0,c1, -⟩:=qq g2;unfold ptrTo;refine aZ (λvs mm lo=>vs=[Zf]/\m1.n<=lo) (λQ hQ=>?_) ?_;·rw[cW,ae,c0,ae];refine aG (yW H) ?_;rw[b1,bk,ae,aj];show gH false _ _;rw[aN,dj,ae,c1,ae];refine aG (yW H) ?_;rw[b2,bk,ae];exact hQ _ _ _ ⟨rfl,by omega⟩
    rintro _ mm lo ⟨rfl,d0⟩;rw[aB];exact⟨rfl,d0⟩
   rw[cI,ae,hU];refine⟨?_,by omega⟩;show Value.bool (x.q.lg.any λ_=>false)=_;rw[VS.2 λx _=>by decide]
  refine aG hc ?_;rw[bk,ae,aj];show gH true _ _;rw[bH,a1,ae];refine aG (Pp H b0 (by omega) hq.tP) ?_;exact hQ _ _ _ ⟨rfl,by omega⟩
 rintro _ mm lo ⟨rfl,d0⟩;rw[aB];exact⟨rfl,d0⟩
theorem yX(hX:cd X){l:List UW}{r r2 st rc mo:Φ}(h:cP m l r)(hl:l.length<1000000)(h1:(yc r r2 st rc mo).all one)(id:Int):
  ∃rv m',C X (.func 84) [yv r r2 st rc mo,YR id] m m.n rv m'/\Ext m m'/\fJ (bM l) id m' rv:=by
 refine Cl.EL hX (Kg func84) ?_;rw[F84];dsimp only[δ,ε,ζ,η,θ,ι,ρ,ς,υ,χ,ψ,ω];refine aw λm1 v0 j0 y0=>?_;refine aw λm2 z0 k0 l0=>?_;refine aw λm3 A0 n0 b0=>?_;have o0:Ext m m3:=⟨by omega,by grind⟩
 have g1:m3.get m.n=.cells (yc r r2 st rc mo) 38 none:=by rw[b0 _ (by omega),l0 _ (by omega)];exact j0
 have g2:m3.get m1.n=.cells [YR id] 3 none:=by rw[b0 _ (by omega)];exact k0
 have g3:m3.get m2.n=.cells Un.zc 60 none:=n0;have H:=h.aE o0;unfold ptrTo;simp only[cF,bV,bJ,ae];rw[(xB g1).2.1,ae];refine aG (eZ dc (hX.no _ rfl) (Kg func145) rfl AD (l:=l) (λx=>decide (x.u.id=id)) (by omega) H.sl λx hx cs hr=>?_) ?_;·obtain⟨rfl,hw⟩:cs=x.c/\one x.w:=hr;refine Cl.th (args:=[x.v,Ga m1.n 0]) (hX.no _ rfl) (Kg func146) rfl rfl ?_;rw[aaD];dsimp only[δ,ε,η,ρ,υ];refine aw λm4 B0 p0 q0=>?_;have g4:m4.get m3.n=.cells (x.u.c x.w) 60 none:=p0;unfold ptrTo;rw[bz,ae,(kz g4).1,ae,BX (show m4.get m1.n=_ from(q0 _ (by omega)).trans g2),ae,aS,ae];exact⟨rfl,Ox _⟩
 rcases kG (λx:UW=>decide (x.u.id=id)) l with⟨e1,e2⟩|⟨i,x,e1,e2,e3,e4⟩
 ·rw[e1,aM,ae,aj,IH (by decide),bH,show aJ TE 60 []=some (.agg Un.zc.toArray)from ng,ae];refine aC dm g3 rfl rfl rfl λm12 r0 d0 s0=>?_;have g12:m12.get m2.n=.cells (Un.c ⟨0,0,0,[],0,0⟩ YM) 60 none:=d0;rw[bU g12,ae];refine .inl ⟨rfl,by omega,by grind,.refl,?_⟩;unfold fJ ck;rw[Fl.2 λy hy=>by obtain⟨x,hx,rfl⟩:=LY.1 hy;have:=e2 x hx;simpa using this];rfl
 rw[e1,aM,ae,aj,tx,aN,(xB g1).2.1,ae];obtain⟨p,f1,f2, -⟩:=H.sl.eY (k:=.i64) e2;rw[f1,ae,f2,ae];have e0:=LZ e2;refine aC dm g3 rfl rfl (Un.cH (h.sh x e0).one) λm20 u0 g0 i0=>?_;have g20:m20.get m2.n=.cells (x.u.c x.w) 60 none:=g0;rw[bU g20,ae];refine Ej (m':=m20) (by grind) ?_ (by omega) ⟨by omega,by grind⟩;unfold fJ;have a0:ck (bM l) id=some x.u:=by
  unfold ck bM;refine tj (i:=i) (by grind) e3 λj y hj hy=>?_;grind
 rw[a0];exact⟨x.w,rfl,(H.sh x e0).aV λc cs t g hc ht=>by rw[i0 c (λe=>by subst e;rw[g3]at hc;cases hc;simp[aW.ty,aW.cT]at ht),hc]⟩
theorem aeq(hX:cd X){l:List UW}{b:Nat}{r r2 st rc mo:Φ}(g:m.get b=.cells (yc r r2 st rc mo) 38 none)(h:cP m l r)(hP:cq (bM l))(hl:l.length<1000000)(h1:(yc r r2 st rc mo).all one)(id:Int):
  C X (.func 117) [YR id,Ga b 0] m m.n (.bool (ck (bM l) id).isSome) m:=by refine Cl.fG hX (Kg func117) ?_;rw[aaS];dsimp only[δ,ι,ξ,ς,υ,χ,ψ,ω];rw[(dW g).2.2.2.2,ae];have⟨rv,m3,c3,x3,f3⟩:=yX (m:=m) hX h hl h1 id;refine aG c3 ?_;obtain⟨u,wu,bb,rfl,fu⟩:=f3.SP hP;have n3:=x3.n;rw[aH,aH];simp only[zi,F9,ae];refine aw λm7 a0 H b0=>?_;unfold ptrTo;refine aC dm H rfl rfl (Un.cH fu.sl.one) λm8 d0 e0 g0=>?_;exact⟨by rw[fu.is];rfl,by omega⟩
theorem FP(hX:cd X){y:Yd}{r r2 st rc mo:Φ}{t:Tk}{w:Φ}(hV:lR m y r r2 st rc mo)(hP:qG y):C X (.func 55) [yv r r2 st rc mo,t.v w] m m.n (.bool (ru y.us t)) m:=by
 refine Cl.fG hX (Kg func55) ?_;have d0:=hV.dS;obtain⟨⟨l,H,hF⟩, -⟩:=hV;have e0:cq (bM l):=by rw[H];exact hP.qE
 have l0:l.length<=12:=by have:=hP.qE.len;rwa[<-H,cx]at this
 rw[F55];dsimp only[δ,ε,η,ρ,υ,χ,ψ,ω];refine aw λm1 n0 g0 o0=>?_;refine aw λm2 p0 i0 j0=>?_;have k0:Ext m m2:=⟨by omega,by grind⟩
 have g1:m2.get m.n=.cells (yc r r2 st rc mo) 38 none:=by rw[j0 _ (by omega)];exact g0
 have g2:m2.get m1.n=.cells (t.c w) 62 none:=i0;obtain⟨a0,a1,a2, -, -⟩:=nq g2;have has:=λid=>aeq (m:=m2) hX g1 (hF.aE k0) e0 (by omega) d0 id;rw[H]at has;unfold ptrTo;simp only[cn,bZ,cE,ae];rw[a0,ae];refine aZ (λvs mm lo=>vs=[.bool (decide (t.kind=4\/t.kind=5))]/\m2=mm/\m.n<=lo) (λQ hQ=>?_) ?_
 ·rw[aS,ae,aj];refine an (λc=>hQ _ _ _ ⟨?_,rfl,Ox _⟩) (λc=>?_);·rw[c,IH (Or.inl (NT c))]
  ·rw[aS,ae];refine hQ _ _ _ ⟨?_,rfl,Ox _⟩;have c:=Ja c;congr 2;exact decide_eq_decide.2 ⟨λh=> .inr h,λh=>h.resolve_left c⟩
 rintro _ _ lo ⟨rfl,rfl,b0⟩;rw[aB,aj];refine an (λc=>?_) (λc=>?_)
 ·have c:=NT c;rw[a1,ae];refine aG (has t.id) ⟨?_,by omega⟩;unfold ru;rw[im];have:(!decide (t.kind=4) && !decide (t.kind=5))=false:=by
   grind
  rw[this,Cz];rfl
 have c:=Ja c;rw[aS,ae,aj];refine an (λc9=>?_) (λc9=>?_)
 ·have c9:=NT c9;refine aZ (λvs mm lo=>vs=[.bool (ru y.us t)]/\m.n<=lo) (λQ hQ=>?_) ?_;·unfold ru at hQ;rw[Tf c9]at hQ;rw[a1,ae];refine aG (has t.id) ?_;rw[aj];refine an (λd=>?_) (λd=>hQ _ _ _ ⟨by grind,by omega⟩);rw[a2,ae];refine aG (has t.other) ?_;exact hQ _ _ _ ⟨by grind,by omega⟩
  rintro _ mm lo ⟨rfl,b0⟩;rw[aB];exact⟨rfl,b0⟩
 have c9:=Ja c9;refine⟨?_,b0⟩;unfold ru;rw[QL c9];have:(!decide (t.kind=4) && !decide (t.kind=5)):=by
  grind
 rw[this,Bool.or_true];rfl
theorem rn(hX:cd X){s:jk}{r r2 st rc mo tv pv qv:Φ}(H:oQ m s r r2 st rc mo tv pv qv):∃m',C X (.func 47) [nj r r2 st rc mo tv pv qv] m m.n (JF s.ts.length pv) m'/\Ext m m':=by
 obtain⟨l,hl,hs, -⟩:=H.ts;have a0:l.length=s.ts.length:=by grind
 have b0:=H.ps.cells;have d0:=H.ps.one;refine Cl.TY hX (Kg func47) (R:=λrv m'=>rv=JF s.ts.length pv/\Ext m m') ?_ λrv m' hc ⟨e,hx⟩=>⟨m',e ▸ hc,hx⟩
 rw[F47];dsimp only[δ,ε,θ,ι,κ,ρ,ς,υ,χ];refine aw λm1 n0 e0 o0=>?_;refine aw λm2 p0 g0 i0=>?_;have j0:Ext m m2:=⟨by omega,by grind⟩
 have g1:m2.get m.n=.cells (scc r r2 st rc mo tv pv qv) 43 none:=by rw[i0 _ (by omega)];exact e0
 have g2:m2.get m1.n=.cells [YR 0,YM] 75 none:=g0;unfold ptrTo;rw[cX,ae,(fK g1).2.1,ae,(hs.aE j0).len cV,az,dZ,ae,(fK g1).2.2.1,ae,a0];rw[show aJ TE 75 [(0,YR (s.ts.length:Int)),(1,pv)]=some (JF s.ts.length pv) by rw[Cy rfl (by grind),b0];rfl,ae];refine aC Sh g2 rfl rfl (by show(true && (one pv && true))=true;rw[d0];rfl) λm9 q0 k0 r0=>?_;have g9:m9.get m1.n=.cells [YR (s.ts.length:Int),pv] 75 none:=k0;rw[(EI g9).2.2,ae];have l0:Ext m m9:=⟨by omega,by grind⟩
 cases hf:bA (JF s.ts.length pv);·exact .inr ⟨.inl hf,by omega,rfl,l0⟩
 exact .inl ⟨hf,by omega,by grind,rfl,.refl⟩
theorem NB{s:jk}(h:EN s):CO s.ts.length s.ps:=h.od
theorem VT(H:cd X){s:jk}{r r2 st rc mo tv pv qv:Φ}{b:Nat}(hS:EN s)(hV:oQ m s r r2 st rc mo tv pv qv)(g:m.get b=.cells (scc r r2 st rc mo tv pv qv) 43 none){x:TW}(hs:Sl m x.t.un.shape x.w)(h4:x.t.un.shape.length<=4)(hf:dB x.t)(ho:ru s.y.us x.t):
  C X (.func 54) [x.v,Ga b 0] m m.n Zf m:=by
 refine Cl.fG H (Kg func54) ?_;rw[F54];dsimp only[δ,ε,ο,ρ,υ,ψ,ω];refine aw λm1 e0 a0 b0=>?_;have x1:Ext m m1:=⟨by omega,b0⟩
 have g1:m1.get m.n=.cells (x.t.c x.w) 62 none:=a0;have gs:=x1.cells g;unfold ptrTo;refine aZ (λvs mm lo=>vs=[Zf]/\m.n<=lo) (λQ hQ=>?_) ?_;·rw[gI g1,ae];refine aG (ES H (hs.aE x1) (by omega) hf) ?_;rw[bk,ae,aj];show gH false _ _;rw[aN,dE,ae,(fK gs).1,ae,gI g1,ae];refine aG (FP H (hV.y.aE x1) hS.y) ?_;rw[ho,bk,ae];exact hQ _ _ _ ⟨rfl,by omega⟩
 rintro _ mm lo ⟨rfl,d0⟩;rw[aB];exact⟨rfl,d0⟩
theorem ade(hX:cd X){x:QW}(hs:Sl m x.q.lg x.w)(hq:YQ x.q):C X (.func 56) [x.v] m m.n Zf m:=by refine Cl.fG hX (Kg func56) ?_;rw[F56];dsimp only[δ,ο,ρ,υ,ψ];refine aw λm1 b0 H a0=>?_;have g1:m1.get m.n=.cells x.c 79 none:=H;unfold ptrTo;rw[(La g1).2.2,ae];refine aG (zF hX (hs.aE ⟨by omega,a0⟩) hq) ?_;rw[bk,ae];exact⟨rfl,by omega⟩
theorem VR(hX:cd X){x y:QW}(h:x.q.id<y.q.id):C X (.func 58) [x.v,y.v] m m.n (YR (-1)) m:=by
 refine Cl.fG hX (Kg func58) ?_;rw[F58];dsimp only[δ,ε,ρ,υ,ψ];refine aw λm1 d0 H e0=>?_;refine aw λm2 g0 a0 b0=>?_;have g1:m2.get m.n=.cells x.c 79 none:=by rw[b0 _ (by omega)];exact H
 have g2:m2.get m1.n=.cells y.c 79 none:=a0;unfold ptrTo;rw[fY,ae,(La g1).1,ae,fY,ae,(La g2).1,ae];refine aG (ed hX _ _) ?_;exact⟨by unfold dp;rw[Tf h];rfl,by omega⟩
theorem uQ(H:cd X){s:jk}{r r2 st rc mo tv pv qv:Φ}(hS:EN s)(hV:oQ m s r r2 st rc mo tv pv qv):C X (.func 23) [nj r r2 st rc mo tv pv qv] m m.n Ku m:=by
 refine Cl.fG H (Kg func23) ?_;have n0:=hS.ql;have o0:=hS.tl;rw[F23];dsimp only[δ,ε,η,κ,ο,ρ,υ,χ,ψ,Γ,ω];refine aw λm1 p0 j0 k0=>?_;have x1:Ext m m1:=⟨by omega,k0⟩
 have g1:m1.get m.n=.cells (scc r r2 st rc mo tv pv qv) 43 none:=j0;have a0:=hV.aE x1;unfold ptrTo;simp only[dE,cX,eU,ae];refine aZ (λvs mm lo=>vs=[Zf]/\Ext m1 mm/\m.n<=lo) (λQ hQ=>?_) ?_
 ·rw[(fK g1).2.2.2.2,ae];have⟨m8,c8,x8⟩:=rn (m:=m1) H a0;refine aG c8 ?_;have n8:=x8.n;refine aG (abd H (NB hS) (a0.ps.aE x8)) ?_;rw[bk,ae,aj];show gH false _ _;rw[aN,(fK (x8.cells g1)).1,ae];refine aG (zV H (a0.y.aE x8) hS.y) ?_;rw[bk,ae,aj];show gH false _ _;obtain⟨q,hq,b0, -⟩:=(a0.aE x8).qs;have:q.length=s.qs.length:=by grind
  rw[aN,(fK (x8.cells g1)).2.2.2.1,ae,b0.len kQ,az,bP,ae,tx];exact hQ _ _ _ ⟨rfl,x8,by omega⟩
 rintro _ m4 lo ⟨rfl,x4,q0⟩;rw[aB,aj,aN];have e0:=a0.aE x4;have g4:=x4.cells g1;have n4:=x4.n;have⟨l,hl,hs,l0⟩:=e0.ts;have⟨q,hq,b0,g0⟩:=e0.qs;have r0:l.length=s.ts.length:=by grind
 have s0:q.length=s.qs.length:=by grind
 refine aZ (λvs mm lo=>vs=[Ku]/\m.n<=lo) (λQ hQ=>?_) ?_
 ·rw[(fK g4).2.1,ae];have c1:C X (.func 60) [tv,.func (.func 54) #[] #[Ga m.n 0]] m4 m4.n Zf m4:=by
   refine Cl.fG H (Kg func60) ?_;rw[F60];dsimp only[η,χ,ψ];refine aG (eZ cV (H.no _ rfl) (Kg func121) rfl Ro (l:=l) (λ_=>false) (by omega) hs λx hx cs hr=>?_) ?_;·obtain⟨rfl, -⟩:cs=x.c/\one x.w:=hr;have⟨h1,h2,h3⟩:=l0 x hx;exact VT H hS e0 g4 h1 h2 h3 (hS.ts x.t (by grind)).2
   ·rw[cI,ae,hU];refine⟨?_,by omega⟩;show Value.bool (l.any λ_=>false)=_;grind
  refine aG c1 ?_;rw[bk,ae,aj];show gH true _ _;rw[bH,(fK g4).2.2.2.1,ae];have c2:C X (.func 61) [qv,.func (.func 56) #[] #[]] m4 m4.n Zf m4:=by
   refine Cl.fG H (Kg func61) ?_;rw[F61];dsimp only[η,χ,ψ];refine aG (eZ kQ (H.no _ rfl) (Kg func122) rfl Rp (l:=q) (λ_=>false) (by omega) b0 λx hx cs hr=>?_) ?_;·obtain⟨rfl, -⟩:cs=x.c/\one x.w:=hr;exact ade H (g0 x hx).1 (g0 x hx).2
   ·rw[cI,ae,hU];refine⟨?_,by omega⟩;show Value.bool (q.any λ_=>false)=_;grind
  refine aG c2 ?_;rw[bk,ae,aj];show gH true _ _;rw[bH,(fK g4).2.2.2.1,ae];have c3:C X (.func 62) [qv,.func (.func 58) #[] #[]] m4 m4.n Ku m4:=by
   refine Cl.fG H (Kg func62) ?_;rw[show∀{W:Words} {x0 x1:Φ} {m:M} {R:Bt->M->Nat->Prop},dk TE W f62 [x0,x1] m R=Ib 41 79 W x0 x1 m R from F62];refine Ia kQ rfl QW.c (λm x cs h=>h.1) (by omega) b0 (λi x y hx hy=>⟨-1,by decide,VR H ?_⟩) ⟨rfl,Ox _⟩;have h1:=OJ.1 hx;have h2:=OJ.1 hy;have d0:=hS.tP;rw[<-hq]at d0;have:=Px.1 (Te.1 d0) i (i+1) h1.1 h2.1 (by omega);grind
  refine aG c3 ?_;exact hQ _ _ _ ⟨rfl,by omega⟩
 rintro _ mm fO ⟨rfl,i0⟩;rw[aB];exact⟨rfl,i0⟩
end
section
section
variable {X:aK}{x0 x1 x2 x3 x4:Φ}{m:M}{R:Bt->M->Nat->Prop}{W:Words}
theorem F32:dk TE (aL TE X) f32 [x0] m R=ρ m x0 43 λa=>δ a 43 (υ m) λb=>ψ X 47 [b] a λa b c=>ς b [χ 0,YM] 75 λd=>ι d 75 (υ b) a λa d=>ς a [.nilFunc] 155 λf=>ι f 155 (υ a) (.func (.func 76) #[] #[υ m,υ b]) λb f=>R [.func (.func 77) #[] #[υ m,υ a]] b (Γ m.n c d f):=by kernel_rfl
theorem F76:dk TE (aL TE X) f76 [x0,x1,x2,x3,x4] m R=ρ m x2 53 λa=>ε 43 x3 1 λb=>δ a 39 b λb=>ζ 39 b x0 λb=>δ a 62 b λb=>ς a [χ 0,χ 0,χ 0,χ 0,YM,χ 0,χ 0,χ 0,χ 0,χ 0,χ 0] 62 λc=>ι c 62 (υ a) b λb c=>jn (λd=>ε 62 (υ a) 0 λf=>δ b 3 f λf=>η .eql 3 f (χ 8) λf=>aR f (ε 62 (υ a) 2 λf=>δ b 3 f λf=>ε 53 (υ m) 0 λg=>δ b 3 g λg=>η .eql 3 f g λf=>aR f (ε 62 (υ a) 4 λa=>δ b 3 a λa=>ε 53 (υ m) 1 λf=>δ b 3 f λf=>η .eql 3 a f λa=>aR a (δ b 75 x4 λa=>ψ X 49 [a,x0,x1] b λa b f=>d [a] b (ω m.n c f)) (d [Zf] b (min m.n c))) (d [Zf] b (min m.n c))) (d [Zf] b (min m.n c))) (λa b c=>un a λa _=>R [a] b c):=by kernel_rfl
theorem F77:dk TE (aL TE X) f77 [x0,x1,x2] m R=ε 43 x1 1 λa=>δ m 39 a λa=>κ m .len [39] [a] λb _=>Lp (λc d f g=>un d λd _=>η .lss 3 d b λb=>aR b (ζ 39 a d λa=>δ f 62 a λa=>ς f [χ 0,χ 0,χ 0,χ 0,YM,χ 0,χ 0,χ 0,χ 0,χ 0,χ 0] 62 λb=>ι b 62 (υ f) a λa b=>ε 43 x1 0 λh=>δ a 38 h λh=>δ a 62 (υ f) λf=>ψ X 37 [h,f] a λa f h=>κ f .len [35] [a] λi _=>Lp (λb f g h=>un f λf _=>η .lss 3 f i λi=>aR i (ζ 35 a f λa=>δ g 53 a λa=>ς g [χ 0,χ 0] 53 λc=>ι c 53 (υ g) a λa c=>ε 43 x1 0 λi=>ε 38 i 2 λi=>δ a 35 i λi=>δ a 53 (υ g) λj=>ψ X 36 [i,j] a λa i j=>ε 43 x1 1 λk=>δ i 39 k λk=>κ i .len [39] [k] λk _=>Lp (λa c h i=>un c λc j=>un j λj _=>η .lss 3 j k λk=>aR k (aR c (η .add 3 j (χ 1) λb=>a [Ku,b] h i) (δ h 155 x2 λb=>δ h 53 (υ g) λc=>gL b λb f g=>bs TE X b (f.toList++([j,d,c]++g.toList)) h λb c d=>η .add 3 j (χ 1) λf=>a [b,f] c (min i d))) (ε 43 x1 3 λa=>δ h 41 a λa=>κ h .len [41] [a] λj _=>Lp (λh i k l=>un i λi _=>η .lss 3 i j λj=>aR j (ζ 41 a i λa=>δ k 79 a λa=>ς k [χ 0,YM] 79 λb=>ι b 79 (υ k) a λa b=>jn (λf=>ο .not c λc=>aR c (ε 79 (υ k) 1 λc=>δ a 35 c λc=>δ a 53 (υ g) λh=>ψ X 36 [c,h] a λa c h=>aR a (δ c 53 (υ g) λa=>θ 55 [(0,d),(1,a),(2,i)] λa=>gL x0 λd g i=>bs TE X d (g.toList++([a]++i.toList)) c λa c d=>ο .not a λa=>f [a] c (Γ l b h d)) (f [Zf] c (ω l b h))) (f [Zf] a (min l b))) (λa b c=>un a λa _=>aR a (R [] b c) (η .add 3 i (χ 1) λa=>h [a] b c))) (η .add 3 f (χ 1) λa=>b [a] k l)) [χ 0] h i)) [a,χ 0] i (ω h c j)) (η .add 3 d (χ 1) λa=>c [a] g h)) [χ 0] f (ω g b h)) (R [] f g)) [χ 0] m m.n:=by kernel_rfl
theorem F8:dk TE W Tryz.f8 [x0] m R=W.bC (M.push m (.cells (cells x0) 43 none)) λa=>W.ai (ah TE a 43 (ptrTo m.n)) λb=>W.bs (.func 23) [b] a λa b c=>W.ai (cU .not a) λa=>aR a (R [YM,.int .i64 290] b (min m.n c)) (W.ai (ah TE b 43 (ptrTo m.n)) λa=>W.bs (.func 32) [a] b λa b d=>W.bs (.func 31) [a] b λa b f=>R [a,.int .i64 0] b (min (min (min m.n c) d) f)):=by kernel_rfl
theorem F31:dk TE (aL TE X) f31 [x0] m R=ψ X 75 [YM,x0] m λa b c=>R [a] b (min m.n c):=by kernel_rfl
theorem F75:dk TE (aL TE X) f75 [x0,x1] m R=ρ m x0 45 λa=>gL x1 λb c d=>RF TE X b c.toList d.toList a m.n (λb c d=>un b λb f=>GX f (ς c [χ 0,χ 0,χ 0,χ 0] 55 λf=>ι f 55 (υ c) b λb f=>P7 a.n c b λb=>δ b 45 (υ m) λg=>δ b 55 (υ c) λh=>ν b 45 1 [(0,h)] λh i=>κ (M.wl i i.n) .append [45,45] [g,h] λg h=>ι h 45 (υ m) g λg i=>d b .normal g (Δ c.n f a.n (M.low h) i))) (λa b=>δ a 45 (υ m) λc=>R [c] a b) []:=by kernel_rfl
theorem F14:dk TE (aL TE X) f14 [x0,x1] m R=jn (λa=>η .lss 3 x0 (χ 0) λb=>aR b (η .add 3 x0 (χ 1) λb=>ο .neg b λb=>a [b] m m.n) (a [x0] m m.n)) (λa b c=>un a λa _=>η .rem 3 a x1 λa=>R [a] b c):=by kernel_rfl
end
end
section
variable {X:aK} {m:M}
theorem ji(hX:cd X){l:List Fc}{v:Φ}(h:Sl m l v)(hl:l.length<1000000)(f:Fc):C X (.func 36) [v,f.v] m m.n (.bool (decide (f∈l))) m:=by
 have e0:∀{m:M},Sl m l v->C X (.func 83) [v,f.v] m m.n (YR (idx (λx:Fc=>decide (f=x)) l)) m:=λ{m} h=>by
  refine Cl.fG hX (Kg func83) ?_;rw[F83];dsimp only[δ,ζ,η,κ,ρ,υ,χ];refine aw λm1 g0 H a0=>?_;have g1:m1.get m.n=.cells f.c 53 none:=H;have h1:=h.aE (m':=m1) ⟨by omega,a0⟩;unfold ptrTo;rw[h1.len dA,az];refine Lp.intro (γ:=Nat) (λi=>l.length-i) (λi vs mm lo=>∃z,vs=[z,YR i]/\i<=l.length/\m1=mm/\m.n<=lo/\∀j x,j<i->l[j]?=some x->decide (f=x)=false) 0 ⟨_,rfl,ZE _,rfl,Ox _,λj x hj=>by omega⟩ ?_;rintro i vs _ lo ⟨z,rfl,hi,rfl,b0,d0⟩;rw[aB,aB,aM,ae,aj];refine an (λc=>?_) (λc=>?_)
  ·have i0:i<l.length:=by grind
   obtain⟨x,hx⟩:∃x,l[i]?=some x:=⟨_,Fx i0⟩
   have⟨p,e1,e2⟩:=lZ h1 hx;rw[(qq g1).2.2,ae,e1,ae,e2,ae,Pm,ae,aj];refine an (λd=>⟨by rw[Cf (i:=i) hx d d0];rfl,b0⟩) (λd=>?_);rw[aP,ae,wrap64];refine⟨i+1,by omega,z,rfl,by omega,rfl,b0,λj y hj hy=>?_⟩;by_cases e:j=i;·subst e;rw[hx]at hy;cases hy;exact d
   exact d0 j y (by omega) hy
  have j0:i=l.length:=by have:¬(i:Int)< (l.length:Int):=Ja c;omega
  subst j0;refine⟨?_,b0⟩;rw[sW λx hx=>by have⟨j,hj⟩:=ZZ hx;exact d0 j x (OJ.1 hj).1 hj];rfl
 refine Cl.fG hX (Kg func36) ?_;rw[F36];dsimp only[δ,η,ρ,υ,χ,ψ];refine aw λm1 g0 H a0=>?_;have g1:m1.get m.n=.cells f.c 53 none:=H;unfold ptrTo;rw[(qq g1).2.2,ae];refine aG (e0 (h.aE ⟨by omega,a0⟩)) ?_;rw[cI,ae,hU];refine⟨?_,by omega⟩;show Value.bool (l.any λx=>decide (f=x))=_;congr 1;rw[OT,JL,EU];constructor;·rintro⟨x,hx,e⟩;rw[NT e];exact hx
 ·exact λh=>⟨f,h,IH rfl⟩
theorem Y6{b:Nat}{p:Pl}{g:Option Nat}(h:m.get b=.cells p.c 141 g):ah TE m 3 (Ga b (0+0))=some (YR p.x)/\ah TE m 3 (Ga b (0+1))=some (YR p.y):=by
 refine⟨?_,?_⟩;·rw[bF,aI h];rfl
 rw[bF,aI h];rfl
theorem TL(hX:cd X){a b p:Pl}{ba bb:Nat}(ga:m.get ba=.cells a.c 141 none)(gb:m.get bb=.cells b.c 141 none):C X (.func 150) [p.v,Ga bb 0,Ga ba 0] m m.n (.bool (Nz a b p)) m:=by
 refine Cl.fG hX (Kg func150) ?_;rw[aaz];dsimp only[aL,Fm,Wo,LH,JA,IJ];refine aw λm1 e0 H d0=>?_;have x1:Ext m m1:=⟨by omega,d0⟩
 have gp:m1.get m.n=.cells p.c 141 none:=H;have⟨a0,a1⟩:=Y6 (x1.cells ga);have⟨b0,b1⟩:=Y6 (x1.cells gb);have⟨p0,p1⟩:=Y6 gp;unfold ptrTo;simp only[bY,cN,ae,a0,a1,b0,b1,p0,p1,dt,fH,bL];exact⟨rfl,Ox _⟩
theorem smf{b:Nat}{p q:Pl}{g:Option Nat}(h:m.get b=.cells (jo p q) 143 g):ah TE m 141 (Ga b (0+0))=some p.v/\ah TE m 141 (Ga b (0+2))=some q.v:=by
 refine⟨?_,?_⟩;·rw[ll,aQ (n:=2) h (by grind)];rfl
 rw[ll,aQ (n:=2) h (by grind)];rfl
theorem Em(hX:cd X){u:Un}{w:Φ}(hw:Sl m u.shape w)(hl:u.shape.length<1000000)(p q:Pl):C X (.func 87) [u.v w,.agg (jo p q).toArray] m m.n (Ae u p q).v m:=by
 refine Cl.fG hX (Kg func87) ?_;rw[F87];dsimp only[δ,ε,ζ,η,θ,ι,κ,ο,ρ,ς,υ,χ,ψ,Γ,Δ];refine aw λm1 d1 o0 I0=>?_;refine aw λm2 h1 p0 q0=>?_;refine aw λm3 i1 r0 i0=>?_;have s0:Ext m m3:=⟨by omega,by grind⟩
 have g1:m3.get m.n=.cells (u.c w) 60 none:=by rw[i0 _ (by omega),q0 _ (by omega)];exact o0
 have g2:m3.get m1.n=.cells (jo p q) 143 none:=by rw[i0 _ (by omega)];exact p0
 have g3:m3.get m2.n=.cells (Fc.c ⟨0,0⟩) 53 none:=r0;have hn:m.n<m1.n/\m1.n<m2.n/\m2.n<m3.n:=by omega
 clear o0 I0 p0 q0 r0 i0;unfold ptrTo;simp only[bz,bD,wC,wB,ae];rw[(kz g1).2.2.2.1,ae,(hw.aE s0).len cA,az];obtain⟨ok,u0⟩:∃f:Nat->Bool,f=λi=> !Nz (gj u.shape i) (Lb u.shape i) p && !Nz (gj u.shape i) (Lb u.shape i) q:=⟨_,rfl⟩
 have b0:Ae u p q=match(List.range u.shape.length).find? ok with|some i=>⟨u.id,i⟩|none=>⟨u.id,0⟩:=by rw[u0];rfl
 refine Lp.intro (γ:=Nat) (λi=>u.shape.length-i) (λi vs mm lo=>vs=[YR i]/\i<=u.shape.length/\m.n<=lo/\Ext m3 mm/\∀j,j<i->ok j=false) 0 ⟨rfl,ZE _,Ox _,.refl,λj hj=>by omega⟩ ?_;rintro i vs mm lo ⟨rfl,hi,j1,a0,v0⟩;have y0:=hw.aE (s0.trans a0);have nm:=a0.n;rw[aB,aM,ae,aj];refine an (λc=>?_) (λc=>?_)
 ·have z0:i<u.shape.length:=by grind
  have⟨pa,e1,e2⟩:=y0.dX (k:=.i64) (Is z0);rw[e1,ae,e2,ae];refine aw λm16 J0 A0 K0=>?_;refine aC dd A0 rfl rfl rfl λm17 L0 B0 N0=>?_;have ga:m17.get mm.n=.cells (gj u.shape i).c 141 none:=B0;have j0:Ext mm m17:=⟨by omega,by grind⟩
  have O0:mm.n<m17.n:=by omega
  have g0:=y0.aE j0;have⟨pb,e3,e4⟩:=g0.dX (k:=.i64) (QT z0);rw[(kz (j0.cells (a0.cells g1))).2.2.2.1,ae,aP,ae,wrap64,ae,g0.len cA,az,show(i:Int)+1=((i+1:Nat):Int) by omega,sB (by omega),ae,e3,ae,e4,ae];refine aw λk1 P0 C0 a1=>?_;refine aC dd C0 rfl rfl rfl λe0 b1 D0 c1=>?_;have gb:e0.get m17.n=.cells (Lb u.shape i).c 141 none:=D0;have k0:Ext m17 e0:=⟨by omega,λc hc=>by grind⟩
  have H:=a0.trans (j0.trans k0);have n29:=k0.n;have E0:=λz=>TL (m:=e0) (p:=z) hX (k0.cells ga) gb;refine aZ (λvs ma lo=>vs=[.bool (ok i)]/\e0=ma/\m.n<=lo) (λQ hQ=>?_) ?_;·rw[(smf (H.cells g2)).1,ae];refine aG (E0 p) ?_;rw[u0]at hQ;rw[bk,ae,aj];refine an (λd=>?_) (λd=>hQ _ _ _ ⟨by grind,rfl,by omega⟩);rw[(smf (H.cells g2)).2,ae];refine aG (E0 q) ?_;rw[bk,ae];exact hQ _ _ _ ⟨by grind,rfl,by omega⟩
  rintro _ _ fO ⟨rfl,rfl,F0⟩;rw[aB,aj];refine an (λd=>?_) (λd=>?_)
  ·rw[(kz (H.cells g1)).1,ae,zo,ae];refine aC qI (H.cells g3) rfl rfl rfl λl0 G0 d0 H0=>?_;have n0:l0.get m2.n=.cells (Fc.c ⟨u.id,i⟩) 53 none:=d0;rw[(qq n0).2.2,ae];refine⟨?_,by omega⟩;rw[b0,tj (l:=List.range u.shape.length) (i:=i) (x:=i) (by grind) d λj y hj hy=>?_];·rfl
   rw[Ks (by omega)]at hy;cases hy;exact v0 j hj
  rw[ae];refine⟨i+1,by omega,rfl,by omega,F0,H,λj hj=>?_⟩;by_cases e:j=i;·rw[e];exact d
  exact v0 j (by omega)
 obtain rfl:i=u.shape.length:=by have:¬(i:Int)< (u.shape.length:Int):=Ja c;omega
 rw[(kz (a0.cells g1)).1,ae,show aJ TE 53 [(0,YR u.id)]=some (Fc.v ⟨u.id,0⟩)from Gu rfl,ae];refine aC qI (a0.cells g3) rfl rfl rfl λl0 G0 d0 H0=>?_;have n0:l0.get m2.n=.cells (Fc.c ⟨u.id,0⟩) 53 none:=d0;rw[(qq n0).2.2,ae];refine⟨?_,by omega⟩;rw[b0,Fl.2 λj hj=>by grind];rfl
structure zu(X:aK)(sf:List Fc->List Fc):Prop extends R3 X where
 perm:∀l,(sf l).Perm l
 fc:∀(m:M) (n1:Nat) (l:List Fc) (v:Φ),n1<=m.n->Ow n1 m l v->l.length<=1000->∃m' b,C X (.func 33) [v,.func (.func 34) #[] #[]] m b (.tuple #[]) m'/\Ow n1 m' (sf l) v/\n1<=b/\m'.n=m.n/\∀c,(∀a n k,v=.slice (some a) n k->c≠a.block)->m'.get c=m.get c
theorem Nl{n1:Nat}{l:List Fc}{v:Φ}(h:Ow n1 m l v){c:Nat}(H:c<n1):∀a n k,v=.slice (some a) n k->c≠a.block:=by
 intro a n k e;rcases h with⟨rfl,_⟩|⟨b,cs,rfl,_,h3,_⟩;·cases e
 ·grind
theorem yS{u:Un}(h:jD u):(nK u).length<=10:=by
 have:=jc h;unfold nK;grind
theorem Th{x y:Fc}:aF TE m 35 2 [(0,x.v),(1,y.v)]=some (.slice (some ⟨m.n,0,none⟩) 2 2,m.push (.cells (x.c++y.c) 53 none)):=by kernel_rfl
theorem Tt{x y:Fc}{b:Nat}{g:Option Nat}(h:m.get b=.cells (x.c++y.c) 53 g):Sl m [x,y] (KI b 0 2 2):=
 .inr ⟨b,0,2,_,g,rfl,h,Ox _,λi z hi=>by
  match i with
  |0=>cases hi;rfl
  |1=>cases hi;rfl
  |i+2=>simp at hi⟩
theorem Ie{b:Nat}{x:Ct}{g:Option Nat}(h:m.get b=.cells x.c' 145 g):ah TE m 143 (Ga b (0+2))=some (.agg (jo x.p x.q).toArray):=by rw[mW,aQ (n:=4) h (by simp_all)];rfl
set_option maxHeartbeats 1000000 in
theorem tz(hX:cd X){sf:List Fc->List Fc}(hS:zu X sf){y:Yd}{r r2 st rc mo:Φ}{t:Tk}{w:Φ}(hV:lR m y r r2 st rc mo)(hP:qG y)(hw:one w=true):
  ∃v m',C X (.func 37) [yv r r2 st rc mo,t.v w] m m.n v m'/\Ext m m'/\Sl m' (lI sf y.us t) v/\∀a n k,v=.slice (some a) n k->m.n<=a.block:=by
 refine Cl.EL hX (Kg func37) ?_;have G0:=hV.dS;obtain⟨⟨l,k0,hF⟩, -⟩:=hV;have H0:cq (bM l):=by rw[k0];exact hP.qE
 have N1:l.length<=12:=by have:=hP.qE.len;rwa[<-k0,cx]at this
 have H:∀R:Bt->M->Nat->Prop,(∀(l:List Fc) (v:Φ) (m':M) (lo:Nat),m.n<=lo->Ext m m'->Sl m' l v->lI sf y.us t=l->(∀a n k,v=.slice (some a) n k->m.n<=a.block)->R [v] m' lo)->dk TE (aL TE X) f37 [yv r r2 st rc mo,t.v w] m R:=by
  intro R hR;rw[F37];dsimp only[δ,ε,η,θ,ι,ν,ξ,ο,ρ,ς,υ,χ,ψ,Δ,Θ,Λ,ω];refine aw λm1 z2 I0 B1=>?_;refine aw λm2 A2 J0 K0=>?_;have L0:Ext m m2:=⟨by omega,by grind⟩
  have g1:m2.get m.n=.cells (yc r r2 st rc mo) 38 none:=by rw[K0 _ (by omega)];exact I0
  have g2:m2.get m1.n=.cells (t.c w) 62 none:=J0;clear I0 B1 J0 K0;unfold ptrTo;simp only[cn,bZ,cE,cD,adB,ae];rw[(dW g1).2.2.2.2,ae,(nq g2).2.1,ae];obtain⟨rv,m7,c7,x7,f7⟩:=yX (m:=m2) hX (hF.aE L0) (by omega) G0 t.id;refine aG c7 ?_;obtain⟨u,wu,b,rfl,fu⟩:=f7.SP H0;have n7:=x7.n;rw[aH,aH];simp only[zi,F9,ae];refine aw λm11 O1 o0 N0=>?_;refine aC dm o0 rfl rfl (Un.cH fu.sl.one) λm12 P1 p0 O0=>?_;have gu:m12.get m7.n=.cells (u.c wu) 60 none:=p0;have q0:Ext m7 m12:=⟨by omega,by grind⟩
  have B0:=x7.trans q0;have T1:m7.n < m12.n:=by omega
  have b0:=L0.trans B0;have d0:=fu.aE q0;rw[k0]at d0;clear o0 N0 p0 O0;rw[bk,ae,aj];refine an (λc=>?_) (λc=>?_)
  ·rw[Jd]at c;subst c;exact hR [] _ _ _ (by omega) b0 .nil (by unfold lI;rw[d0.eq];rfl) (λa n k e=>by cases e)
  rw[Q0]at c;subst c;have P0:ck y.us t.id=some u:=d0.eq;have b1:jD u=true:=hP.qE.val u (fX P0).1;have B2:=yS b1;have c2:=jc b1;obtain⟨D,hD⟩:∃D,D=lI sf y.us t:=⟨_,rfl⟩
  rw[<-hD]at hR;unfold lI at hD;rw[P0]at hD;simp only[]at hD;obtain⟨a0,a1,a2,a3, -⟩:=nq (B0.cells g2);refine aZ (λvs mm lo=>vs=[YM]/\m.n<=lo/\Ext m mm/\D=[]) (λQ hQ=>?_) ?_
  ·rw[a0,ae,aS,ae,aj];refine an (λk4=>?_) (λk4=>?_)
   ·rw[Tf (NT k4)]at hD;rw[bU gu,ae];have⟨m24,v,C1,C0,c1⟩:=Ek (m:=m12) hX d0.sl d0.ln;refine aG C1 ?_;obtain⟨C2,D2,D1,d1,hb,d2,e1⟩:=hS.fc m24 m12.n (nK u) v C0.n c1 (by omega);refine aG D1 ?_;have n24:=C0.n;have n12:=b0.n;exact hR _ _ _ _ (by omega) ⟨by omega,λc hc=>by rw[e1 c (Nl c1 (by omega)),C0.get c (by omega),b0.get c hc]⟩ d1.sl hD (λa n k e=>Nat.le_of_not_lt λh=>Nl d1 (by omega) a n k e rfl)
   rw[QL (Ja k4)]at hD;rw[aS,ae,aj];refine an (λk5=>?_) (λk5=>?_)
   ·rw[Tf (NT k5)]at hD;rw[a1,ae,a3,ae,zo,ae];refine aw λE2 e2 i1 i2=>?_;refine aC qI i1 rfl rfl rfl λD0 j2 j1 k2=>?_;have k1:D0.get m12.n=.cells (Fc.c ⟨t.id,t.side⟩) 53 none:=j1;have l0:Ext m12 D0:=⟨by omega,by grind⟩
    have n36:=l0.n;have n12:=b0.n;rw[bU (l0.cells gu),ae];have⟨F2,v,E1,n0,F1⟩:=Ek (m:=D0) hX (d0.sl.aE l0) d0.ln;refine aG E1 ⟨Ox _,?_⟩;have n40:=n0.n;rw[(qq (n0.cells k1)).2.2,ae];refine aG (ji hX F1.sl (by omega) ⟨t.id,t.side⟩) ?_;rw[aj];have r0:=b0.trans (l0.trans n0);refine an (λc=>?_) (λc=>?_)
    ·rw[Tf (NT c)]at hD;rw[(qq (n0.cells k1)).2.2,ae,BG (x:=⟨t.id,t.side⟩),az];exact hR _ _ _ _ (by omega) r0.push (gU (x:=(⟨t.id,t.side⟩:Fc)) M.aX rfl) hD (by grind)
    rw[QL (Ja c)]at hD;exact hQ _ _ _ ⟨rfl,by omega,r0,hD⟩
   rw[QL (Ja k5)]at hD;rw[aS,ae,aj];have n12:=b0.n;refine an (λk9=>?_) (λk9=>hQ _ _ _ ⟨rfl,by omega,b0,by grind⟩);rw[Tf (NT k9)]at hD;rw[(dW (B0.cells g1)).2.2.2.2,ae,a2,ae];obtain⟨rv,E0,G1,l1,f54⟩:=yX (m:=m12) hX (hF.aE b0) (by omega) G0 t.other;refine aG G1 ?_;obtain⟨u2,H1,b2,rfl,o1⟩:=f54.SP H0;have G2:=l1.n;rw[aH,aH];simp only[zi,F9,ae];refine aw λH2 l2 s0 p1=>?_;refine aC dm s0 rfl rfl (Un.cH o1.sl.one) λi0 o2 u0 r1=>?_;have gv:i0.get E0.n=.cells (u2.c H1) 60 none:=u0;have v0:Ext E0 i0:=⟨by omega,by grind⟩
   have j0:=l1.trans v0;have v2:E0.n < i0.n:=by omega
   have e0:=o1.aE v0;rw[k0]at e0;clear s0 p1 u0 r1;rw[bU (j0.cells gu),ae,bU gv,ae];refine aG (Iy hX hS.toR3 (d0.sl.aE j0) e0.sl (by omega) e0.ln) ?_;rw[aH,aH];simp only[zi,F9,ae];refine aw λI2 w2 y0 u1=>?_;refine aC oY y0 (by rw[aT];exact eQ _) (by rw[aT];exact eQ _) (by rw[aT];exact nP _) λF0 y2 z0 v1=>?_;have gc:F0.get i0.n=.cells (CN (jE u u2)) 145 none:=z0;have g0:Ext i0 F0:=⟨by omega,by grind⟩
   have n69:=g0.n;clear y0 u1 z0 v1;have A0:=b0.trans (j0.trans g0);refine aZ (λvs mm lo=>vs=[.bool (b2 && (jE u u2).isSome)]/\F0=mm/\m.n<=lo) (λQ2 w1=>?_) ?_
   ·rw[aj];exact an (λc=>w1 _ _ _ ⟨by grind,rfl,by omega⟩) (λc=>w1 _ _ _ ⟨by grind,rfl,by omega⟩)
   rintro _ _ fO ⟨rfl,rfl,y1⟩;rw[aB,aj];rw[e0.eq]at hD;refine an (λc=>?_) (λc=>hQ _ _ _ ⟨rfl,y1,A0,?_⟩)
   ·rw[JJ]at c;obtain⟨rfl,c⟩:=c;have⟨ct,I1⟩:=RZ.1 c;rw[I1]at gc;have hD:D=[Ae u ct.p ct.q,Ae u2 ct.p ct.q]:=by grind
    have z1:=g0.cells (j0.cells gu);have A1:=g0.cells gv;rw[bU z1,ae,Ie gc,ae];refine aG (Em hX ((d0.sl.aE j0).aE g0) (by omega) ct.p ct.q) ⟨Ox _,?_⟩;rw[bU A1,ae,Ie gc,ae];refine aG (Em hX (e0.sl.aE g0) e0.ln ct.p ct.q) ?_;rw[Th,az];exact hR _ _ _ _ (by omega) A0.push (Tt M.aX) hD (by grind)
   cases b2;·exact hD
   rw[ZD]at c
   have J1:jE u u2=none:=by
    cases e:jE u u2 with
    |none=>rfl
    |some x=>rw[e]at c;cases c
   rw[hD,Tf rfl];simp only[J1]
  rintro _ mm lo ⟨rfl,h1,h2,h3⟩;rw[aB];exact hR _ _ _ _ h1 h2 .nil h3 (λa n k e=>by cases e)
 refine H _ λl v m' lo K1 hx hs hl L1=>?_;show(bA v=true/\m.n<=lo/\(m.n=m.n/\Ext m m/\Sl m _ v/\_))\/((bA v=false\/lo < m.n)/\(min m.n lo=m.n/\Ext m m'/\Sl m' _ v/\_));rw[hl];rcases hs with⟨rfl,e⟩ |⟨b,o,c,bc,g,rfl,hr⟩;·exact .inl ⟨rfl,K1,rfl,.refl,by rw[e];exact .nil,λa n k e=>by cases e⟩
 exact .inr ⟨.inl rfl,by omega,hx,.inr ⟨b,o,c,bc,g,rfl,hr⟩,L1⟩
theorem MT(hX:cd X){s:jk}{r r2 st rc mo tv pv qv:Φ}{sb ob:Nat}(hS:EN s)(hV:oQ m s r r2 st rc mo tv pv qv)(gs:m.get sb=.cells (scc r r2 st rc mo tv pv qv) 43 none)(go:m.get ob=.cells [YR (s.ts.length:Int),pv] 75 none)
  {k i:Nat} (hk:k<s.ts.length) (hi:i<s.ts.length) (f:Fc):C X (.func 76) [YR k,YR i,f.v,Ga sb 0,Ga ob 0] m m.n (.bool (pj s (vN s) i f k)) m:=by
 refine Cl.fG hX (Kg func76) ?_;rw[F76];dsimp only[δ,ε,ζ,η,ι,ρ,ς,υ,χ,ψ,ω];refine aw λm1 l0 a0 d0=>?_;have x1:Ext m m1:=⟨by omega,d0⟩
 have gf:m1.get m.n=.cells f.c 53 none:=a0;have⟨l,hl,hs,n0⟩:=(hV.aE x1).ts;have o0:l.length=s.ts.length:=by grind
 obtain⟨x,hx⟩:∃x,l[k]?=some x:=⟨_,qp⟩
 have e0:s.ts[k]?=some x.t:=by grind
 have⟨a,cs,e1,e2,e3⟩:=hs.index cV (k:=.i64) hx;obtain⟨rfl,g0⟩:cs=x.c/\one x.w:=e3;have e2:ah TE m1 62 a=some (x.t.v x.w):=e2;unfold ptrTo;rw[cX,ae,(fK (x1.cells gs)).2.1,ae,e1,ae,e2,ae];refine aw λm6 p0 i0 q0=>?_;refine aC mF i0 rfl rfl (Tk.cH g0) λm7 r0 j0 s0=>?_;have g7:m7.get m1.n=.cells (x.t.c x.w) 62 none:=j0;have x7:Ext m1 m7:=⟨by omega,by grind⟩
 have n7:=x7.n;obtain⟨b0,b1, -,b3, -⟩:=nq g7;obtain⟨f0,f1, -⟩:=qq (x7.cells gf);have H:pj s (vN s) i f k=(yd x.t f && iK (vN s) i k):=by unfold pj;rw[e0]
 rw[H];refine aZ (λvs mm lo=>vs=[.bool (yd x.t f && iK (vN s) i k)]/\m.n<=lo) (λQ hQ=>?_) ?_;·unfold yd at hQ;rw[cn,ae,b0,ae,aS,ae,aj];refine an (λc1=>?_) (λc1=>hQ _ _ _ ⟨by grind,by omega⟩);rw[bZ,ae,b1,ae,cW,ae,f0,ae,aS,ae,aj];refine an (λc2=>?_) (λc2=>hQ _ _ _ ⟨by grind,by omega⟩);rw[cD,ae,b3,ae,dj,ae,f1,ae,aS,ae,aj];refine an (λc3=>?_) (λc3=>hQ _ _ _ ⟨by grind,by omega⟩);rw[(EI (x7.cells (x1.cells go))).2.2,ae];refine aG (FJ hX (NB hS) (((hV.aE x1).aE x7).ps) hk hi) ?_;exact hQ _ _ _ ⟨by rw[c1,c2,c3];rfl,by omega⟩
 rintro _ mm lo ⟨rfl,k0⟩;rw[aB];exact⟨rfl,k0⟩
abbrev Ls.c(x:Ls):Bt:=[.int .i64 x.task,.int .i64 x.f.un,.int .i64 x.f.side,.int .i64 x.q]
abbrev Ls.v(x:Ls):Φ:=.agg (x.c).toArray
abbrev WC(l:List Ls):List (Bt):=l.map λx=> [x.v]
abbrev MU(H ob:Nat):Φ:=.func (.func 76) #[] #[.pointer (some ⟨H,0,none⟩),.pointer (some ⟨ob,0,none⟩)]
theorem Xd{b:Nat}{v:Φ}{g:Option Nat}(h:m.get b=.cells [v] 155 g):ah TE m 155 (Ga b 0)=some v:=by rw[NO,aI h];rfl
theorem Tw{b:Nat}{r r2 st rc mo tv pv qv:Φ}{g:Option Nat}(h:m.get b=.cells (scc r r2 st rc mo tv pv qv) 43 g):ah TE m 35 (Ga b (0+0+3))=some rc:=by rw[nG,aI h];rfl
structure R9(s:jk)(r r2 st rc mo tv pv qv:Φ)(sb vb ob:Nat)(m:M):Prop where
 sc:m.get sb=.cells (scc r r2 st rc mo tv pv qv) 43 none
 vf:m.get vb=.cells [MU sb ob] 155 none
 od:m.get ob=.cells [.int .i64 (s.ts.length:Int),pv] 75 none
 V:oQ m s r r2 st rc mo tv pv qv
def rA(s:jk)(i:Nat)(f:Fc)(q:Nat):Option Ls:=match s.qs[q]? with
 |some x=>if f∈x.lg then some ⟨i,f,q⟩else none
 |none=>none
theorem NG{s:jk}{i:Nat}{f:Fc}:yw s i f=(List.range s.qs.length).filterMap (rA s i f):=rfl
abbrev Ay(s:jk)(i:Nat)(f:Fc):List Ls:=if xT s (vN s) i f=true then []else yw s i f
theorem yZ{n i:Nat}(h:i<n):(List.range n).drop i=i::(List.range n).drop (i+1):=by rw[JK (by grind),List.getElem_range]
theorem Wj{i:Int}{f:Fc}{q:Int}:aJ TE 55 [(0,YR i),(1,f.v),(2,YR q)]=some (Ls.v ⟨i,f,q⟩):=zh rfl rfl rfl
theorem Jm{l:List Fc}{v:Φ}{m':M}(h:Sl m l v)(hk:∀H n k cs g,v=.slice (some H) n k->m.get H.block=.cells cs 53 g->m'.get H.block=m.get H.block):Sl m' l v:=by
 rcases h with h|⟨b,o,c,bc,g,rfl,h2,h3,h4⟩;·exact .inl h
 exact .inr ⟨b,o,c,bc,g,rfl,(hk _ _ _ _ _ rfl h2).trans h2,h3,h4⟩
structure PY(pc:Nat)(m:M):Prop where
 lt:pc < m.n
 row:∀v e g,m.get pc=.cells [v] e g->∀a n k,v=.slice (some a) n k->a.block < m.n
theorem ND{pc c:Nat}{m':M}(H:pc<m.n)(hx:Ext m m')(h:jJ pc m c):jJ pc m' c:=λv e g hv=>h v e g (by rw[<-hx.get pc H];exact hv)
theorem PY.fresh{pc c:Nat}{m':M}(h:PY pc m)(H:Ext m m')(hc:m.n<=c):jJ pc m' c:=λv e g hv a n k ha=>by
 have:=h.row v e g (by rw[<-H.get pc h.lt];exact hv) a n k ha;omega
theorem WY{l:List Fc}{v:Φ}(h:Sl m l v){H:Addr}{n k:Nat}(e:v=.slice (some H) n k):H.block<m.n:=by
 rcases h with⟨rfl, -⟩|⟨b,o,c,bc,g,rfl,h2, -⟩;·cases e
 cases e;exact M.aU h2
def R5(pc n0:Nat)(m:M)(D:List Fc)(v:Φ):Prop:=Sl m D v/\∀H n k,v=.slice (some H) n k->n0<=H.block/\jJ pc m H.block
theorem R5.aE{pc H:Nat}{D:List Fc}{v:Φ}{m':M}(h:R5 pc H m D v)(hp:pc<m.n)(hx:Ext m m'):R5 pc H m' D v:=⟨h.1.aE hx,λad n k e=>⟨(h.2 ad n k e).1,ND hp hx (h.2 ad n k e).2⟩⟩
theorem R5.yield{pc n0:Nat}{D:List Fc}{v:Φ}{m':M}(h:R5 pc n0 m D v)(hf:∀c,n0<=c->c<m.n->jJ pc m c->m'.get c=m.get c/\jJ pc m' c):R5 pc n0 m' D v:=
 ⟨Jm h.1 λH n k cs g e hg=>(hf _ (h.2 H n k e).1 (M.aU hg) (h.2 H n k e).2).1,λH n k e=>⟨(h.2 H n k e).1,(hf _ (h.2 H n k e).1 (WY h.1 e) (h.2 H n k e).2).2⟩⟩
theorem uU{X:aK}{sf:List Fc->List Fc}(H:zu X sf){us:List Un}(hP:cq us)(t:Tk):(lI sf us t).length<=10:=by
 unfold lI;cases h:ck us t.id with
 |none=>simp
 |some u=>
  have hu:=yS (hP.val u (fX h).1);simp only[];split;·rw[(H.perm _).length_eq];exact hu
  grind
set_option maxHeartbeats 2000000 in
theorem yy(hX:cd X){sf:List Fc->List Fc}(hS:zu X sf){s:jk}{r r2 st rc mo tv pv qv:Φ}{sb vb ob:Nat}(hP:EN s){pc:Nat}:
  Sa TE X (.own pc) (.func 77) [] [ptrTo sb,ptrTo vb] (WC (dM sf s)) (λm=>R9 s r r2 st rc mo tv pv qv sb vb ob m/\PY pc m):=by
 intro y n0 B I J m hD hI hJ hy K1 hB r0 h0;have N2:=hP.tl;have O2:=hP.ql;have u2:=hP.y.Ss;have key:=Cl.FU (E:=TE) (X:=X) (f:=77) (args:=[.func (.yield y) #[] #[],ptrTo sb,ptrTo vb]) (m:=m) (R:=λv m2 b=>B<=b/\(I (WC (dM sf s)).length m2\/J m2)) (hX.no _ rfl) (Kg func77) rfl ?_
 ·have⟨v,m',b,s0,h⟩:=key;exact⟨v,m',b,s0,h⟩
 rw[F77];dsimp only[δ,ε,ζ,η,θ,ι,κ,ο,ς,υ,χ,ψ,Γ,ω];unfold ptrTo;simp only[dE,cX,eU,dF,eT,ae]
 have i0:∀{ma:M},R9 s r r2 st rc mo tv pv qv sb vb ob ma->∃l:List TW,l.map TW.t=s.ts/\Sl ma l tv/\zt ma l/\l.length=s.ts.length:=λh=>by
  have⟨l,h1,h2,h3⟩:=h.V.ts
  grind
 have d0:=(hD _ _ h0).1;obtain⟨l0, -,L1, -,N1⟩:=i0 d0;rw[(fK d0.sc).2.1,ae,L1.len cV,N1,az]
 refine Lp.intro (γ:=Nat) (λi=>s.ts.length-i) (λi vs m1 lo=>∃P,vs=[.int .i64 i]/\i<=s.ts.length/\dM sf s=P++((List.range s.ts.length).drop i).flatMap (pB sf s (vN s))/\I P.length m1/\n0<=m1.n/\m.n<=m1.n/\B<=lo/\((lo=m.n/\P=[])\/lo < m.n)) 0
  ⟨[],rfl,ZE _,rfl,h0,K1,Ox _,by omega,.inl ⟨rfl,rfl⟩⟩ ?_
 rintro i vs m1 P2 ⟨P,rfl,hi,a0,u0,Q2,v2,T2,H⟩;rw[aB,aM,ae,aj];refine an (λH0=>?_) (λa3=>?_)
 ·have H0:i < s.ts.length:=by grind
  have d1:=(hD _ _ u0).1;have⟨l,C0,v0,j1,I0⟩:=i0 d1;obtain⟨x,hx⟩:∃x,l[i]?=some x:=⟨_,qp⟩
  have O1:s.ts[i]?=some x.t:=by grind
  have⟨a,cs,e1,e2,e3⟩:=v0.index cV (k:=.i64) hx;obtain⟨rfl,k1⟩:cs=x.c/\one x.w=true:=e3;have e2:ah TE m1 62 a=some (x.t.v x.w):=e2;rw[e1,ae,e2,ae];refine aw λm13 w2 l1 y2=>?_;refine aC mF l1 rfl rfl (Tk.cH k1) λm14 z2 o1 A2=>?_;have g14:m14.get m1.n=.cells (x.t.c x.w) 62 none:=o1;have p1:Ext m1 m14:=⟨by omega,by grind⟩
  have n14:=p1.n;have j0:=hI _ _ _ u0 p1;have d14:=(hD _ _ j0).1;rw[(fK d14.sc).1,ae,gI g14,ae];have⟨J0,m20,P1,K0,L0,r1⟩:=tz (m:=m14) (t:=x.t) hX hS d14.V.y hP.y k1;refine aG P1 ?_;have n20:=K0.n;have D0:=hI _ _ _ j0 K0;obtain⟨D,N0⟩:∃D,D=lI sf s.y.us x.t:=⟨_,rfl⟩
  rw[<-N0]at L0;have c3:D.length<=10:=by rw[N0];exact uU hS hP.y.qE x.t
  rw[L0.len dA,az];have u1:=a0;rw[yZ H0,Fw,show pB sf s (vN s) i=D.flatMap (Ay s i) by unfold pB;rw[O1,N0]]at u1
  refine Lp.intro (γ:=Nat) (λj=>D.length-j) (λj vs m2 lo=>∃P,vs=[.int .i64 j]/\j<=D.length/\dM sf s=P++((D.drop j).flatMap (Ay s i)++((List.range s.ts.length).drop (i+1)).flatMap (pB sf s (vN s)))/\I P.length m2/\m20.n<=m2.n/\R5 pc n0 m2 D J0/\B<=lo/\((lo=m.n/\P=[])\/lo < m.n)) 0
   ⟨P,rfl,ZE _,by grind,D0,Ox _,⟨L0,λad n k e=>⟨by have:=r1 ad n k e;omega,(hD _ _ j0).2.fresh K0 (r1 ad n k e)⟩⟩,by omega,H.elim (λh=> .inl ⟨by omega,h.2⟩) (λh=> .inr (by omega))⟩ ?_
  clear a0 u1 H u0 D0 d1 v0 j1 C0 I0;rintro j vs m2 fO ⟨P,rfl,hj,a0,y0,d3,s2,v1,H⟩;rw[aB,aM,ae,aj];refine an (λk0=>?_) (λB2=>?_)
  ·have k0:j < D.length:=by grind
   obtain⟨f,hf⟩:∃f,D[j]?=some f:=⟨_,Fx k0⟩
   have⟨p,f1,f2⟩:=lZ s2.1 hf;rw[f1,ae,f2,ae];refine aw λm32 C2 w1 D2=>?_;refine aC qI w1 rfl rfl rfl λe0 E2 y1 F2=>?_;have z0:e0.get m2.n=.cells f.c 53 none:=y1;have O0:Ext m2 e0:=⟨by omega,by grind⟩
   have o0:=hI _ _ _ y0 O0;have d33:=(hD _ _ o0).1;have z1:=s2.aE (hD _ _ y0).2.lt O0;have T1:=(hD _ _ y0).2.fresh O0 (Ox _);have G2:m2.n < e0.n:=by omega
   rw[Tw d33.sc,ae,(qq z0).2.2,ae];refine aG (ji hX d33.V.y.rc (by omega) f) ?_;have⟨l,C0,v0,j1,I0⟩:=i0 d33;rw[(fK d33.sc).2.1,ae,v0.len cV,I0,az];refine Lp.intro (γ:=Nat) (λk=>s.ts.length-k) (λk vs m3 lo=>vs=[.bool (decide (f∈s.y.rc) ||(List.range k).any (pj s (vN s) i f)),.int .i64 k]/\k<=s.ts.length/\e0=m3/\B<=lo/\((lo=m.n/\P=[])\/lo < m.n)) 0 ⟨by simp,ZE _,rfl,by omega,H.elim (λh=> .inl ⟨by omega,h.2⟩) (λh=> .inr (by omega))⟩ ?_;clear H;rintro k vs _ g3 ⟨rfl,hk,rfl,E0,H⟩;rw[aB,aB,aM,ae,aj];refine an (λF0=>?_) (λH2=>?_)
   ·have F0:k < s.ts.length:=by grind
    have i3:(decide (f∈s.y.rc) ||(List.range (k+1)).any (pj s (vN s) i f))=((decide (f∈s.y.rc) ||(List.range k).any (pj s (vN s) i f)) ||pj s (vN s) i f k):=by
     grind
    rw[aj];refine an (λhs=>?_) (λhs=>?_)
    ·rw[aP,ae,wrap64];exact⟨k+1,by omega,by grind,by omega,rfl,E0,H⟩
    rw[Xd d33.vf,ae,(qq z0).2.2,ae,cg];refine aG (MT hX hP d33.V d33.sc d33.od F0 H0 f) ?_;rw[aP,ae,wrap64];exact⟨k+1,by omega,by grind,by omega,rfl,by omega,H.elim (λh=> .inl ⟨by omega,h.2⟩) (λh=> .inr (by omega))⟩
   obtain rfl:k=s.ts.length:=by
    grind
   obtain⟨S,A1⟩:∃S,S=xT s (vN s) i f:=⟨_,rfl⟩
   rw[show(decide (f∈s.y.rc) ||(List.range s.ts.length).any (pj s (vN s) i f))=S from A1.symm];have⟨ql,B1,A0,P0⟩:=d33.V.qs;have C1:ql.length=s.qs.length:=by grind
   rw[(fK d33.sc).2.2.2.1,ae,A0.len kQ,C1,az];have B0:=a0;rw[JK k0,(OJ.1 hf).2,Fw,WO]at B0;have D1:Ay s i f=if S=true then []else((List.range s.qs.length).drop 0).filterMap (rA s i f):=by unfold Ay;rw[<-A1];rfl
   rw[D1]at B0;refine Lp.intro (γ:=Nat) (λq=>s.qs.length-q) (λq vs m4 lo=>∃P,vs=[.int .i64 q]/\q<=s.qs.length/\dM sf s=P++((if S=true then []else((List.range s.qs.length).drop q).filterMap (rA s i f))++((D.drop (j+1)).flatMap (Ay s i)++((List.range s.ts.length).drop (i+1)).flatMap (pB sf s (vN s))))/\I P.length m4/\e0.n<=m4.n/\R5 pc n0 m4 D J0/\(m4.get m2.n=.cells f.c 53 none/\jJ pc m4 m2.n)/\B<=lo/\((lo=m.n/\P=[])\/lo < m.n)) 0 ⟨P,rfl,ZE _,B0,o0,Ox _,z1,⟨z0,T1⟩,E0,H⟩ ?_;clear a0 B0 D1 H A0 P0 B1 d33 o0 z1 z0;rintro q vs m4 j3 ⟨P,rfl,hq,a0,p0,k3,s4,g4,E1,H⟩;have d4:=(hD _ _ p0).1;have⟨ql,B1,A0,P0⟩:=d4.V.qs;have C1:ql.length=s.qs.length:=by grind
   rw[aB,aM,ae,aj];refine an (λG0=>?_) (λI2=>?_)
   ·have G0:q < s.qs.length:=by grind
    obtain⟨x',F1⟩:∃x,ql[q]?=some x:=⟨_,qp⟩
    have a2:s.qs[q]?=some x'.q:=by grind
    have⟨a',c2,q1,q2,q3⟩:=A0.index kQ (k:=.i64) F1;obtain⟨rfl,d2⟩:c2=x'.c/\one x'.w=true:=q3;have q2:ah TE m4 79 a'=some x'.v:=q2;have⟨g2,i2⟩:=P0 x' (LZ F1);have l3:=i2.len;rw[q1,ae,q2,ae];refine aw λn3 J2 G1 K2=>?_;refine aC LF G1 rfl rfl (by show(true && (one x'.w && true))=true;rw[d2];rfl) λa1 L2 H1 M2=>?_;have j2:a1.get m4.n=.cells x'.c 79 none:=H1;have g0:Ext m4 a1:=⟨by omega,by grind⟩
    have o3:=g0.n;have q0:=hI _ _ _ p0 g0;have b0:=g0.cells g4.1;have c1:=ND (hD _ _ p0).2.lt g0 g4.2;have g1:=s4.aE (hD _ _ p0).2.lt g0;have i1:rA s i f q=if f∈x'.q.lg then some ⟨i,f,q⟩else none:=by unfold rA;rw[a2]
    rw[yZ G0,ZQ,i1]at a0;refine aZ (λvs m5 lo=>∃stop:Bool,vs=[.bool stop]/\B<=lo/\(stop=true->J m5/\lo < m.n)/\(stop=false->∃P,dM sf s=P++((if S=true then []else((List.range s.qs.length).drop (q+1)).filterMap (rA s i f))++((D.drop (j+1)).flatMap (Ay s i)++((List.range s.ts.length).drop (i+1)).flatMap (pB sf s (vN s))))/\I P.length m5/\e0.n<=m5.n/\R5 pc n0 m5 D J0/\(m5.get m2.n=.cells f.c 53 none/\jJ pc m5 m2.n)/\((lo=m.n/\P=[])\/lo < m.n))) (λQ hQ=>?_) ?_
    ·rw[bk,ae,aj];refine an (λhs=>?_) (λhs=>hQ _ _ _ ⟨false,rfl,by omega,λh=>(by cases h),λ_=>⟨P,?_,q0,by omega,g1,⟨b0,c1⟩,H.elim (λh=> .inl ⟨by omega,h.2⟩) (λh=> .inr (by omega))⟩⟩)
     ·rw[Jd]at hs;rw[hs,QL (by decide)]at a0;rw[(La j2).2.1,ae,(qq b0).2.2,ae];refine aG (ji hX (g2.aE g0) (by omega) f) ?_;rw[aj];refine an (λhc=>?_) (λhc=>?_)
      ·have hc:=NT hc;rw[Tf hc]at a0;rw[(qq b0).2.2,ae,Wj,ae,cg]
       have k2:(WC (dM sf s))[P.length]?=some [Ls.v ⟨i,f,q⟩]:=by
        grind
       obtain⟨v,m5,b5,s0,r3,u3,I1,J1⟩:=r0 P.length _ a1 (by omega) k2 q0;refine aG s0 ?_;have n5:=s0.1;rcases J1 with⟨rfl,l2⟩ |⟨rfl,o2⟩
       ·rw[bk,ae];refine hQ _ _ _ ⟨false,rfl,by omega,λh=>(by cases h),λ_=>⟨P++ [⟨i,f,q⟩],?_,?_,by omega,g1.yield I1,?_,.inr (by omega)⟩⟩
        ·rw[hs,QL (by decide)];rw[a0];simp only[WO,Ix,Jv,Zi]
        ·rw[NN,List.length_singleton];exact l2
        have h:=I1 m2.n (by omega) (by omega) c1;exact⟨h.1.trans b0,h.2⟩
       rw[bk,ae];exact hQ _ _ _ ⟨true,rfl,by omega,λ_=>⟨o2,by omega⟩,λh=>(by cases h)⟩
      rw[QL (Ja hc)]at a0;exact hQ _ _ _ ⟨false,rfl,by omega,λh=>(by cases h),λ_=>⟨P,by grind,q0,by omega,g1,⟨b0,c1⟩,H.elim (λh=> .inl ⟨by omega,h.2⟩) (λh=> .inr (by omega))⟩⟩
     rw[Q0]at hs;rw[hs,Tf rfl]at a0⊢;exact a0
    rintro _ m5 v3 ⟨stop,rfl,h1,h2,h3⟩;rw[aB,aj];refine an (λhs=>?_) (λhs=>?_)
    ·have⟨h4,h5⟩:=h2 hs;exact .inr ⟨.inr h5,by omega,.inr h4⟩
    have⟨P',b1,b2,b3,b4,b5,b6⟩:=h3 hs;rw[aP,ae,wrap64];exact⟨q+1,by omega,P',rfl,by omega,b1,b2,b3,b4,b5,h1,b6⟩
   obtain rfl:q=s.qs.length:=by
    grind
   rw[Gl (by grind),Z7,ite_self,Zi]at a0;rw[aP,ae,wrap64];exact⟨j+1,by omega,P,rfl,by omega,a0,p0,by omega,s4,E1,H⟩
  obtain rfl:j=D.length:=by
   grind
  rw[GC,List.flatMap_nil,Zi]at a0;rw[aP,ae,wrap64];exact⟨i+1,by omega,P,rfl,by omega,a0,y0,by omega,by omega,v1,H⟩
 obtain rfl:i=s.ts.length:=by
  grind
 rw[Gl (by grind),List.flatMap_nil,Zu]at a0;have hlen:(WC (dM sf s)).length=P.length:=by grind
 rcases H with⟨h1,h2⟩ |h
 ·subst h2;refine .inl ⟨rfl,by omega,by omega,.inl ?_⟩;rw[hlen];exact h0
 refine .inr ⟨.inr h,by omega,.inl ?_⟩;rw[hlen];exact u0
instance:aW Ls where
 ty:=55
 sz:=4
 agg:=true
 cT:=[]
 rep _ x cs:=cs=x.c
 pos:=by decide
 one:=by grind
 len:=by grind
 dS:=by rintro _ _ _ rfl;rfl
 aV:=by grind
theorem Bo:oU TE 45 55 Ls:=⟨ag.t45,ag.t55,by kernel_rfl,⟨_,rfl⟩,rfl,by kernel_rfl,rfl,rfl⟩
theorem Ws:qH TE 45 Ls:=⟨ag.t45,ag.t55,by kernel_rfl,rfl,rfl,by kernel_rfl,by decide,rfl⟩
theorem TK{x:Ls}:aF TE m 45 1 [(0,x.v)]=some (.slice (some ⟨m.n,0,none⟩) 1 1,m.push (.cells x.c 55 none)):=by kernel_rfl
theorem FW{α β:Type}{f:α->List β}{c:Nat}:∀{l:List α},(∀x∈l,(f x).length<=c)->(l.flatMap f).length<=l.length*c
 |[],_=>by simp
 |x::l,h=>by
  have h1:=h x zN;have h2:=FW (l:=l) λy H=>h y (W6 _ H);rw[Fw,NN,zG,Nat.succ_mul];omega
theorem uG{sf:List Fc->List Fc}(hS:zu X sf){s:jk}(H:EN s):(dM sf s).length<=320:=by
 have hq:∀i f,(yw s i f).length<=4:=λi f=>by have:=WR (rA s i f) (List.range s.qs.length);rw[QR]at this;have:=H.ql;rw[NG];omega
 have ht:∀i∈List.range s.ts.length,(pB sf s (vN s) i).length<=40:=λi _=>by
  unfold pB;split
  ·rename_i t _;have h1:=uU hS H.y.qE t;have h2:=FW (l:=lI sf s.y.us t) (f:=λf=>if xT s (vN s) i f=true then []else yw s i f) (c:=4) λf _=>by
    grind
   omega
  simp
 have:=FW ht;rw[QR]at this;have:=H.tl;unfold dM;omega
theorem NV{b:Nat}{v:Φ}{g:Option Nat}(h:m.get b=.cells [v] 45 g):ah TE m 45 (Ga b 0)=some v:=by rw[aer,aI h];rfl
theorem Xf{b:Nat}{x:Ls}{g:Option Nat}(h:m.get b=.cells x.c 55 g):ah TE m 55 (Ga b 0)=some x.v:=by rw[Q7,aQ (n:=4) h (by grind)];rfl
theorem R9.aE{s:jk}{r r2 st rc mo tv pv qv:Φ}{sb vb ob:Nat}{m':M}(h:R9 s r r2 st rc mo tv pv qv sb vb ob m)(H:Ext m m'):R9 s r r2 st rc mo tv pv qv sb vb ob m':=
 ⟨H.cells h.sc,H.cells h.vf,H.cells h.od,h.V.aE H⟩
set_option maxHeartbeats 1000000 in
theorem EB(hX:cd X){sf:List Fc->List Fc}(hS:zu X sf){s:jk}{r r2 st rc mo tv pv qv:Φ}{sb vb ob:Nat}(hP:EN s)(d0:R9 s r r2 st rc mo tv pv qv sb vb ob m):
  ∃v m',C X (.func 75) [YM,.func (.func 77) #[] #[ptrTo sb,ptrTo vb]] m m.n v m'/\Ext m m'/\Sl m' (dM sf s) v:=by
 refine Cl.EL hX (Kg func75) ?_;have hL:=uG hS hP
 have H:∀R:Bt->M->Nat->Prop,(∀(v:Φ) (m':M) (lo:Nat),m.n<=lo->Ext m m'->Sl m' (dM sf s) v->R [v] m' lo)->dk TE (aL TE X) f75 [YM,.func (.func 77) #[] #[ptrTo sb,ptrTo vb]] m R:=by
  intro R hR;rw[F75];dsimp only[δ,ι,κ,ν,ρ,ς,υ,χ,Δ];refine aw λm1 z0 k0 l0=>?_;have x1:Ext m m1:=⟨by omega,l0⟩
  have g1:m1.get m.n=.cells [YM] 45 none:=k0;rw[cg]
  refine⟨_,WC (dM sf s),_,λk m'=>m1.n<=m'.n/\Ext m m'/\∃r,m'.get m.n=.cells [r] 45 none/\Ow (m1.n+1) m' ((dM sf s).take k) r,
   λ_ _=>False,m.n,⟨_,rfl⟩,yy (r:=r) (r2:=r2) (st:=st) (rc:=rc) (mo:=mo) (tv:=tv) (pv:=pv) (qv:=qv) (ob:=ob) (pc:=m.n) hX hS hP,by omega,?_,?_,?_,⟨Ox _,x1,_,g1,.nil⟩,?_,?_,?_⟩
  ·rintro k m' ⟨h1,h2,r',h4,h5⟩;refine⟨d0.aE h2,by omega,λv e g hv a n k ha=>?_⟩;rw[h4]at hv;cases hv;obtain⟨cs,g,hb, -⟩:=eR h5 ha;exact M.aU hb
  ·rintro k m' n0 ⟨h1,h2,r',h4,h5⟩ hk;have A0:=hk.n;refine⟨by omega,⟨by grind,λc hc=>by rw[hk.get c (by omega) (by omega),h2.get c hc]⟩,r',by rw[hk.get _ (by omega) (by omega),h4],yn rfl h5 λa n k e=>?_⟩;have⟨cs,g,hb,o0⟩:=eR h5 e;exact hk.get _ (M.aU hb) (by omega)
  ·rintro e m' n0 h;exact h.elim
  ·rintro k args m3 B0 e0 ⟨h1,h2,r',h4,h5⟩
   obtain⟨x,hx,rfl⟩:∃x,(dM sf s)[k]?=some x/\args=[x.v]:=by rw[Z0]at e0;have⟨x,hx,e⟩:=Tq.1 e0;exact⟨x,hx,e.symm⟩
   rw[aB,wI];refine aw λm7 C0 p0 D0=>?_;unfold ptrTo;refine aC Sj p0 rfl rfl rfl λm8 E0 q0 F0=>?_;have fh:∀c,c < m3.n->m8.get c=m3.get c:=by grind
   refine⟨λc _ hc=>fh c hc,λm10 v0 g0=>?_⟩;dsimp only;have gx:m10.get m3.n=.cells x.c 55 none:=by rw[g0 _ (by omega)];exact q0
   have i0:∀c,c < m3.n->c≠m1.n->m10.get c=m3.get c:=by grind
   have g10:m10.get m.n=.cells [r'] 45 none:=by grind
   have r0:Ow (m1.n+1) m10 ((dM sf s).take k) r':=yn rfl h5 λad n k e=>by have⟨cs,g,hb,o0⟩:=eR h5 e;exact i0 _ (M.aU hb) (by omega)
   have G0:=(OJ.1 hx).1;rw[NV g10,ae,Xf gx,ae];refine yf (T:=45) (x:=x) Ws rfl r0 (by omega) (by grind) TK (λ_=>rfl) λs0 m16 w2 n2 k2 H0 l2 k3 k4=>?_;have g16:m16.get m.n=.cells [r'] 45 none:=by grind
   refine bS abV g16 (by rw[w2.sl.cells];rfl) (by rw[w2.sl.cells];show 0+1<=1;decide) (by rw[w2.sl.cells];simp[w2.sl.one]) λm17 y0 b0 a0=>?_;refine⟨by omega,λc I0 J0=>⟨by omega,λhc=>?_,λu0=>⟨?_,λv e g hv a n k ha=>?_⟩⟩,by omega,⟨by omega,λc hc=>by rw[a0 c (by omega),k2 c (by omega),i0 c (by omega) (by omega),h2.get c hc]⟩,s0,by rw[b0,w2.sl.cells];rfl,?_⟩
   ·rw[a0 c (by omega)];exact k2 _ (by omega)
   ·rw[a0 c (by omega)];exact k3 c (by omega) λa n k e=>u0 r' _ _ h4 a n k e
   ·rw[b0,w2.sl.cells]at hv;cases hv;have:=k4 a n k ha;omega
   rw[Q1,hx];exact w2.om rfl λc h1 h2=>a0 c (by omega)
  ·rintro m2 fO ⟨h1,h2,r',h4,h5⟩ j0;rw[Gv,V9]at h5;unfold ptrTo;rw[NV h4,ae];exact hR _ _ _ (by omega) h2 h5.sl
  rintro e m2 fO _ h;exact h.elim
 refine H _ λv m' lo j0 hx hs=>?_;show(bA v=true/\m.n<=lo/\(m.n=m.n/\Ext m m/\Sl m _ v))\/((bA v=false\/lo < m.n)/\(min m.n lo=m.n/\Ext m m'/\Sl m' _ v));rcases hs with⟨rfl,e⟩ |⟨b,o,c,bc,g,rfl,hr⟩;·exact .inl ⟨rfl,j0,rfl,.refl,by rw[e];exact .nil⟩
 exact .inr ⟨.inl rfl,by omega,hx,.inr ⟨b,o,c,bc,g,rfl,hr⟩⟩
theorem Cq(H:cd X){sf:List Fc->List Fc}(hS:zu X sf){s:jk}{r r2 st rc mo tv pv qv:Φ}{sb vb ob:Nat}(hP:EN s)(d0:R9 s r r2 st rc mo tv pv qv sb vb ob m):
  ∃v m',C X (.func 31) [.func (.func 77) #[] #[ptrTo sb,ptrTo vb]] m m.n v m'/\Ext m m'/\Sl m' (dM sf s) v:=by
 refine Cl.EL H (Kg func31) ?_;rw[F31];dsimp only[ψ];have⟨v,m2,c2,x2,s2⟩:=EB H hS hP d0;refine aG c2 ?_;rcases s2 with⟨rfl,e⟩|⟨b,o,c,bc,g,rfl,hr⟩;·exact .inl ⟨rfl,by omega,by grind,.refl,by rw[e];exact .nil⟩
 exact .inr ⟨.inl rfl,by omega,x2,.inr ⟨b,o,c,bc,g,rfl,hr⟩⟩
theorem Ax(hX:cd X){s:jk}{r r2 st rc mo tv pv qv:Φ}(hV:oQ m s r r2 st rc mo tv pv qv):
  ∃H vb ob m',C X (.func 32) [nj r r2 st rc mo tv pv qv] m m.n (.func (.func 77) #[] #[ptrTo H,ptrTo vb]) m'/\Ext m m'/\R9 s r r2 st rc mo tv pv qv H vb ob m':=by
 refine Cl.TY hX (Kg func32) (R:=λrv m'=>∃H vb ob,rv=.func (.func 77) #[] #[ptrTo H,ptrTo vb]/\Ext m m'/\R9 s r r2 st rc mo tv pv qv H vb ob m') ?_ λrv m' hc ⟨H,vb,ob,e,h⟩=>⟨H,vb,ob,m',e ▸ hc,h⟩
 rw[F32];dsimp only[δ,ι,ρ,ς,υ,χ,ψ,Γ];refine aw λm1 o0 d0 e0=>?_;have x1:Ext m m1:=⟨by omega,e0⟩
 have g1:m1.get m.n=.cells (scc r r2 st rc mo tv pv qv) 43 none:=d0;unfold ptrTo;rw[(fK g1).2.2.2.2,ae];have⟨m4,c4,x4⟩:=rn hX (hV.aE x1);refine aG c4 ?_;have n4:=x4.n;have g0:=hV.ps.one;refine aw λm6 p0 i0 q0=>?_;refine aC Sh i0 rfl rfl (by show(true && (one pv && true))=true;rw[g0];rfl) λm7 r0 j0 s0=>?_;have g7:m7.get m4.n=.cells [YR (s.ts.length:Int),pv] 75 none:=j0;have x7:Ext m4 m7:=⟨by omega,by grind⟩
 have n7:=x7.n;refine aw λm9 u0 k0 v0=>?_;refine bS abu k0 rfl (by show 0+1<=1;decide) rfl λm10 l0 b0 n0=>?_;have g10:m10.get m7.n=.cells [MU m.n m4.n] 155 none:=b0;have a0:Ext m7 m10:=⟨by omega,by grind⟩
 have xx:=x1.trans (x4.trans (x7.trans a0));exact .inr ⟨.inl rfl,by omega,m.n,m7.n,m4.n,rfl,xx,⟨(x4.trans (x7.trans a0)).cells g1,g10,a0.cells g7,hV.aE xx⟩⟩
theorem yV(H:cd X){sf:List Fc->List Fc}(hS:zu X sf){s:jk}{r r2 st rc mo tv pv qv:Φ}(hP:EN s)(hV:oQ m s r r2 st rc mo tv pv qv):
  ∃v m',C X (.func 8) [nj r r2 st rc mo tv pv qv] m m.n (.tuple #[v,YR 0]) m'/\Ext m m'/\Sl m' (dM sf s) v:=by
 refine Cl.kEG H (Kg func8) ?_;rw[F8];dsimp only[aL];refine aw λm1 i0 a0 b0=>?_;have x1:Ext m m1:=⟨by omega,b0⟩
 have g1:m1.get m.n=.cells (scc r r2 st rc mo tv pv qv) 43 none:=a0;unfold ptrTo;rw[(fK g1).2.2.2.2,ae];refine aG (uQ H hP (hV.aE x1)) ?_;rw[bk,ae,aj];show gH false _ _;rw[aN,(fK g1).2.2.2.2,ae];have⟨sb,vb,ob,m9,c9,x9,d9⟩:=Ax H (hV.aE x1);refine aG c9 ?_;have⟨v,m12,d0,e0,g0⟩:=Cq H hS hP d9;refine aG d0 ?_;have n9:=x9.n;have hx:=x1.trans (x9.trans e0);rcases g0 with⟨rfl,e⟩|⟨b,o,c,bc,g,rfl,hr⟩;·exact .inl ⟨rfl,by omega,by grind,_,rfl,.refl,by rw[e];exact .nil⟩
 exact .inr ⟨.inl rfl,by omega,_,rfl,hx,.inr ⟨b,o,c,bc,g,rfl,hr⟩⟩
end
theorem DO{sf:List Fc->List Fc}{s:jk}{x:Ls}{i q:Nat}{t:Tk}{y:Qn}(hi:x.task=i)(hq:x.q=q)(H:s.ts[i]?=some t)(hy:s.qs[q]?=some y)(hf:x.f∈lI sf s.y.us t)(hn:x.f∈y.lg)(hr:x.f∉s.y.rc)
  (ho:∀(k:Nat) (u:Tk),s.ts[k]?=some u->iK (vN s) i k->yd u x.f=false):x∈dM sf s:=by
 unfold dM;refine KB.2 ⟨i,Bv.2 (OJ.1 H).1,?_⟩;unfold pB;rw[H];refine KB.2 ⟨x.f,hf,?_⟩;have hs:¬xT s (vN s) i x.f=true:=by
  unfold xT;rw[Qf,EU,JL];rintro(h|⟨k,hk,h⟩);·exact hr h
  unfold pj at h;split at h;·rename_i u hu;rw[JJ]at h;rw[ho k u hu h.2]at h;cases h.1
  cases h
 rw[QL hs];unfold yw;refine Po.2 ⟨q,Bv.2 (OJ.1 hy).1,?_⟩;rw[hy];show(if x.f∈y.lg then some (⟨i,x.f,q⟩:Ls)else none)=some x;rw[Tf hn,<-hi,<-hq]
def fo(f:Fc):Tk:=⟨8,⟨0,0,0,[],0,0⟩,f.un,0,f.side,0⟩
theorem AH{f:Fc}(h:(0<=f.un/\f.un<=99)/\ -2<=f.side/\f.side<=7):dB (fo f):=by
 have⟨⟨h1,h2⟩,h3,h4⟩:=h;have H:cR f.un 0 99:=by rw[wX];omega
 have a2:cR f.side (-2) 7:=by rw[wX];omega
 unfold dB fo;simp[H,a2,eN]
end Go.Proofs.YtigpcbodmjjaiaaGreatDoor
namespace Go.D
open Go
def oO(S:List Nat):Code->Code
 |.region i ops d=>bif S.contains i then .goto 0 else .region i ops d
 |.seq a b=> .seq (oO S a) (oO S b)
 |.cond c x y=> .cond c (oO S x) (oO S y)
 |.block i c=> .block i (oO S c)
 |.loop c=> .loop (oO S c)
 |.scope c=> .scope (oO S c)
 |c=>c
def KE(S:List Nat)(fn:Func):Func:={fn with body:=fn.body.map (oO S)}
section
variable {E:Env} {X:aK} {S:List Nat}
theorem yz{H b2:Fr->Option (Ex×Fr)}(h:∀fr r,H fr=some r->b2 fr=some r):∀(n:Nat) (fr:Fr) (r:Ex×Fr),ia H n fr=some r->ia b2 n fr=some r
 |0,_,_,e=>e
 |n+1,fr,r,e=>by
  unfold ia at e⊢;cases h1:H fr with
  |none=>rw[h1]at e;cases e
  |some x=>
   rw[h1]at e;rw[h _ _ h1];have⟨a,b⟩:=x;cases a with
   |normal=>exact yz h n _ _ e
   |_=>exact e
theorem ic{call:aK}{n:Nat}:∀(c:Code) (fr:Fr) (r:Ex×Fr),bQ E call n (oO S c) fr=some r->bQ E call n c fr=some r
 |.region i ops d,fr,r,e=>by
  unfold oO at e;cases H:S.contains i with
  |true=>rw[H]at e;cases e
  |false=>rw[H]at e;exact e
 |.seq a b,fr,r,e=>by
  simp only[oO,bQ]at e⊢;cases h1:bQ E call n (oO S a) fr with
  |none=>rw[h1]at e;cases e
  |some x=>
   rw[h1]at e;rw[ic a _ _ h1];have⟨a',a0⟩:=x;cases a' with
   |normal=>exact ic b _ _ e
   |_=>exact e
 |.cond c x y,fr,r,e=>by
  simp only[oO,bQ]at e⊢;split at e
  ·rename_i t _;cases t with
   |true=>exact ic x _ _ e
   |false=>exact ic y _ _ e
  ·cases e
 |.block i c,fr,r,e=>by
  simp only[oO,bQ]at e⊢;cases h1:bQ E call n (oO S c) fr with
  |none=>rw[h1]at e;cases e
  |some x=>rw[h1]at e;rw[ic c _ _ h1];exact e
 |.loop c,fr,r,e=>by
  simp only[oO,bQ]at e⊢;exact yz (ic c) n fr r e
 |.scope c,fr,r,e=>by
  simp only[oO,bQ]at e⊢;exact ic c fr r e
 |.skip,_,_,e=>e
 |.label _,_,_,e=>e
 |.rangeFunc ..,_,_,e=>e
 |.exit _,_,_,e=>e
 |.ret,_,_,e=>e
 |.goto _,_,_,e=>e
 |.refuse _,_,_,e=>e
theorem Cl.YE{f:Nat}{fn:Func}{args:Bt}{m:M}{rd:List Nat}{R:Bt->M->Nat->Prop}(hX:∀l,X (.func f) args (m.wl l)=none)(hf:E.fn.get f=some fn)(hl:Nat.ble args.length fn.ntmps)
  (h:WA E (aL E X) rd (KE S fn) args m R):
  ∃vs m' lo,R vs m' lo/\m.n<=m'.n/\∃n0,∀n,n0<=n->∀l,l<=m.n->
   cC E X n (.func f) args (m.wl l)=some (bif bA (bh vs) && Nat.ble m.n lo then(bh vs,m.wl l)else(bh vs,m'.wl (min l lo))):=by refine Cl.S2 (fn':=KE S fn) hX hf hl rfl (λb' H=>?_) h;obtain⟨b,hb,rfl⟩:=Tq.1 (H:fn.body.map (oO S)=some b');exact⟨b,hb,λ_ _ _ _ h=>ic b _ _ h⟩
theorem Cl.Zg{f:Nat}{fn:Func}{args:Bt}{m:M}{R:Φ->M->Nat->Prop}(hX:∀l,X (.func f) args (m.wl l)=none)(hf:E.fn.get f=some fn)(hl:Nat.ble args.length fn.ntmps)
  (h:dk E (aL E X) (KE S fn) args m λvs m' lo=>(bA (bh vs)/\m.n<=lo/\R (bh vs) m m.n)\/((bA (bh vs)=false\/lo<m.n)/\R (bh vs) m' (min m.n lo))):
  ∃v m' b,Cl E X (.func f) args m b v m'/\R v m' b:=by
 have⟨vs,s,lo,h,hn,hr⟩:=Cl.YE hX hf hl h;rcases h with⟨H,a0,hR⟩|⟨H,hR⟩;·exact⟨_,_,_,.of_flat H a0 hr,hR⟩
 exact⟨_,_,_,.wW hn H hr,hR⟩
end
end Go.D
namespace Go.Proofs.YtigpcbodmjjaiaaGreatDoor
open Go Go.D Go.Proofs.Tryz
section
section
variable {X:aK}{x0 x1:Φ}{m:M}{R:Bt->M->Nat->Prop}
theorem F43:dk TE (aL TE X) (KE [2,6] f43) [x0,x1] m R=ρ m x0 33 λa=>ς a [YM,YM] 33 λb=>δ b 33 (υ m) λc=>ψ X 91 [c] b λb c d=>ο .not b λb=>aR b False (δ c 33 (υ m) λb=>ψ X 104 [b] c λb c f=>ι c 33 (υ m) b λb c=>κ b .len [146] [x1] λg _=>Lp (λ_ b c d=>un b λ_ b=>un b λ_ b=>un b λb _=>η .lss 3 b g λb=>aR b False (δ c 33 (υ m) λb=>κ c .len [146] [x1] λf _=>ι c 33 (υ a) b λb c=>ai (ah TE b 33 (υ a)) λa=>R [a,f,χ 0] b (min d c))) [χ 0,χ 0,χ 0] b (Γ m.n d f c)):=by kernel_rfl
theorem F44:dk TE (aL TE X) f44 [x0] m R=ρ m x0 113 λa=>ς a [χ 0,χ 0,χ 0,YM,χ 0,χ 0,YM] 113 λb=>ε 113 (υ m) 0 λc=>ε 60 c 3 λc=>δ b 58 c λc=>ψ X 82 [c] b λb c d=>ε 113 (υ m) 0 λf=>ε 60 f 3 λf=>ι c 58 f b λb c=>ε 113 (υ m) 1 λf=>δ b 31 f λf=>ψ X 106 [f] b λb f g=>ε 113 (υ m) 1 λh=>ι f 31 h b λb f=>δ b 113 (υ m) λh=>ι b 113 (υ a) h λb h=>ai (ah TE b 113 (υ a)) λa=>R [a] b (Θ m.n d c g f h):=by kernel_rfl
theorem F15:dk TE (aL TE X) (KE [2,15] f15) [x0,x1] m R=ρ m x0 38 λa=>ς a [YM,YM,YM,YM,YM] 38 λb=>jn (λa=>δ b 38 (υ m) λc=>ψ X 40 [c] b λb c d=>ο .not b λb=>aR b (a [Ku] c (min m.n d)) (κ c .len [39] [x1] λb _=>η .gtr 3 b (χ 20) λb=>a [b] c (min m.n d))) (λb c d=>un b λb _=>aR b False (ε 38 (υ m) 2 λb=>δ c 35 b λb=>ψ X 41 [b] c λb f g=>(c.n<=g)/\(ε 38 (υ m) 3 λc=>δ f 36 c λc=>ψ X 42 [c] f λc h i=>(f.n<=i)/\(θ 38 [(2,b),(3,c)] λb=>ς h [YM,YM,YM,YM,YM] 38 λc=>ι c 38 (υ h) b λb c=>ε 38 (υ m) 0 λf=>δ b 33 f λf=>ψ X 43 [f,YM] b λb f j=>ξ b 0 λk=>ξ b 1 λ_=>ξ b 2 λ_=>ε 38 (υ h) 0 λb=>ι f 33 b k λb f=>ε 38 (υ m) 1 λk=>δ b 34 k λk=>κ b .len [34] [k] λl _=>Lp (λb c d f=>un c λc _=>η .lss 3 c l λg=>aR g (ζ 34 k c λa=>δ d 113 a λa=>ς d [χ 0,χ 0,χ 0,YM,χ 0,χ 0,YM] 113 λg=>ι g 113 (υ d) a λa g=>ε 38 (υ h) 1 λi=>δ a 34 i λi=>δ a 113 (υ d) λd=>ψ X 44 [d] a λd j k=>(a.n<=k)/\(ν j 34 1 [(0,d)] λa d=>κ (M.wl d d.n) .append [34,34] [i,a] λa d=>ε 38 (υ h) 1 λh=>ι d 34 h a λa h=>η .add 3 c (χ 1) λc=>b [c] a (Δ f g k (M.low d) h))) (κ d .len [39] [x1] λb _=>Lp (λc d f g=>un d λd _=>η .lss 3 d b λb=>aR b (ζ 39 x1 d λa=>δ f 62 a λa=>ς f [χ 0,χ 0,χ 0,χ 0,YM,χ 0,χ 0,χ 0,χ 0,χ 0,χ 0] 62 λb=>ι b 62 (υ f) a λa b=>δ a 38 (υ h) λi=>δ a 62 (υ f) λf=>ψ X 45 [i,f] a λa f i=>ξ a 0 λj=>ξ a 1 λa=>ς f [YM,YM,YM,YM,YM] 38 λk=>ι k 38 (υ f) j λj k=>η .neq 46 a (χ 0) λa=>aR a False (δ j 38 (υ f) λa=>ι j 38 (υ h) a λa f=>η .add 3 d (χ 1) λd=>c [d] a (Δ g b i k f))) (δ f 38 (υ h) λb=>κ f .len [39] [x1] λc _=>ι f 38 (υ a) b λb d=>ai (ah TE b 38 (υ a)) λa=>R [a,c,χ 0] b (min g d))) [χ 0] d f)) [χ 0] b (Θ d g i c j f))))):=by kernel_rfl
end
end
section
variable {X:aK} {m:M}
theorem Cl.kC{f:Nat}{fn:Func}{args:Bt}{S:List Nat}{R:Φ->M->Prop}(hX:cd X)(hf:TE.fn.get f=some fn)(H:dk TE (aL TE X) (KE S fn) args m λvs m' lo=>(bA (bh vs)/\m.n<=lo/\m.n=m.n/\R (bh vs) m)\/((bA (bh vs)=false\/lo<m.n)/\min m.n lo=m.n/\R (bh vs) m'))(h0:BM f=false:=by exact rfl)(hl:Nat.ble args.length fn.ntmps:=by exact rfl):∃v m',C X (.func f) args m m.n v m'/\R v m':=by obtain⟨v,m',b,hc,rfl,h⟩:=Cl.Zg (R:=λv m' b=>b=m.n/\R v m') (λ_=>hX.no f h0 _ _) hf hl H;exact⟨v,m',hc,h⟩
theorem sX{vs:Bt}{m':M}{lo:Nat}{Q:Φ->M->Prop}{P0:Prop}(H:m.n<=lo)(hx:Ext m m')(h:Q (bh vs) m')(hf:bA (bh vs)->Q (bh vs) m)(h0:P0:=by trivial):
  (bA (bh vs)/\m.n<=lo/\P0/\Ext m m/\Q (bh vs) m)\/((bA (bh vs)=false\/lo<m.n)/\min m.n lo=m.n/\Ext m m'/\Q (bh vs) m'):=by
 cases e:bA (bh vs)with
 |false=>exact .inr ⟨.inl rfl,by omega,hx,h⟩
 |true=>exact .inl ⟨rfl,H,h0,.refl,hf e⟩
theorem PI(hX:cd X){l:List UW}{ms:List Mk}{r vm:Φ}(hF:cP m l r)(hP:cq (bM l))(hm:Sl m ms vm)(hM:il (bM l) ms):
  ∃rv m',C X (.func 43) [.agg #[r,vm],YM] m m.n rv m'/\Ext m m'/\tK (some (bM l,ms)) m' rv:=by
 refine Cl.kC (S:=[2,6]) hX (Kg func43) ?_;rw[F43];dsimp only[δ,η,ι,κ,ο,ρ,ς,υ,χ,ψ,Γ];refine aw λm1 r0 g0 s0=>?_;refine aw λm2 u0 i0 j0=>?_;have x2:Ext m m2:=⟨by omega,by grind⟩
 have g1:m2.get m.n=.cells [r,vm] 33 none:=(j0 _ (by omega)).trans g0;have g2:m2.get m1.n=.cells [YM,YM] 33 none:=i0;have ls:∀{mm:M} {b:Nat} {p q:Φ} {g:Option Nat},mm.get b=.cells [p,q] 33 g->ah TE mm 33 (Ga b 0)=some (.agg #[p,q]):=λh=>by rw[lV,aQ (n:=2) h (by grind)];rfl
 unfold ptrTo;rw[ls g1,ae];refine aG (uY hX (hF.aE x2) hP (hm.aE x2) hM) ?_;rw[bk,ae,aj];show gH false _ _;rw[aN,ls g1,ae];have q0:l.length<=12:=by have:=hP.len;rwa[cx]at this
 have v0:=hM.len;obtain⟨r',H,m5,l',c5,x5,k0,b0,d0⟩:=GN hX (hF.aE x2) (λx hx e=>by
  have:=hP.val x.u (LY.2 ⟨x,hx,rfl⟩);have:=(eC ((JJ _ _).mp this).2).1;grind) (by omega) (hm.aE x2) (by omega)
 refine aG c5 ?_;have n5:=x5.n;have o5:([r',H]:Bt).all one:=by show(one r' && (one H && true))=true;rw[b0.sl.one,d0.sl.one];rfl
 refine aC eH (x5.cells g1) rfl rfl o5 λm8 y0 l0 a0=>?_;have g8:m8.get m.n=.cells [r',H] 33 none:=l0;have G2:m8.get m1.n=.cells [YM,YM] 33 none:=(a0 _ (by omega)).trans (x5.cells g2);have n0:gC (bM l) ms m8 (.agg #[r',H]):=gC.aV ⟨l',r',H,rfl,k0,b0,d0.sl⟩ λc cs t g hc ht=>(a0 c λe=>by subst e;rw[x5.cells g1]at hc;cases hc;exact ht rfl).trans hc;rw[show av TE m8 .len [146] [YM]=some (YR 0,m8) by kernel_rfl,az];refine Lp.intro (γ:=Nat) (λ_=>0) (λ_ vs mm lo=>∃a b,vs=[a,b,YR 0]/\m8=mm/\m.n<=lo) 0 ⟨_,_,rfl,rfl,by omega⟩ ?_;rintro _ vs mm lo ⟨a,b,rfl,rfl,z0⟩;rw[aB,aB,aB,aM,ae,aj];show gH false _ _;rw[aN,ls g8,ae,show av TE m8 .len [146] [YM]=some (YR 0,m8) by kernel_rfl,az];refine aC eH G2 rfl rfl o5 λm9 A0 o0 e0=>?_;have g9:m9.get m1.n=.cells [r',H] 33 none:=o0;rw[ls g9,ae];have p0:Ext m m9:=⟨by omega,λc hc=>by rw[e0 c (by omega),a0 c (by omega),x5.get c (by omega),x2.get c hc]⟩
 exact Hi rfl ⟨r',H,0,rfl,n0.aV λc cs t g hc ht=>(e0 c λe=>by grind).trans hc⟩ (by omega) p0
theorem AV(H:cd X){l:List Pl}{v:Φ}(hl:Sl m l v)(hs:l.length<=1000000):∃v' m',C X (.func 82) [v] m m.n v' m'/\Ext m m'/\oR m.n m' l v':=
 pM uZ (H.no _ rfl) (Kg func82) rfl V3 (by kernel_rfl) (λ_ _ _=>by kernel_rfl) (λ_=>by kernel_rfl) hl hs
theorem Hf{α:Type}[aW α]{l:List α}{v:Φ}(h:Sl m l v):cells v=[v]/\one v:=⟨h.cells,h.one⟩
theorem acT(hX:cd X){x:KW}(h1:Sl m x.u.shape x.w)(h2:Sl m x.ms x.mv)(l1:x.u.shape.length<=1000000)(l2:x.ms.length<=1000000):
  ∃v m',C X (.func 44) [x.v] m m.n v m'/\Ext m m'/\∃k:KW,v=k.v/\k.u=x.u/\k.ms=x.ms/\Sl m' k.u.shape k.w/\Sl m' k.ms k.mv:=by
 refine Cl.EL hX (Kg func44) ?_;rw[F44];dsimp only[δ,ε,ι,ρ,ς,υ,χ,ψ,Θ];refine aw λm1 B0 o0 C0=>?_;refine aw λm2 D0 p0 q0=>?_;have x2:Ext m m2:=⟨by omega,by grind⟩
 have g1:m2.get m.n=.cells x.c 113 none:=(q0 _ (by omega)).trans o0;have g2:m2.get m1.n=.cells (KW.c ⟨⟨0,0,0,[],0,0⟩,YM,[],YM⟩) 113 none:=p0;have ln:∀{mm:M} {y:KW} {b:Nat} {g:Option Nat},mm.get b=.cells y.c 113 g->ah TE mm 58 (Ga b (0+0+3))=some y.w:=λh=>by rw[qj,aI h];rfl
 unfold ptrTo;simp only[bW,cO,bD,ae];rw[ln g1,ae];have⟨w',m7,c7,x7,p7⟩:=AV (m:=m2) hX (h1.aE x2) l1;refine aG c7 ?_;have n7:=x7.n;have hw:=Hf p7.sl;have G1:=x7.cells g1;refine bS vj G1 (by rw[hw.1];rfl) (by grind) (by grind) λm11 u0 v0 a0=>?_;have g11:m11.get m.n=.cells (KW.c ⟨x.u,w',x.ms,x.mv⟩) 113 none:=by grind
 have i0:∀c cs t g,m7.get c=.cells cs t g->t≠113->m11.get c=.cells cs t g:=λc cs t g hc ht=>(a0 c λe=>by grind).trans hc;have ht:∀{α:Type} [aW α] {l:List α} {v:Φ} {ma mb:M},(∀c cs t g,ma.get c=.cells cs t g->t≠113->mb.get c=.cells cs t g)->(∀t,t∈aW.ty α::aW.cT α->t≠113)->Sl ma l v->Sl mb l v:=λhk ht h=>h.aV λc cs t g hc hm=>hk c cs t g hc (ht t hm);have tp:∀t,t∈aW.ty Pl::aW.cT Pl->t≠113:=λt h=>by simp only[aW.ty,aW.cT,RN,ZX,or_false]at h;subst h;decide
 have tm:∀t,t∈aW.ty Mk::aW.cT Mk->t≠113:=λt h=>by simp only[aW.ty,aW.cT,RN,ZX,or_false]at h;subst h;decide
 rw[(EJ g11).2.2.1,ae];have⟨H,m16,r0,b0,j0⟩:=zf (m:=m11) hX (ht i0 tm ((h2.aE x2).aE x7)) l2;refine aG r0 ?_;have n16:=b0.n;have hm:=Hf j0.sl;have s0:=b0.cells g11;refine bS Ha s0 (by rw[hm.1];rfl) (by grind) (by grind) λm19 y0 z0 d0=>?_;have g19:m19.get m.n=.cells (KW.c ⟨x.u,w',x.ms,H⟩) 113 none:=by grind
 have k0:∀c cs t g,m16.get c=.cells cs t g->t≠113->m19.get c=.cells cs t g:=λc cs t g hc ht=>(d0 c λe=>by grind).trans hc;have G2:=(d0 m1.n (by omega)).trans (b0.cells ((a0 m1.n (by omega)).trans (x7.cells g2)));rw[(EJ g19).2.2.2,ae];refine aC Bj G2 rfl rfl (KW.cH (x:=⟨x.u,w',x.ms,H⟩) hw.2 hm.2) λm22 A0 l0 e0=>?_;have g22:m22.get m1.n=.cells (KW.c ⟨x.u,w',x.ms,H⟩) 113 none:=l0;have n0:∀c cs t g,m19.get c=.cells cs t g->t≠113->m22.get c=.cells cs t g:=λc cs t g hc ht=>(e0 c λe=>by grind).trans hc;rw[(EJ g22).2.2.2,ae];have xm:Ext m m22:=⟨by omega,λc hc=>by rw[e0 c (by omega),d0 c (by omega),b0.get c (by omega),a0 c (by omega),x7.get c (by omega),x2.get c hc]⟩
 have s1:Sl m22 x.u.shape w':=ht n0 tp (ht k0 tp ((ht i0 tp p7.sl).aE b0));have s2:Sl m22 x.ms H:=ht n0 tm (ht k0 tm j0.sl);refine sX (m:=m) (vs:=[KW.v ⟨x.u,w',x.ms,H⟩]) (Q:=λv m'=>∃k:KW,v=k.v/\k.u=x.u/\k.ms=x.ms/\Sl m' k.u.shape k.w/\Sl m' k.ms k.mv) (by omega) xm ⟨_,rfl,rfl,rfl,s1,s2⟩ λhf=>?_;have g0:(true && (true && (true && (D.bw w' && (true && (true && (D.bw H && true))))))):=hf;simp only[ZD,Nx,JJ]at g0;exact⟨⟨x.u,w',x.ms,H⟩,rfl,rfl,rfl,(kS s1 g0.1 m).2,(kS s2 g0.2 m).2⟩
end
section
variable {X:aK} {m:M}
theorem V6{W:Words}{x0:Φ}{m:M}{R:Bt->M->Nat->Prop}:dP TE W f41 [x0] m R=V7 35 W x0 m R:=by kernel_rfl
theorem V4{W:Words}{x0:Φ}{m:M}{R:Bt->M->Nat->Prop}:dP TE W f42 [x0] m R=V7 36 W x0 m R:=by kernel_rfl
theorem AX(H:cd X){l:List Fc}{v:Φ}(hl:Sl m l v)(hs:l.length<=1000000):∃v' m',C X (.func 41) [v] m m.n v' m'/\Ext m m'/\oR m.n m' l v':=
 pM ve (H.no _ rfl) (Kg func41) rfl V6 (by kernel_rfl) (λ_ _ _=>by kernel_rfl) (λ_=>by kernel_rfl) hl hs
theorem KH(H:cd X){l:List Mo}{v:Φ}(hl:Sl m l v)(hs:l.length<=1000000):∃v' m',C X (.func 42) [v] m m.n v' m'/\Ext m m'/\oR m.n m' l v':=
 pM PL (H.no _ rfl) (Kg func42) rfl V4 (by kernel_rfl) (λ_ _ _=>by kernel_rfl) (λ_=>by kernel_rfl) hl hs
structure CJ(m0:M)(O:Nat)(m:M)(r r2 rc mo:Φ)(acc:List KW)(st:Φ):Prop where
 cell:m.get O=.cells (yc r r2 st rc mo) 38 none
 st:Ow m0.n m acc st
 kv:∀k∈acc,Sl m k.u.shape k.w/\Sl m k.ms k.mv/\k.u.shape.length < 1000000/\k.ms.length < 1000000
 n:m0.n<=m.n
 fr:∀c,c < m0.n->c≠O->m.get c=m0.get c
section
variable {m0:M} {O:Nat} {r r2 rc mo st:Φ} {acc:List KW}
theorem CJ.aE{m':M}(h:CJ m0 O m r r2 rc mo acc st)(H:Ext m m'):CJ m0 O m' r r2 rc mo acc st:=
 ⟨H.cells h.cell,h.st.aE H,λk hk=>⟨(h.kv k hk).1.aE H,(h.kv k hk).2.1.aE H,(h.kv k hk).2.2⟩,YB h.n H.n,λc h1 h2=>(H.get c (IV h1 h.n)).trans (h.fr c h1 h2)⟩
theorem CJ.push(h:CJ m0 O m r r2 rc mo acc st)(hO:O<m0.n){k:KW}(hk:Sl m k.u.shape k.w/\Sl m k.ms k.mv/\k.u.shape.length<1000000/\k.ms.length<1000000)(hl:acc.length<1000000):
  ∃a m1 r' m2 m3,aF TE m 34 1 [(0,k.v)]=some (a,m1)/\av TE (M.wl m1 (M.n m1)) .append [34,34] [st,a]=some (r',m2)/\aD TE m2 34 (Ga O (0+2)) r'=some (m3,O)/\m0.n<=m2.low/\CJ m0 O m3 r r2 rc mo (acc++ [k]) r':=by
 obtain⟨m1,a0⟩:∃q,q=m.push (.cells k.c 113 none):=⟨_,rfl⟩
 have b0:Ext m m1:=a0 ▸ Ext.refl.push;have e0:m1.get m.n=.cells k.c 113 none:=by rw[a0];exact M.aX
 have hn:=h.n;have i0:=b0.n;obtain⟨r',m2,m3, -,p1,p2,p3,p4,p5,p6,p7,p8⟩:=yg (n1:=m0.n) (o:=2) CE rfl Mw rfl h.cell (by rfl) hO hn h.st b0 (gU (x:=k) e0 ⟨rfl,hk.1.one,hk.2.1.one⟩) hl;have ks:∀{α:Type} [aW α] {l:List α} {v:Φ},(∀t,t∈aW.ty α::aW.cT α->t≠113/\t≠38)->Sl m l v->Sl m3 l v:=λht hs=>hs.aV λc cs t g hc hm=>by have d0:=b0.cells hc;rw[p8 c (M.aU d0) (λe=>by subst e;rw[h.cell]at hc;cases hc;exact(ht _ hm).2 rfl) λj0 g' e=>by rw[d0]at e;cases e;exact(ht _ hm).1 rfl,d0]
 have g0:∀z:KW,Sl m z.u.shape z.w/\Sl m z.ms z.mv/\z.u.shape.length<1000000/\z.ms.length<1000000->Sl m3 z.u.shape z.w/\Sl m3 z.ms z.mv/\z.u.shape.length<1000000/\z.ms.length<1000000:=λz H=>
  ⟨ks (λt h=>by simp only[aW.ty,aW.cT,RN,ZX,or_false]at h;subst h;decide) H.1,ks (λt h=>by simp only[aW.ty,aW.cT,RN,ZX,or_false]at h;subst h;decide) H.2.1,H.2.2⟩
 refine⟨_,m1,r',m2,m3,a0 ▸ Nu,p1,p2,p3,⟨p4,p5,λz H=>?_,by omega,λc h1 h2=>(p7 c h1 h2).trans (h.fr c h1 h2)⟩⟩;rcases OH.1 H with H|H;·exact g0 z (h.kv z H)
 ·grind
theorem CJ.kev{y:List Kp}(h:CJ m0 O m r r2 rc mo acc st)(he:EK acc=y){m':M}(hk:∀c cs t g,m.get c=.cells cs t g->t≠38->m'.get c=.cells cs t g):∃k,EK k=y/\EG m' k st:=
 ⟨acc,he,EG.aV ⟨h.st.sl,h.st.YU,λx H=>(h.kv x H).1,λx H=>(h.kv x H).2.1,λx H=>(h.kv x H).2.2.1,λx H=>(h.kv x H).2.2.2⟩ λc cs t g hc ht=>hk c cs t g hc (by grind)⟩
end
theorem Io{a b:Φ}(h1:cells a=[a])(H:cells b=[b]):aJ TE 38 [(2,a),(3,b)]=some (yv YM YM YM a b):=by rw[tE (by rw[h1];rfl) (by rw[H];rfl),h1,H];rfl
set_option maxHeartbeats 2000000 in
theorem Lh(hX:cd X){y:Yd}{r r2 st rc mo:Φ}(hV:lR m y r r2 st rc mo)(hP:qG y):∃rv m',C X (.func 15) [yv r r2 st rc mo,YM] m m.n rv m'/\Ext m m'/\∃a b c d e n,rv=.tuple #[yv a b c d e,.int .i64 n,.int .i64 0]/\lR m' y a b c d e:=by
 have hT:Sl m ([]:List TW) YM:=.nil;refine Cl.kC (S:=[2,15]) hX (Kg func15) ?_;have w1:=hV;have⟨⟨us,C0,hF⟩,y1,⟨kl,N0,hK⟩,z1,A1⟩:=hV;have B1:cq (bM us):=by rw[C0];exact hP.qE
 have l2:kl.length<=12:=by have:=hP.Qq;rw[<-N0,qn]at this;exact this
 rw[F15];dsimp only[δ,ε,ζ,η,θ,ι,κ,ν,ξ,ο,ρ,ς,υ,χ,ψ,Δ,Θ];refine aw λm1 I2 C1 J2=>?_;refine aw λm2 K2 D1 E1=>?_;have x2:Ext m m2:=⟨by omega,by grind⟩
 have g1:m2.get m.n=.cells (yc r r2 st rc mo) 38 none:=(E1 m.n (by omega)).trans C1;have g2:m2.get m1.n=.cells (yc YM YM YM YM YM) 38 none:=D1;unfold ptrTo;refine aZ (λvs mm lo=>vs=[Zf]/\m2=mm/\m.n<=lo) (λQ hQ=>?_) ?_
 ·rw[(dW g1).2.2.2.2,ae];refine aG (zV hX (w1.aE x2) hP) ?_;rw[bk,ae,aj];show gH false _ _;rw[aN,(hT.aE x2).len cV,az,bP,ae];exact hQ _ _ _ ⟨rfl,rfl,by omega⟩
 rintro _ _ L2 ⟨rfl,rfl,o2⟩;simp only[cF,dG,dF,eV,ae];rw[aB,aj,aN,(dW g1).2.2.1,ae];have u2:=hP.Ss;obtain⟨a0,m19,F1,o0,H1⟩:=AX (m:=m2) hX (z1.aE x2) (by omega);refine aG F1 ⟨Ox _,?_⟩;rw[(dW (o0.cells g1)).2.2.2.1,ae];have v2:=hP.SF;obtain⟨b0,m24,I1,D0,E0⟩:=KH (m:=m19) hX ((A1.aE x2).aE o0) (by omega);refine aG I1 ⟨Ox _,?_⟩;have q0:=o0.trans D0;have n19:=o0.n;have n24:=D0.n;have F0:=H1.sl.aE D0;rw[Io F0.cells E0.sl.cells,ae];refine aw λM2 w2 O0 y2=>?_;refine aC ka O0 rfl rfl (by show(true && (true && (true && (one a0 && (one b0 && true)))))=true;rw[F0.one,E0.sl.one];rfl) λG0 z2 P0 A2=>?_;have a1:G0.get m24.n=.cells (yc YM YM YM a0 b0) 38 none:=P0;have c1:Ext m24 G0:=⟨by omega,by grind⟩
 have i0:=q0.trans c1;have r0:=x2.trans i0;have n28:=i0.n;rw[(dW (i0.cells g1)).1,ae];obtain⟨rv,d1,J1,H0,p,q,nn,rfl,h1⟩:=PI (m:=G0) hX (hF.aE r0) B1 (y1.aE r0) (C0 ▸ hP.BN);refine aG J1 ?_;have n33:=H0.n;have⟨ul,p',q',e,K1,s0,u0⟩:=h1;cases e;have L1:([p,q]:Bt).all one=true:=by show(one p && (one q && true))=true;rw[s0.sl.one,u0.one];rfl
 rw[aH,aH,aH];simp only[zi,F9,ae];have i1:=H0.cells a1;refine bS eH i1 rfl (by show 0+0+2<=5;decide) L1 λd0 B2 j1 v0=>?_;have gO:d0.get m24.n=.cells (yc p q YM a0 b0) 38 none:=j1;have N1:∀c cs t g,d1.get c=.cells cs t g->t≠38->d0.get c=.cells cs t g:=λc cs t g H ht=>(v0 c λe=>by grind).trans H;have y0:∀c,c < m24.n->d0.get c=m24.get c:=λc H=>by rw[v0 c (by omega),H0.get c (by omega),c1.get c H]
 have e0:∀c,c < m2.n->d0.get c=m2.get c:=λc H=>(y0 c (by omega)).trans (q0.get c H);have G1:=(e0 m.n (by omega)).trans g1;have z0:EG d0 kl st:=(hK.aE x2).aV λc cs t g H _=>(e0 c (M.aU H)).trans H;rw[(dW G1).2.1,ae,z0.sl.len eM,az];refine Lp.intro (γ:=Nat) (λi=>kl.length-i) (λi vs mm lo=>∃acc sv,vs=[.int .i64 i]/\i<=kl.length/\m.n<=lo/\CJ d0 m24.n mm p q a0 b0 acc sv/\EK acc=(EK kl).take i) 0 ⟨[],_,rfl,ZE _,by omega,⟨gO,.nil,λk hk=>(by cases hk),Ox _,λ_ _ _=>rfl⟩,rfl⟩ ?_;rintro i vs mm lo ⟨acc,sv,rfl,hi,O1,hO,j0⟩;have nO:=hO.n
 have N2:acc.length=i:=by
  have:=congrArg List.length j0
  grind
 have fh:∀c cs t g,d0.get c=.cells cs t g->t≠38->mm.get c=.cells cs t g:=λc cs t g H ht=>(hO.fr c (M.aU H) λe=>by grind).trans H;have P1:∀c,c < m2.n->mm.get c=m2.get c:=λc H=>(hO.fr c (by omega) (by omega)).trans (e0 c H);rw[aB,aM,ae,aj];refine an (λI0=>?_) (λk1=>?_)
 ·have I0:i < kl.length:=by grind
  obtain⟨k,hk⟩:∃k,kl[i]?=some k:=⟨_,Fx I0⟩
  have p0:=LZ hk;have k0:EG mm kl st:=z0.aV λc cs t g H ht=>fh c cs t g H (by grind);have⟨a,cs,e1,e2,e3⟩:=k0.sl.index eM (k:=.i64) hk;obtain⟨rfl,T1,a2⟩:cs=k.c/\one k.w=true/\one k.mv=true:=e3;have e2:ah TE mm 113 a=some k.v:=e2;rw[e1,ae,e2,ae];refine aw λO2 C2 l1 D2=>?_;refine aC Bj l1 rfl rfl (KW.cH T1 a2) λJ0 E2 o1 F2=>?_;have c2:J0.get mm.n=.cells k.c 113 none:=o1;have l0:Ext mm J0:=⟨by omega,by grind⟩
  have n48:=l0.n;rw[(dW (l0.cells hO.cell)).2.1,ae,(EJ c2).2.2.2,ae];have P2:=k0.ln k p0;have Q2:=k0.lm k p0;obtain⟨v',T2,d2,h2,k',rfl,a3,c3,s1,s2⟩:=acT (m:=J0) hX ((k0.sh k p0).aE l0) ((k0.mv k p0).aE l0) (by omega) (by omega);refine aG d2 ⟨Ox _,?_⟩;obtain⟨a',d3,r',g3,h3,b1,b2,b3,b4,i2⟩:=((hO.aE l0).aE h2).push (by omega) (k:=k') ⟨s1,s2,by grind,by grind⟩ (by omega);rw[b1,az,b2,az,b3,az,aP,ae,wrap64];refine⟨i+1,by omega,_,_,rfl,I0,by omega,i2,?_⟩
  have j2:(EK kl)[i]?=some k'.k:=by
   grind
  rw[Q1,j2,<-j0];exact Cu
 have k1:i=kl.length:=by grind
 subst k1;have j0:EK acc=y.st:=by rw[j0,<-N0,QM (by grind)]
 have nY:∀{α:Type} [aW α] {l:List α} {v:Φ} {ma mb:M},(∀c cs t g,ma.get c=.cells cs t g->t≠38->mb.get c=.cells cs t g)->(∀t,t∈aW.ty α::aW.cT α->t≠38)->Sl ma l v->Sl mb l v:=λhk ht h=>h.aV λc cs t g H hm=>hk c cs t g H (ht t hm);have tf:∀t,t∈aW.ty Fc::aW.cT Fc->t≠38:=λt h=>by simp only[aW.ty,aW.cT,RN,ZX,or_false]at h;subst h;decide
 have tm:∀t,t∈aW.ty Mk::aW.cT Mk->t≠38:=λt h=>by simp only[aW.ty,aW.cT,RN,ZX,or_false]at h;subst h;decide
 have to:∀t,t∈aW.ty Mo::aW.cT Mo->t≠38:=λt h=>by simp only[aW.ty,aW.cT,RN,ZX,or_false]at h;subst h;decide
 have p1:∀c cs t g,m24.get c=.cells cs t g->t≠38->mm.get c=.cells cs t g:=λc cs t g H ht=>fh c cs t g ((y0 c (M.aU H)).trans H) ht;have A0:∀c cs t g,d1.get c=.cells cs t g->t≠38->mm.get c=.cells cs t g:=λc cs t g H ht=>fh c cs t g (N1 c cs t g H ht) ht;have r1:lR mm y p q sv a0 b0:=⟨⟨ul,K1.trans C0,s0.aV λc cs t g H ht=>A0 c cs t g H (by grind)⟩,nY A0 tm u0,hO.kev j0 λc cs t g H _=>H,nY p1 tf F0,nY p1 to E0.sl⟩
 have u1:∀{ma:M},Sl ma ([]:List TW) YM:=.nil;rw[u1.len cV,az];refine Lp.intro (γ:=Nat) (λ_=>0) (λ_ vs ma lo=>vs=[.int .i64 0]/\ma=mm/\m.n<=lo) 0 ⟨rfl,rfl,O1⟩ ?_;rintro _ vs _ i3 ⟨rfl,rfl,H2⟩;rw[aB,aM,ae,aj];show gH false _ _;rw[aN,(dW hO.cell).2.2.2.2,ae,u1.len cV,az];have G2:=(P1 m1.n (by omega)).trans g2;refine aC ka G2 rfl rfl r1.dS λB0 k2 K0 L0=>?_;have v1:B0.get m1.n=.cells (yc p q sv a0 b0) 38 none:=K0;rw[(dW v1).2.2.2.2,ae];have n0:lR B0 y p q sv a0 b0:=r1.aV λc cs t g H ht=>(L0 c λe=>by grind).trans H;refine sX (m:=m) (vs:=[yv p q sv a0 b0,.int .i64 (0:Nat),.int .i64 0]) (Q:=λrv m'=>∃a b c d e n,rv=.tuple #[yv a b c d e,.int .i64 n,.int .i64 0]/\lR m' y a b c d e) (by omega) ⟨by omega,λc H=>by grind⟩ ⟨_,_,_,_,_,_,rfl,n0⟩ λhf=>⟨_,_,_,_,_,_,rfl,?_⟩
 have g0:((D.bw p && (D.bw q && (D.bw sv && (D.bw a0 && (D.bw b0 && true))))) && (true && (true && true)))=true:=hf;simp only[JJ]at g0;exact n0.flat ⟨g0.1.1,g0.1.2.1,g0.1.2.2.1,g0.1.2.2.2.1,g0.1.2.2.2.2.1⟩ m
def P9{α:Type}[aW α](n1:Nat)(m:M)(l:List α)(v:Φ):Prop:=
 (l≠ []/\Ow n1 m l v)\/(l=[]/\∃b,v=.slice (some ⟨b,0,none⟩) 0 0/\n1<=b/\m.get b=.cells [] (aW.ty α) none)
theorem P9.sl{α:Type}[aW α]{n1:Nat}{l:List α}{v:Φ}(h:P9 n1 m l v):Sl m l v:=(show oR n1 m l v from h.imp And.right id).sl
theorem P9.aE{α:Type}[aW α]{n1:Nat}{m':M}{l:List α}{v:Φ}(h:P9 n1 m l v)(H:Ext m m'):P9 n1 m' l v:=
 h.imp (λh=>⟨h.1,h.2.aE H⟩) λ⟨h1,b,h2,h3,h4⟩=>⟨h1,b,h2,h3,H.cells h4⟩
theorem P9.append{α:Type}[aW α]{T:TypeId}(hT:qH TE T α)(a0:aW.cT α=[]){n1:Nat}{l ys:List α}{v y:Φ}(h:P9 n1 m l v)(hy:Sl m ys y\/(ys=[]/\∃a' c',y=.slice (some a') 0 c'))(hn:n1<=m.n)(hs:l.length+ys.length<=1000000):
  ∃v' m1,av TE (m.wl m.n) .append [T,T] [v,y]=some (v',m1)/\P9 n1 m1 (l++ys) v'/\m.n<=m1.n/\(n1<=m1.low/\(l=[]->m.n<=m1.low))/\∀c,c<n1->m1.get c=m.get c:=by
 rcases h with⟨H,h⟩|⟨rfl,b,rfl,h3,h4⟩;·obtain⟨v',m1,e1,ho,h2,h3,h4, -⟩:=h.vT hT a0 H hy hn hs;exact⟨v',m1,e1,.inl ⟨by simp[H],ho⟩,h2,⟨h3,λh=>(H h).elim⟩,h4⟩
 by_cases H:ys=[]
 ·subst H;have he:(∃a c,y=.slice (some a) 0 c)\/y=YM:=by
   rcases hy with h|⟨-,h⟩
   ·obtain⟨a,c,rfl⟩:=h.form;cases a with
    |none=>rcases h with⟨h, -⟩|⟨b,o,c,bc,g,h, -⟩ <;>cases h;exact .inr rfl
    |some a=>exact .inl ⟨_,_,rfl⟩
   ·grind
  refine⟨_,m.wl m.n,append_nil hT (Ox _) (by decide) he,.inr ⟨rfl,b,rfl,h3,h4⟩,Ox _,⟨hn,λ_=>Ox _⟩,λ_ _=>rfl⟩
 have hy:Sl m ys y:=hy.resolve_right λh=>H h.1;obtain⟨v',m1,e1,ho,hx,hl⟩:=ik hT h4 hy H (by grind);have:=hx.n;exact⟨v',m1,e1,.inl ⟨H,ho.mono hn⟩,this,⟨by omega,λ_=>by omega⟩,λc hc=>hx.get c (by omega)⟩
end
section
section
variable {X:aK}{x0 x1 x2 x3 x4:Φ}{m:M}{R:Bt->M->Nat->Prop}{W:Words}
theorem F35:dk TE (aL TE X) f35 [x0] m R=ρ m x0 43 λa=>ς a [YM,YM,YM,YM,YM,YM,YM,YM] 43 λb=>ε 43 (υ m) 2 λc=>δ b 40 c λc=>ψ X 81 [c] b λb c d=>θ 43 [(2,b)] λb=>ς c [YM,YM,YM,YM,YM,YM,YM,YM] 43 λf=>ι f 43 (υ c) b λb f=>ε 43 (υ m) 0 λg=>δ b 38 g λg=>ψ X 15 [g,YM] b λb g h=>ξ b 0 λi=>ξ b 1 λ_=>ξ b 2 λ_=>ε 43 (υ c) 0 λb=>ι g 38 b i λb g=>ε 43 (υ m) 1 λi=>δ b 39 i λi=>κ b .len [39] [i] λj _=>Lp (λb d f g=>un d λd _=>η .lss 3 d j λh=>aR h (ζ 39 i d λa=>δ f 62 a λa=>ς f [χ 0,χ 0,χ 0,χ 0,YM,χ 0,χ 0,χ 0,χ 0,χ 0,χ 0] 62 λh=>ι h 62 (υ f) a λa h=>ε 62 (υ f) 1 λi=>ε 60 i 3 λi=>δ a 58 i λi=>ψ X 82 [i] a λa i j=>ε 62 (υ f) 1 λk=>ε 60 k 3 λk=>ι i 58 k a λa i=>ε 43 (υ c) 1 λk=>δ a 39 k λk=>δ a 62 (υ f) λf=>ν a 39 1 [(0,f)] λa f=>κ (M.wl f f.n) .append [39,39] [k,a] λa f=>ε 43 (υ c) 1 λc=>ι f 39 c a λa c=>η .add 3 d (χ 1) λd=>b [d] a (Θ g h j i (M.low f) c)) (ε 43 (υ m) 3 λb=>δ f 41 b λb=>κ f .len [41] [b] λd _=>Lp (λf g h i=>un g λg _=>η .lss 3 g d λd=>aR d (ζ 41 b g λa=>δ h 79 a λa=>ς h [χ 0,YM] 79 λb=>ι b 79 (υ h) a λa b=>ε 79 (υ h) 1 λd=>δ a 35 d λd=>ψ X 41 [d] a λa d j=>ε 79 (υ h) 1 λk=>ι d 35 k a λa d=>ε 43 (υ c) 3 λk=>δ a 41 k λk=>δ a 79 (υ h) λh=>ν a 41 1 [(0,h)] λa h=>κ (M.wl h h.n) .append [41,41] [k,a] λa h=>ε 43 (υ c) 3 λc=>ι h 41 c a λa c=>η .add 3 g (χ 1) λg=>f [g] a (Θ i b j d (M.low h) c)) (δ h 43 (υ c) λb=>ι h 43 (υ a) b λb c=>ai (ah TE b 43 (υ a)) λa=>R [a] b (min i c))) [χ 0] f g)) [χ 0] b (Δ m.n d f h g):=by kernel_rfl
theorem abm:dk TE W Tryz.f9 [x0] m R=W.bC (M.push m (.cells (cells x0) 43 none)) λa=>W.bC (M.push a (.cells [YM,YM,YM,YM,YM,YM,YM,YM] 43 none)) λb=>W.ai (ah TE b 43 (ptrTo m.n)) λc=>W.bs (.func 23) [c] b λb c d=>W.ai (cU .not b) λb=>aR b (W.ai (aJ TE 43 []) λb=>W.aO (aD TE c 43 (ptrTo a.n) b) λb c=>ai (ah TE b 43 (ptrTo a.n)) λa=>R [a,.int .i64 290] b (min (min m.n d) c)) (W.bC (M.push c (.map [] 0)) λb=>W.bC (M.push b (.cells [.map none] 98 none)) λf=>W.aO (aD TE f 98 (ptrTo b.n) (.map (some c.n))) λc f=>W.bC (M.push c (.cells [YM] 35 none)) λg=>W.ai (ah TE g 43 (ptrTo m.n)) λh=>W.bs (.func 32) [h] g λg h i=>gL g λg j k=>W.RF g j.toList k.toList h (min (min (min m.n d) f) i) (λa d f=>W.un a λa g=>W.GX g (W.bC (M.push d (.cells [.int .i64 0,.int .i64 0,.int .i64 0,.int .i64 0] 55 none)) λg=>W.aO (aD TE g 55 (ptrTo d.n) a) λa g=>W.P7 h.n d a λa=>W.ai (ah TE a 98 (ptrTo b.n)) λi=>W.ai (af TE 55 (ptrTo d.n) 1) λj=>W.ai (ah TE a 53 j) λj=>W.ai (kh TE a 98 i j false) λi=>W.ai (cU .not i) λi=>aR i (W.ai (ah TE a 98 (ptrTo b.n)) λb=>W.ai (af TE 55 (ptrTo d.n) 1) λi=>W.ai (ah TE a 53 i) λi=>W.aO (iE TE a 98 b i Ku) λb i=>W.ai (ah TE b 35 (ptrTo c.n)) λj=>W.ai (af TE 55 (ptrTo d.n) 1) λk=>W.ai (ah TE b 53 k) λk=>W.aO (aF TE b 35 1 [(0,k)]) λb k=>W.aO (av TE (M.wl k k.n) .append [35,35] [j,b]) λb j=>W.aO (aD TE j 35 (ptrTo c.n) b) λb c=>f a .normal b (min (min (min (min (min d.n g) h.n) i) (M.low j)) c)) (f a .normal a (min (min d.n g) h.n)))) (λb d=>W.ai (ah TE b 35 (ptrTo c.n)) λf=>W.bs (.func 33) [f,.func (.func 34) #[] #[]] b λ_ b f=>W.ai (ah TE b 43 (ptrTo m.n)) λg=>W.bs (.func 35) [g] b λb g h=>W.bC (M.push g (.cells [YM,YM,YM,YM,YM,YM,YM,YM] 43 none)) λi=>W.aO (aD TE i 43 (ptrTo g.n) b) λb i=>W.ai (ah TE b 35 (ptrTo c.n)) λc=>W.aO (av TE b .len [35] [c]) λj _=>W.Lp (λb d f h=>W.un d λd _=>W.ai (aA TE .lss 3 d j) λi=>aR i (W.ai (ak TE 35 c d) λa=>W.ai (ah TE f 53 a) λa=>W.bC (M.push f (.cells [.int .i64 0,.int .i64 0] 53 none)) λc=>W.aO (aD TE c 53 (ptrTo f.n) a) λa c=>W.ai (af TE 43 (ptrTo g.n) 1) λi=>W.ai (ah TE a 39 i) λi=>W.aO (av TE a .len [39] [i]) λi _=>W.ai (af TE 43 (ptrTo g.n) 1) λj=>W.ai (ah TE a 39 j) λj=>W.ai (af TE 53 (ptrTo f.n) 0) λk=>W.ai (ah TE a 3 k) λk=>W.ai (af TE 53 (ptrTo f.n) 1) λl=>W.ai (ah TE a 3 l) λl=>W.ai (aJ TE 62 [(0,(.int .i64 8)),(2,k),(4,l)]) λk=>W.aO (aF TE a 39 1 [(0,k)]) λa k=>W.aO (av TE (M.wl k k.n) .append [39,39] [j,a]) λa j=>W.ai (af TE 43 (ptrTo g.n) 1) λk=>W.aO (aD TE j 39 k a) λa k=>W.ai (af TE 43 (ptrTo m.n) 1) λl=>W.ai (ah TE a 39 l) λl=>W.aO (av TE a .len [39] [l]) λn _=>W.Lp (λa c h j=>W.un c λc _=>W.ai (aA TE .lss 3 c n) λk=>aR k (W.jn (λa=>W.ai (ak TE 39 l c) λb=>W.ai (ah TE h 62 b) λb=>W.bC (M.push h (.cells [.int .i64 0,.int .i64 0,.int .i64 0,.int .i64 0,YM,.int .i64 0,.int .i64 0,.int .i64 0,.int .i64 0,.int .i64 0,.int .i64 0] 62 none)) λd=>W.aO (aD TE d 62 (ptrTo h.n) b) λb d=>W.jn (λa=>W.ai (af TE 62 (ptrTo h.n) 0) λc=>W.ai (ah TE b 3 c) λc=>W.ai (aA TE .eql 3 c (.int .i64 2)) λc=>aR c (W.ai (af TE 62 (ptrTo h.n) 2) λc=>W.ai (ah TE b 3 c) λc=>W.ai (af TE 53 (ptrTo f.n) 0) λf=>W.ai (ah TE b 3 f) λf=>W.ai (aA TE .eql 3 c f) λc=>a [c] b (min j d)) (W.ai (af TE 62 (ptrTo h.n) 0) λc=>W.ai (ah TE b 3 c) λc=>W.ai (aA TE .eql 3 c (.int .i64 4)) λc=>aR c (W.ai (af TE 62 (ptrTo h.n) 2) λc=>W.ai (ah TE b 3 c) λc=>W.ai (af TE 53 (ptrTo f.n) 0) λf=>W.ai (ah TE b 3 f) λf=>W.ai (aA TE .eql 3 c f) λc=>a [c] b (min j d)) (a [Zf] b (min j d)))) (λb d j=>W.un b λb _=>W.jn (λa=>aR b (a [Ku] d j) (W.ai (af TE 43 (ptrTo m.n) 0) λb=>W.ai (ah TE d 38 b) λb=>W.ai (ah TE d 62 (ptrTo h.n)) λc=>W.bs (.func 37) [b,c] d λb c g=>(d.n<=g)/\(W.ai (ah TE c 53 (ptrTo f.n)) λd=>W.bs (.func 36) [b,d] c λb c d=>a [b] c (min (min j g) d)))) (λb d f=>W.un b λb _=>aR b (W.ai (af TE 43 (ptrTo g.n) 2) λb=>W.ai (ah TE d 40 b) λb=>W.ai (aJ TE 69 [(0,i),(1,c)]) λc=>W.aO (aF TE d 40 1 [(0,c)]) λc d=>W.aO (av TE (M.wl d d.n) .append [40,40] [b,c]) λb c=>W.ai (af TE 43 (ptrTo g.n) 2) λd=>W.aO (aD TE c 40 d b) λb d=>a [] b (min (min f (M.low c)) d)) (a [] d f)))) (λ_ b d=>W.ai (aA TE .add 3 c (.int .i64 1)) λc=>a [c] b d)) (W.ai (aA TE .add 3 d (.int .i64 1)) λa=>b [a] h j)) [.int .i64 0] a (min (min (min h c) (M.low j)) k)) (W.ai (ah TE f 43 (ptrTo g.n)) λb=>W.bs (.func 23) [b] f λb c d=>W.ai (cU .not b) λb=>aR b (W.ai (aJ TE 43 []) λb=>W.aO (aD TE c 43 (ptrTo a.n) b) λb c=>ai (ah TE b 43 (ptrTo a.n)) λa=>R [a,.int .i64 290] b (min (min h d) c)) (W.ai (ah TE c 43 (ptrTo g.n)) λb=>W.aO (aD TE c 43 (ptrTo a.n) b) λb c=>ai (ah TE b 43 (ptrTo a.n)) λa=>R [a,.int .i64 0] b (min (min h d) c)))) [.int .i64 0] b (min (min (min d f) h) i)) []):=by kernel_rfl
theorem F13:dk TE (aL TE X) f13 [x0,x1] m R=ρ m x0 43 λa=>ς a [YM,YM,YM,YM,YM,YM,YM,YM] 43 λb=>ε 43 (υ m) 0 λc=>δ b 38 c λc=>ε 43 (υ m) 3 λd=>δ b 41 d λd=>θ 43 [(0,c),(3,d)] λc=>ς b [YM,YM,YM,YM,YM,YM,YM,YM] 43 λd=>ι d 43 (υ b) c λc d=>ν c 39 0 [] λc f=>ε 43 (υ m) 1 λg=>δ f 39 g λg=>ai (slice? TE f 39 g none (some x1) none) λg=>κ (M.wl f f.n) .append [39,39] [c,g] λc g=>(f.n<=M.low g)/\(ε 43 (υ m) 1 λf=>δ g 39 f λf=>η .add 3 x1 (χ 1) λh=>ai (slice? TE g 39 f (some h) none none) λf=>κ (M.wl g g.n) .append [39,39] [c,f] λc f=>ε 43 (υ b) 1 λh=>ι f 39 h c λc h=>Lp (λc d f g=>un d λd _=>ε 43 (υ m) 2 λh=>δ f 40 h λh=>κ f .len [40] [h] λh _=>η .lss 3 d h λh=>aR h (jn (λa=>ε 43 (υ m) 2 λc=>δ f 40 c λc=>ζ 40 c d λc=>δ f 69 c λc=>ς f [χ 0,χ 0] 69 λd=>ι d 69 (υ f) c λc d=>jn (λa=>ζ 69 (υ f) (χ 0) λb=>δ c 3 b λb=>η .eql 3 b x1 λb=>aR b (a [Ku] c (min g d)) (ζ 69 (υ f) (χ 1) λb=>δ c 3 b λb=>η .eql 3 b x1 λb=>a [b] c (min g d))) (λc d g=>un c λc _=>aR c (a [] d g) (Lp (λc d g h=>un d λd _=>η .lss 3 d (χ 2) λi=>aR i (jn (λa=>ζ 69 (υ f) d λb=>δ g 3 b λb=>η .gtr 3 b x1 λb=>aR b (ζ 69 (υ f) d λb=>δ g 3 b λb=>η .sub 3 b (χ 1) λb=>ζ 69 (υ f) d λc=>ι g 3 c b λb c=>a [] b (min h c)) (a [] g h)) (λ_ a b=>η .add 3 d (χ 1) λd=>c [d] a b)) (ε 43 (υ b) 2 λc=>δ g 40 c λc=>δ g 69 (υ f) λd=>ν g 40 1 [(0,d)] λd f=>κ (M.wl f f.n) .append [40,40] [c,d] λc d=>ε 43 (υ b) 2 λb=>ι d 40 b c λb c=>a [] b (ω h (M.low d) c))) [χ 0] d g))) (λ_ a b=>η .add 3 d (χ 1) λd=>c [d] a b)) (δ f 43 (υ b) λb=>ι f 43 (υ a) b λb c=>ai (ah TE b 43 (υ a)) λa=>R [a] b (min g c))) [χ 0] c (Δ m.n d (M.low g) (M.low f) h)):=by kernel_rfl
theorem F12:dk TE (aL TE X) f12 [x0,x1] m R=κ m .len [39] [x0] λa _=>κ m .len [39] [x1] λb _=>η .neq 3 a b λa=>aR a (R [Zf] m m.n) (Lp (λa b c d=>un b λb f=>un f λf _=>κ c .len [39] [x0] λg _=>η .lss 3 f g λg=>aR g (ζ 39 x0 f λg=>δ c 62 g λg=>ζ 39 x1 f λh=>δ c 62 h λh=>ψ X 39 [g,h] c λc g h=>ο .not c λc=>aR c (R [Zf] g (min d h)) (η .add 3 f (χ 1) λc=>a [b,c] g (min d h))) (R [Ku] c d)) [Zf,χ 0] m m.n):=by kernel_rfl
theorem F38:dk TE (aL TE X) f38 [x0,x1] m R=ρ m x0 38 λa=>ρ a x1 38 λb=>jn (λc=>ε 38 (υ m) 0 λd=>δ b 33 d λd=>ε 38 (υ a) 0 λf=>δ b 33 f λf=>ψ X 88 [d,f] b λb d f=>ο .not b λb=>aR b (c [Ku] d (min m.n f)) (ε 38 (υ m) 1 λb=>δ d 34 b λb=>κ d .len [34] [b] λb _=>ε 38 (υ a) 1 λg=>δ d 34 g λg=>κ d .len [34] [g] λg _=>η .neq 3 b g λb=>aR b (c [Ku] d (min m.n f)) (ε 38 (υ m) 2 λb=>δ d 35 b λb=>κ d .len [35] [b] λb _=>ε 38 (υ a) 2 λg=>δ d 35 g λg=>κ d .len [35] [g] λg _=>η .neq 3 b g λb=>aR b (c [Ku] d (min m.n f)) (ε 38 (υ m) 3 λb=>δ d 36 b λb=>κ d .len [36] [b] λb _=>ε 38 (υ a) 3 λa=>δ d 36 a λa=>κ d .len [36] [a] λa _=>η .neq 3 b a λa=>c [a] d (min m.n f))))) (λb c d=>un b λb _=>aR b (R [Zf] c d) (Lp (λb c d f=>un c λc g=>un g λg _=>ε 38 (υ m) 1 λh=>δ d 34 h λh=>κ d .len [34] [h] λh _=>η .lss 3 g h λh=>aR h (jn (λb=>ε 38 (υ m) 1 λc=>δ d 34 c λc=>ζ 34 c g λc=>ε 113 c 0 λc=>δ d 60 c λc=>ε 38 (υ a) 1 λh=>δ d 34 h λh=>ζ 34 h g λh=>ε 113 h 0 λh=>δ d 60 h λh=>ψ X 89 [c,h] d λc d h=>ο .not c λc=>aR c (b [Ku] d (min f h)) (ε 38 (υ m) 1 λc=>δ d 34 c λc=>ζ 34 c g λc=>ε 113 c 1 λc=>δ d 31 c λc=>ε 38 (υ a) 1 λa=>δ d 34 a λa=>ζ 34 a g λa=>ε 113 a 1 λa=>δ d 31 a λa=>ψ X 90 [c,a] d λa c d=>ο .not a λa=>b [a] c (ω f h d))) (λa d f=>un a λa _=>aR a (R [Zf] d f) (η .add 3 g (χ 1) λa=>b [c,a] d f))) (Lp (λb c d f=>un c λc g=>un g λg _=>ε 38 (υ m) 2 λh=>δ d 35 h λh=>κ d .len [35] [h] λh _=>η .lss 3 g h λh=>aR h (ε 38 (υ m) 2 λh=>δ d 35 h λh=>ζ 35 h g λh=>δ d 53 h λh=>ε 38 (υ a) 2 λa=>δ d 35 a λa=>ζ 35 a g λa=>δ d 53 a λa=>η .neq 53 h a λa=>aR a (R [Zf] d f) (η .add 3 g (χ 1) λa=>b [c,a] d f)) (Lp (λb c d f=>un c λc g=>un g λg _=>ε 38 (υ m) 3 λh=>δ d 36 h λh=>κ d .len [36] [h] λh _=>η .lss 3 g h λh=>aR h (ε 38 (υ m) 3 λh=>δ d 36 h λh=>ζ 36 h g λh=>δ d 109 h λh=>ε 38 (υ a) 3 λa=>δ d 36 a λa=>ζ 36 a g λa=>δ d 109 a λa=>η .neq 109 h a λa=>aR a (R [Zf] d f) (η .add 3 g (χ 1) λa=>b [c,a] d f)) (R [Ku] d f)) [c,χ 0] d f)) [c,χ 0] d f)) [Zf,χ 0] c d)):=by kernel_rfl
theorem F11:dk TE (aL TE X) f11 [x0,x1] m R=ρ m x0 43 λa=>ρ a x1 43 λb=>jn (λc=>ε 43 (υ m) 0 λd=>δ b 38 d λd=>ε 43 (υ a) 0 λf=>δ b 38 f λf=>ψ X 38 [d,f] b λb d f=>ο .not b λb=>aR b (c [Ku] d (min m.n f)) (ε 43 (υ m) 1 λb=>δ d 39 b λb=>ε 43 (υ a) 1 λg=>δ d 39 g λg=>ψ X 12 [b,g] d λb d g=>ο .not b λb=>aR b (c [Ku] d (ω m.n f g)) (ε 43 (υ m) 2 λb=>δ d 40 b λb=>κ d .len [40] [b] λb _=>ε 43 (υ a) 2 λh=>δ d 40 h λh=>κ d .len [40] [h] λh _=>η .neq 3 b h λb=>aR b (c [Ku] d (ω m.n f g)) (ε 43 (υ m) 3 λb=>δ d 41 b λb=>κ d .len [41] [b] λb _=>ε 43 (υ a) 3 λa=>δ d 41 a λa=>κ d .len [41] [a] λa _=>η .neq 3 b a λa=>c [a] d (ω m.n f g))))) (λb c d=>un b λb _=>aR b (R [Zf] c d) (Lp (λb c d f=>un c λc g=>un g λg _=>ε 43 (υ m) 2 λh=>δ d 40 h λh=>κ d .len [40] [h] λh _=>η .lss 3 g h λh=>aR h (ε 43 (υ m) 2 λh=>δ d 40 h λh=>ζ 40 h g λh=>δ d 69 h λh=>ε 43 (υ a) 2 λa=>δ d 40 a λa=>ζ 40 a g λa=>δ d 69 a λa=>η .neq 69 h a λa=>aR a (R [Zf] d f) (η .add 3 g (χ 1) λa=>b [c,a] d f)) (Lp (λb c d f=>un c λc g=>un g λg _=>ε 43 (υ m) 3 λh=>δ d 41 h λh=>κ d .len [41] [h] λh _=>η .lss 3 g h λh=>aR h (jn (λb=>ε 43 (υ m) 3 λc=>δ d 41 c λc=>ζ 41 c g λc=>ε 79 c 0 λc=>δ d 3 c λc=>ε 43 (υ a) 3 λh=>δ d 41 h λh=>ζ 41 h g λh=>ε 79 h 0 λh=>δ d 3 h λh=>η .neq 3 c h λc=>aR c (b [Ku] d f) (ε 43 (υ m) 3 λc=>δ d 41 c λc=>ζ 41 c g λc=>ε 79 c 1 λc=>δ d 35 c λc=>ε 43 (υ a) 3 λa=>δ d 41 a λa=>ζ 41 a g λa=>ε 79 a 1 λa=>δ d 35 a λa=>ψ X 21 [c,a] d λa c d=>ο .not a λa=>b [a] c (min f d))) (λa d f=>un a λa _=>aR a (R [Zf] d f) (η .add 3 g (χ 1) λa=>b [c,a] d f))) (R [Ku] d f)) [c,χ 0] d f)) [Zf,χ 0] c d)):=by kernel_rfl
theorem F3:dk TE W Tryz.f3 [x0,x1,x2,x3,x4] m R=W.bC (M.push m (.cells (cells x0) 25 none)) λa=>W.bs (.func 6) [] a λa b c=>W.ai (cU .not a) λa=>aR a (R [Zf] b (min m.n c)) (W.ai (ah TE b 25 (ptrTo m.n)) λa=>W.bs (.func 7) [a,x1,x2,x3] b λa b d=>W.bC (M.push b (.cells [YM,YM,YM,YM,YM,YM,YM,YM] 43 none)) λf=>W.aO (aD TE f 43 (ptrTo b.n) a) λa f=>W.ai (ah TE a 43 (ptrTo b.n)) λg=>W.bs (.func 8) [g] a λa g h=>W.ai (bB a 0) λi=>W.ai (bB a 1) λa=>W.ai (ah TE g 43 (ptrTo b.n)) λj=>W.bs (.func 9) [j] g λg j k=>W.ai (bB g 0) λl=>W.ai (bB g 1) λg=>W.bC (M.push j (.cells [YM,YM,YM,YM,YM,YM,YM,YM] 43 none)) λn=>W.aO (aD TE n 43 (ptrTo j.n) l) λl n=>W.Lp (λc d f h=>W.un d λd k=>W.un k λk _=>W.aO (av TE f .len [45] [i]) λl _=>W.ai (aA TE .lss 3 k l) λl=>aR l (W.jn (λa=>W.ai (ak TE 45 i k) λb=>W.ai (af TE 55 b 1) λb=>W.ai (ah TE f 53 b) λb=>W.bs (.func 10) [d,b] f λb c f=>W.ai (cU .not b) λb=>aR b (W.ai (ak TE 45 i k) λb=>W.ai (af TE 55 b 1) λb=>W.ai (ah TE c 53 b) λb=>W.aO (aF TE c 35 1 [(0,b)]) λb c=>W.aO (av TE (M.wl c c.n) .append [35,35] [d,b]) λb c=>a [b] c (min (min h f) (M.low c))) (a [d] c (min h f))) (λa b d=>W.un a λa _=>W.ai (aA TE .add 3 k (.int .i64 1)) λf=>c [a,f] b d)) (W.ai (aA TE .neq 46 a (.int .i64 0)) λa=>aR a (R [Zf] f h) (W.ai (aA TE .neq 46 g (.int .i64 0)) λa=>aR a (W.jn (λa=>W.ai (af TE 43 (ptrTo b.n) 1) λc=>W.ai (ah TE f 39 c) λc=>W.aO (av TE f .len [39] [c]) λc _=>W.aO (av TE f .len [35] [d]) λg _=>W.ai (aA TE .add 3 c g) λc=>W.ai (aA TE .gtr 3 c (.int .i64 8)) λc=>aR c (a [Ku] f h) (W.ai (af TE 43 (ptrTo b.n) 2) λc=>W.ai (ah TE f 40 c) λc=>W.aO (av TE f .len [40] [c]) λc _=>W.aO (av TE f .len [35] [d]) λd _=>W.ai (af TE 43 (ptrTo b.n) 1) λb=>W.ai (ah TE f 39 b) λb=>W.aO (av TE f .len [39] [b]) λb _=>W.ai (aA TE .mul 3 d b) λb=>W.ai (aA TE .add 3 c b) λb=>W.ai (aA TE .gtr 3 b (.int .i64 28)) λb=>a [b] f h)) (λa b c=>W.un a λa _=>R [a] b c)) (W.aO (av TE f .len [45] [i]) λa _=>W.ai (aA TE .eql 3 a (.int .i64 0)) λa=>aR a (W.ai (ah TE f 43 (ptrTo b.n)) λa=>W.ai (ah TE f 43 (ptrTo j.n)) λb=>W.bs (.func 11) [a,b] f λa b c=>R [a] b (min h c)) (W.ai (ah TE f 43 (ptrTo j.n)) λa=>W.bs (.func 8) [a] f λa c f=>W.ai (bB a 0) λg=>W.ai (bB a 1) λa=>W.jn (λi=>W.ai (aA TE .neq 46 a (.int .i64 0)) λa=>aR a (i [Ku] c (min h f)) (W.aO (av TE c .len [45] [g]) λa _=>W.ai (aA TE .gtr 3 a (.int .i64 0)) λa=>aR a (i [Ku] c (min h f)) (W.ai (af TE 43 (ptrTo j.n) 1) λa=>W.ai (ah TE c 39 a) λa=>W.aO (av TE c .len [39] [a]) λa _=>W.ai (af TE 43 (ptrTo b.n) 1) λg=>W.ai (ah TE c 39 g) λg=>W.aO (av TE c .len [39] [g]) λg _=>W.aO (av TE c .len [35] [d]) λd _=>W.ai (aA TE .add 3 g d) λd=>W.ai (aA TE .neq 3 a d) λa=>aR a (i [Ku] c (min h f)) (W.ai (af TE 43 (ptrTo j.n) 1) λa=>W.ai (ah TE c 39 a) λa=>W.ai (af TE 43 (ptrTo b.n) 1) λd=>W.ai (ah TE c 39 d) λd=>W.aO (av TE c .len [39] [d]) λd _=>W.ai (slice? TE c 39 a none (some d) none) λa=>W.ai (af TE 43 (ptrTo b.n) 1) λb=>W.ai (ah TE c 39 b) λb=>W.bs (.func 12) [a,b] c λa b c=>W.ai (cU .not a) λa=>i [a] b (min (min h f) c))))) (λa c f=>W.un a λa _=>aR a (R [Zf] c f) (W.ai (af TE 43 (ptrTo b.n) 1) λa=>W.ai (ah TE c 39 a) λa=>W.aO (av TE c .len [39] [a]) λa _=>W.Lp (λa c f g=>W.un c λc h=>W.un h λh _=>W.ai (af TE 43 (ptrTo j.n) 1) λi=>W.ai (ah TE f 39 i) λi=>W.aO (av TE f .len [39] [i]) λi _=>W.ai (aA TE .lss 3 h i) λi=>aR i (W.jn (λa=>W.ai (af TE 43 (ptrTo j.n) 1) λb=>W.ai (ah TE f 39 b) λb=>W.ai (ak TE 39 b h) λb=>W.ai (af TE 62 b 0) λb=>W.ai (ah TE f 3 b) λb=>W.ai (aA TE .neq 3 b (.int .i64 8)) λb=>aR b (a [Ku] f g) (W.ai (af TE 43 (ptrTo j.n) 1) λb=>W.ai (ah TE f 39 b) λb=>W.ai (ak TE 39 b h) λb=>W.ai (af TE 62 b 2) λb=>W.ai (ah TE f 3 b) λb=>W.ai (af TE 43 (ptrTo j.n) 1) λc=>W.ai (ah TE f 39 c) λc=>W.ai (ak TE 39 c h) λc=>W.ai (af TE 62 c 4) λc=>W.ai (ah TE f 3 c) λc=>W.ai (aJ TE 53 [(0,b),(1,c)]) λb=>W.bs (.func 10) [d,b] f λb c d=>W.ai (cU .not b) λb=>a [b] c (min g d))) (λb d f=>W.un b λb _=>aR b (R [Zf] d f) (W.ai (aA TE .add 3 h (.int .i64 1)) λb=>a [c,b] d f))) (W.ai (ah TE f 43 (ptrTo j.n)) λa=>W.ai (af TE 43 (ptrTo b.n) 1) λb=>W.ai (ah TE f 39 b) λb=>W.aO (av TE f .len [39] [b]) λb _=>W.aO (av TE f .len [35] [d]) λc _=>W.bs (.func 14) [x4,c] f λc d h=>(f.n<=h)/\(W.ai (aA TE .add 3 b c) λb=>W.bs (.func 13) [a,b] d λa b c=>W.bs (.func 8) [a] b λa b d=>W.ai (bB a 0) λf=>W.ai (bB a 1) λa=>W.jn (λi=>W.ai (aA TE .eql 46 a (.int .i64 0)) λa=>aR a (W.aO (av TE b .len [45] [f]) λa _=>W.ai (aA TE .gtr 3 a (.int .i64 0)) λa=>i [a] b (min (min (min g h) c) d)) (i [Zf] b (min (min (min g h) c) d))) (λa b c=>W.un a λa _=>R [a] b c)))) [Zf,a] c f))))))) [YM,.int .i64 0] l (min (min (min (min (min (min m.n c) d) f) h) k) n)):=by kernel_rfl
end
end
section
variable {X:aK} {m:M}
theorem acG{α:Type}[aW α]{T:TypeId}(hT:qH TE T α)(e0:aW.cT α=[]){n1:Nat}{acc:List α}{r v:Φ}{cs:Bt}{x:α}(hw:oR n1 m acc r)(hn:n1<=m.n)(g0:acc.length<1000000)
  (d0:aF TE m T 1 [(0,v)]=some (KI m.n 0 1 1,m.push (.cells cs (aW.ty α) none))) (hr:∀m',aW.rep m' x cs):
  ∃a m1 r' m2,aF TE m T 1 [(0,v)]=some (a,m1)/\av TE (M.wl m1 (M.n m1)) .append [T,T] [r,a]=some (r',m2)/\Ow n1 m2 (acc++ [x]) r'/\m.n<=m2.n/\(∀c,c<n1->m2.get c=m.get c)/\(∀c,c<m.n->(∀cs g,m.get c≠.cells cs (aW.ty α) g)->m2.get c=m.get c)/\n1<=m2.low:=by
 rw[d0];obtain⟨m1,a0⟩:∃y,y=m.push (.cells cs (aW.ty α) none):=⟨_,rfl⟩
 rw[<-a0];have H:Ext m m1:=by rw[a0];exact Ext.refl.push
 have i0:m1.n=m.n+1:=by rw[a0];rfl
 have b0:m1.get m.n=.cells cs (aW.ty α) none:=by rw[a0];exact M.aX
 rcases hw with hw|⟨rfl,b,rfl,h3,h4⟩
 ·obtain⟨r',m2,e1,h1,h2,h3,h4⟩:=(hw.aE H).append hT (by grind) (gU b0 (hr _)) (by omega) (by grind);refine⟨_,m1,r',m2,rfl,e1,h1,by have:=h2.n;omega,λc hc=>by rw[h2.get c hc,H.get c (by omega)],λc hc j0=>?_,h3⟩;rw[fg e1 (by omega) λad n k e he=>?_,H.get c hc];have⟨k0,g',l0,_⟩:=eR hw e;grind
 obtain⟨r',m2,e1,ho,hx,hl⟩:=ik hT (H.cells h4) (gU (x:=x) b0 (hr _)) (by simp) (by simp);have:=hx.n;exact⟨_,m1,r',m2,rfl,e1,ho.mono (by omega),by omega,λc hc=>by rw[hx.get c (by omega),H.get c (by omega)],λc hc _=>by rw[hx.get c (by omega),H.get c hc],by omega⟩
theorem qd{α:Type}[aW α]{T:TypeId}{ti:TI}(hT:qH TE T α)(a0:aW.cT α=[])(k0:aW.ty α≠43)(t1:TE.ty.get T=some ti)(t2:ti.size=1){n1 O o:Nat}{c0:Bt}{acc:List α}{r v:Φ}{cs:Bt}{x:α}(hc:m.get O=.cells c0 43 none)(ho:c0[o]?=some r)(hw:oR n1 m acc r)(hn:n1<=m.n)(e0:acc.length<1000000)
  (g0:aF TE m T 1 [(0,v)]=some (KI m.n 0 1 1,m.push (.cells cs (aW.ty α) none))) (hr:∀m',aW.rep m' x cs):
  ∃a m1 H m2 m3,aF TE m T 1 [(0,v)]=some (a,m1)/\av TE (M.wl m1 (M.n m1)) .append [T,T] [r,a]=some (H,m2)/\aD TE m2 T (Ga O o) H=some (m3,O)/\n1<=m2.low/\Ow n1 m3 (acc++ [x]) H/\m3.get O=.cells (c0.set o H) 43 none/\m.n<=m3.n/\(∀c,c<n1->c≠O->m3.get c=m.get c)/\∀c cs t g,m.get c=.cells cs t g->t≠aW.ty α->t≠43->m3.get c=.cells cs t g:=by
 have⟨a,m1,H,m2,e1,e2,h1,h2,h3,h4,h5⟩:=acG hT a0 hw hn e0 g0 hr;have l0:=M.aU hc;have g2:m2.get O=.cells c0 43 none:=by
  grind
 have i0:o<c0.length:=(OJ.1 ho).1;have b0:=pg (E:=TE) (o:=o) (x:=H) t1 g2 (by rw[h1.sl.cells,t2];rfl) (by rw[h1.sl.cells];simp;omega) (by rw[h1.sl.cells];simp[h1.sl.one]);have d0:c0.take o++(cells H++c0.drop (o+(cells H).length))=c0.set o H:=by rw[h1.sl.cells];exact iO i0
 rw[d0]at b0;have hk:∀c,c≠O->(m2.set O (.cells (c0.set o H) 43 none)).get c=m2.get c:=λc hc=>M.dg hc;refine⟨a,m1,H,m2,_,e1,e2,b0,h5,yn a0 h1 λad n k e=>?_,M.dw (M.aU g2),h2,λc n0 o0=>by grind,λc cs t g hg p0 q0=>?_⟩
 ·obtain⟨j0,g',r0, -⟩:=eR h1 e;grind
 rw[hk c λe=>by grind,h4 c (M.aU hg) λj0 g' e=>by grind,hg]
structure ko(n1 O:Nat)(m0 m:M)(y:Yd)(a b c d e tv pv qv:Φ)(ts:List TW)(ps:List (Nat×Nat))(qs:List QW):Prop where
 cell:m.get O=.cells (scc a b c d e tv pv qv) 43 none
 y:lR m y a b c d e
 tO:oR n1 m ts tv
 tk:zt m ts
 pO:oR n1 m ps pv
 qO:Sl m qs qv
 qk:Iu m qs
 n:m0.n<=m.n
 fr:∀c,c < n1->m.get c=m0.get c
section
variable {n1 O:Nat} {m0 m':M} {y:Yd} {a b c d e tv pv qv:Φ} {ts:List TW} {ps:List (Nat×Nat)} {qs:List QW}
theorem ko.aE(h:ko n1 O m0 m y a b c d e tv pv qv ts ps qs)(hn:n1<=m0.n)(H:Ext m m'):ko n1 O m0 m' y a b c d e tv pv qv ts ps qs:=⟨H.cells h.cell,h.y.aE H,h.tO.aE H,h.tk.aV λ_ _ _ hc=>H.cells hc,h.pO.aE H,h.qO.aE H,h.qk.aV λ_ _ _ hc=>H.cells hc,YB h.n H.n,λc hc=>(H.get c (IV hc (YB hn h.n))).trans (h.fr c hc)⟩
theorem ko.nj(h:ko n1 O m0 m y a b c d e tv pv qv ts ps qs){s:jk}(h1:s.y=y)(H:ts.map TW.t=s.ts)(h3:ps=s.ps)(h4:qs.map QW.q=s.qs):oQ m s a b c d e tv pv qv:=
 ⟨h1 ▸ h.y,⟨ts,H,h.tO.sl,h.tk⟩,h3 ▸ h.pO.sl,⟨qs,h4,h.qO,h.qk⟩⟩
theorem kR{α:Type}[aW α]{l:List α}{v:Φ}{t0:TypeId}(hk:∀c cs t g,m.get c=.cells cs t g->t≠t0->t≠43->m'.get c=.cells cs t g)(H:∀t,t∈aW.ty α::aW.cT α->t≠t0/\t≠43)(h:Sl m l v):Sl m' l v:=
 h.aV λc cs t g hc hm=>hk c cs t g hc (H t hm).1 (H t hm).2
theorem Nj{α:Type}[aW α](H:aW.cT α=[]){l:List α}{v:Φ}{t0:TypeId}(hk:∀c cs t g,m.get c=.cells cs t g->t≠t0->t≠43->m'.get c=.cells cs t g)(ht:aW.ty α≠t0/\aW.ty α≠43)(h:Ow n1 m l v):Ow n1 m' l v:=
 yn H h λad n k e=>by
  obtain⟨cs,g,hg, -⟩:=eR h e;grind
theorem ig{α:Type}[aW α](H:aW.cT α=[]){l:List α}{v:Φ}{t0:TypeId}(hk:∀c cs t g,m.get c=.cells cs t g->t≠t0->t≠43->m'.get c=.cells cs t g)(ht:aW.ty α≠t0/\aW.ty α≠43)(h:oR n1 m l v):oR n1 m' l v:=
 h.imp (λh=>Nj H hk ht h) λ⟨h1,b,h2,h3,h4⟩=>⟨h1,b,h2,h3,hk _ _ _ _ h4 ht.1 ht.2⟩
theorem tqw:∀t,t∈aW.ty QW::aW.cT QW->t≠62/\t≠43:=λt h=>by simp only[aW.ty,aW.cT,RN,ZX,or_false]at h;subst h;decide
theorem tqp:∀t,t∈aW.ty QW::aW.cT QW->t≠69/\t≠43:=λt h=>by simp only[aW.ty,aW.cT,RN,ZX,or_false]at h;subst h;decide
theorem ko.Sv(h:ko n1 O m0 m y a b c d e tv pv qv ts ps qs)(hO:n1<=O)(hn:n1<=m0.n){x:TW}(hx:Sl m x.t.un.shape x.w/\x.t.un.shape.length<=4/\dB x.t)(hl:ts.length<1000000):
  ∃z m1 r' m2 m3,aF TE m 39 1 [(0,x.v)]=some (z,m1)/\av TE (M.wl m1 (M.n m1)) .append [39,39] [tv,z]=some (r',m2)/\aD TE m2 39 (Ga O (0+5)) r'=some (m3,O)/\n1<=m2.low/\ko n1 O m0 m3 y a b c d e r' pv qv (ts++ [x]) ps qs/\m.n<=m3.n/\∀c cs t g,m.get c=.cells cs t g->t≠62->t≠43->m3.get c=.cells cs t g:=by
 have a0:=h.n;obtain⟨z,m1,r',m2,m3,e1,e2,e3,h1,h2,h3,h4,h5,H⟩:=qd (m:=m) (x:=x) zr rfl (by decide) Sm rfl (n1:=n1) (o:=0+5) h.cell rfl h.tO (by omega) hl BF λ_=>⟨rfl,hx.1.one⟩
 replace H:∀c cs t g,m.get c=.cells cs t g->t≠62->t≠43->m3.get c=.cells cs t g:=H;refine⟨z,m1,r',m2,m3,e1,e2,e3,h1,⟨h3,h.y.aV λc cs t g hc ht=>H c cs t g hc (by grind) (by grind),.inl h2,λw hw=>?_,ig rfl H (by decide) h.pO,kR H tqw h.qO,h.qk.aV λc cs g hc=>H c cs _ g hc (by decide) (by decide),by omega,λc hc=>(h5 c hc (by omega)).trans (h.fr c hc)⟩,h4,H⟩;rcases OH.1 hw with hw|hw;·exact(h.tk.aV λc cs g hc=>H c cs _ g hc (by decide) (by decide)) w hw
 obtain rfl:=Qk.1 hw;exact⟨kR H (λt h=>by simp only[aW.ty,aW.cT,RN,ZX,or_false]at h;subst h;decide) hx.1,hx.2⟩
theorem ko.W2(h:ko n1 O m0 m y a b c d e tv pv qv ts ps qs)(hq:Ow n1 m qs qv)(hO:n1<=O)(hn:n1<=m0.n){x:QW}(hx:Sl m x.q.lg x.w/\YQ x.q)(hl:qs.length<1000000):
  ∃z m1 r' m2 m3,aF TE m 41 1 [(0,x.v)]=some (z,m1)/\av TE (M.wl m1 (M.n m1)) .append [41,41] [qv,z]=some (r',m2)/\aD TE m2 41 (Ga O (0+7)) r'=some (m3,O)/\n1<=m2.low/\ko n1 O m0 m3 y a b c d e tv pv r' ts ps (qs++ [x])/\Ow n1 m3 (qs++ [x]) r'/\m.n<=m3.n:=by
 have a0:=h.n;obtain⟨z,m1,r',m2,m3,e1,e2,e3,h1,h2,h3,h4,h5,H⟩:=qd (m:=m) (x:=x) PK rfl (by decide) WQ rfl (n1:=n1) (o:=0+7) h.cell rfl (.inl hq) (by omega) hl Ns λ_=>⟨rfl,hx.1.one⟩
 replace H:∀c cs t g,m.get c=.cells cs t g->t≠79->t≠43->m3.get c=.cells cs t g:=H;refine⟨z,m1,r',m2,m3,e1,e2,e3,h1,⟨h3,h.y.aV λc cs t g hc ht=>H c cs t g hc (by grind) (by grind),ig rfl H (by decide) h.tO,h.tk.aV λc cs g hc=>H c cs _ g hc (by decide) (by decide),ig rfl H (by decide) h.pO,h2.sl,λw hw=>?_,by omega,λc hc=>(h5 c hc (by omega)).trans (h.fr c hc)⟩,h2,h4⟩;rcases OH.1 hw with hw|hw;·exact(h.qk.aV λc cs g hc=>H c cs _ g hc (by decide) (by decide)) w hw
 obtain rfl:=Qk.1 hw;exact⟨kR H (λt h=>by simp only[aW.ty,aW.cT,RN,ZX,or_false]at h;subst h;decide) hx.1,hx.2⟩
theorem ko.Sw(h:ko n1 O m0 m y a b c d e tv pv qv ts ps qs)(hO:n1<=O)(hn:n1<=m0.n){x:Nat×Nat}(hl:ps.length<1000000):
  ∃z m1 r' m2 m3,aF TE m 40 1 [(0,.agg (yi x).toArray)]=some (z,m1)/\av TE (M.wl m1 (M.n m1)) .append [40,40] [pv,z]=some (r',m2)/\aD TE m2 40 (Ga O (0+6)) r'=some (m3,O)/\n1<=m2.low/\ko n1 O m0 m3 y a b c d e tv r' qv ts (ps++ [x]) qs/\m.n<=m3.n/\∀c cs t g,m.get c=.cells cs t g->t≠69->t≠43->m3.get c=.cells cs t g:=by have a0:=h.n;obtain⟨z,m1,r',m2,m3,e1,e2,e3,h1,h2,h3,h4,h5,H⟩:=qd (m:=m) (x:=x) GI rfl (by decide) Sk rfl (n1:=n1) (o:=0+6) h.cell rfl h.pO (by omega) hl Nt λ_=>rfl;replace H:∀c cs t g,m.get c=.cells cs t g->t≠69->t≠43->m3.get c=.cells cs t g:=H;exact⟨z,m1,r',m2,m3,e1,e2,e3,h1,⟨h3,h.y.aV λc cs t g hc ht=>H c cs t g hc (by grind) (by grind),ig rfl H (by decide) h.tO,h.tk.aV λc cs g hc=>H c cs _ g hc (by decide) (by decide),.inl h2,kR H tqp h.qO,h.qk.aV λc cs g hc=>H c cs _ g hc (by decide) (by decide),by omega,λc hc=>(h5 c hc (by omega)).trans (h.fr c hc)⟩,h4,H⟩
end
theorem V2{W:Words}{x0:Φ}{m:M}{R:Bt->M->Nat->Prop}:dP TE W f81 [x0] m R=V7 40 W x0 m R:=by kernel_rfl
theorem acN(H:cd X){l:List (Nat×Nat)}{v:Φ}(hl:Sl m l v)(hs:l.length<=1000000):∃v' m',C X (.func 81) [v] m m.n v' m'/\Ext m m'/\oR m.n m' l v':=
 pM GI (H.no _ rfl) (Kg func81) rfl V2 (by kernel_rfl) (λ_ _ _=>by kernel_rfl) (λ_=>by kernel_rfl) hl hs
theorem RT{a:Φ}(h:cells a=[a]):aJ TE 43 [(2,a)]=some (nj YM YM YM YM YM YM a YM):=by rw[abQ (by rw[h];rfl),h];rfl
set_option maxHeartbeats 2000000 in
theorem Ge(hX:cd X){s:jk}{r r2 st rc mo tv pv qv:Φ}(hP:EN s)(hV:oQ m s r r2 st rc mo tv pv qv):
  ∃rv m',C X (.func 35) [nj r r2 st rc mo tv pv qv] m m.n rv m'/\Ext m m'/\∃a b c d e a0 H b0 ts qs,rv=nj a b c d e a0 H b0/\lR m' s.y a b c d e/\ts.map TW.t=s.ts/\oR m.n m' ts a0/\zt m' ts/\oR m.n m' s.ps H/\qs.map QW.q=s.qs/\Sl m' qs b0/\Iu m' qs:=by
 refine Cl.EL hX (Kg func35) ?_;have H2:=hP.od.len;have I2:=hP.tl;have J2:=hP.ql;rw[F35];dsimp only[δ,ε,ζ,η,θ,ι,κ,ν,ξ,ρ,ς,υ,χ,ψ,Δ,Θ];refine aw λm1 K2 D1 L2=>?_;refine aw λm2 M2 E1 F1=>?_;have x2:Ext m m2:=⟨by omega,by grind⟩
 have g1:m2.get m.n=.cells (scc r r2 st rc mo tv pv qv) 43 none:=(F1 m.n (by omega)).trans D1;have g2:m2.get m1.n=.cells (scc YM YM YM YM YM YM YM YM) 43 none:=E1;have D0:=hV.aE x2;unfold ptrTo;simp only[dE,cX,dZ,eU,di,bD,eT,ae];rw[(fK g1).2.2.1,ae];obtain⟨H,m6,c6,x6,p6⟩:=acN (m:=m2) hX D0.ps (by omega);refine aG c6 ?_;have n6:=x6.n;have s6:=p6.sl;rw[RT s6.cells,ae];refine aw λm9 N2 G1 O2=>?_;refine aC oW G1 rfl rfl (by show(true && (true && (true && (true && (true && (true && (one H && (true && true))))))))=true;rw[s6.one];rfl) λm10 i2 O0 j2=>?_;have g10:m10.get m6.n=.cells (scc YM YM YM YM YM YM H YM) 43 none:=O0;have E0:Ext m6 m10:=⟨by omega,by grind⟩
 have j0:=x6.trans E0;have n10:=E0.n;rw[(fK (j0.cells g1)).1,ae];obtain⟨rv,m15,H1,k0,a,b,c,d,e,n,rfl,hY⟩:=Lh (m:=m10) hX (D0.y.aE j0) hP.y;refine aG H1 ?_;have n15:=k0.n;rw[aH,aH,aH];simp only[zi,F9,ae];refine bS ka (k0.cells g10) rfl (by show 0+0+5<=8;decide) hY.dS λm21 k2 P0 v0=>?_;have g21:m21.get m6.n=.cells (scc a b c d e YM H YM) 43 none:=P0;have P2:=k0.cells g10;have a1:∀c cs t g,m15.get c=.cells cs t g->t≠43->m21.get c=.cells cs t g:=λc cs t g hc ht=>(v0 c λe=>by grind).trans hc;have l0:∀c,c < m2.n->m21.get c=m2.get c:=λc hc=>by rw[v0 c (by omega),k0.get c (by omega),j0.get c hc]
 have c1:ko m2.n m6.n m2 m21 s.y a b c d e YM H YM [] s.ps []:=⟨g21,hY.aV λc cs t g hc ht=>a1 c cs t g hc (by grind),.inl .nil,λx hx=>(by cases hx),ig (t0:=43) rfl (λc cs t g hc ht _=>a1 c cs t g hc ht) (by decide) ((p6.aE E0).aE k0),.nil,λx hx=>(by cases hx),by omega,l0⟩
 have gm:∀{mm:M},(∀c,c < m2.n->mm.get c=m2.get c)->mm.get m.n=.cells (scc r r2 st rc mo tv pv qv) 43 none:=λh=>(h _ (by omega)).trans g1;have p0:∀{mm:M},(∀c,c < m2.n->mm.get c=m2.get c)->oQ mm s r r2 st rc mo tv pv qv:=λh=>D0.aV λc cs t g hc _ _=>(h c (M.aU hc)).trans hc;obtain⟨l,hl,d0, -⟩:=(p0 l0).ts;have q0:l.length=s.ts.length:=by grind
 rw[(fK (gm l0)).2.1,ae,d0.len cV,q0,az];clear hl d0 q0;refine Lp.intro (γ:=Nat) (λi=>s.ts.length-i) (λi vs mm lo=>∃acc a0,vs=[.int .i64 i]/\i<=s.ts.length/\m.n<=lo/\ko m2.n m6.n m2 mm s.y a b c d e a0 H YM acc s.ps []/\acc.map TW.t=s.ts.take i) 0 ⟨[],_,rfl,ZE _,by omega,c1,rfl⟩ ?_;rintro i vs mm lo ⟨acc,a0,rfl,hi,d1,hO,e0⟩;have nO:=hO.n
 have Q2:acc.length=i:=by
  have:=congrArg List.length e0
  grind
 rw[aB,aM,ae,aj];refine an (λn0=>?_) (λo0=>?_)
 ·have n0:i < s.ts.length:=by grind
  have⟨l,hl,d0,I1⟩:=(p0 hO.fr).ts;have q0:l.length=s.ts.length:=by grind
  obtain⟨x,hx⟩:∃x,l[i]?=some x:=⟨_,Fx (by omega)⟩
  have F0:s.ts[i]?=some x.t:=by grind
  have⟨ad,cs,e1,e2,e3⟩:=d0.index cV (k:=.i64) hx;obtain⟨rfl,G0⟩:cs=x.c/\one x.w=true:=e3;have e2:ah TE mm 62 ad=some (x.t.v x.w):=e2;have⟨h1,h2,h3⟩:=I1 x (LZ hx);rw[(show ak TE 39 tv (.int .i64 i)=some ad from e1),ae,e2,ae];refine aw λT2 l2 i1 o2=>?_;refine aC mF i1 rfl rfl (Tk.cH G0) λH0 u2 j1 v2=>?_;have I0:H0.get mm.n=.cells (x.t.c x.w) 62 none:=j1;have k1:Ext mm H0:=⟨by omega,by grind⟩
  rw[(rX I0).2.2.2.1,ae];obtain⟨w',a3,J1,r0,l1⟩:=AV (m:=H0) hX (h1.aE k1) (by omega);refine aG J1 ?_;have n42:=r0.n;have c3:=r0.cells I0;have hw:=Hf l1.sl;refine bS vj (r0.cells I0) (by rw[hw.1];rfl) (by grind) (by grind) λs0 w2 y2 y0=>?_;have K1:s0.get mm.n=.cells (x.t.c w') 62 none:=by grind
  have L1:Ext mm s0:=⟨by omega,λc hc=>by rw[y0 c (by omega),r0.get c (by omega),k1.get c hc]⟩
  have z0:=hO.aE (Ox _) L1;have N1:Sl s0 x.t.un.shape w':=kR (t0:=62) (λc cs t g hc ht _=>(y0 c λe=>by grind).trans hc) (λt h=>by simp only[aW.ty,aW.cT,RN,ZX,or_false]at h;subst h;decide) l1.sl;rw[(fK z0.cell).2.1,ae,gI K1,ae];obtain⟨z,d3,r',g3,i3,b1,b2,b3,b4,J0,b5, -⟩:=z0.Sv (by omega) (Ox _) (x:=⟨x.t,w'⟩) ⟨N1,h2,h3⟩ (by omega);rw[(show aF TE s0 39 1 [(0,x.t.v w')]=_ from b1),az,b2,az,b3,az,aP,ae,wrap64];refine⟨i+1,by omega,_,_,rfl,n0,by omega,J0,?_⟩;rw[Q1,F0,<-e0,Cu];rfl
 have o0:i=s.ts.length:=by grind
 subst o0;rw[V9]at e0;obtain⟨q,hq,o1, -⟩:=(p0 hO.fr).qs;have p1:q.length=s.qs.length:=by grind
 rw[(fK (gm hO.fr)).2.2.2.1,ae,o1.len kQ,p1,az];clear hq o1 p1;refine Lp.intro (γ:=Nat) (λi=>s.qs.length-i) (λi vs mm lo=>∃qs b0,vs=[.int .i64 i]/\i<=s.qs.length/\m.n<=lo/\ko m2.n m6.n m2 mm s.y a b c d e a0 H b0 acc s.ps qs/\Ow m2.n mm qs b0/\qs.map QW.q=s.qs.take i) 0 ⟨[],_,rfl,ZE _,by omega,hO,.nil,rfl⟩ ?_;clear d1 hO nO;rintro i vs mm lo ⟨qs,b0,rfl,hi,d1,hO,O1,g0⟩;have nO:=hO.n
 have z2:qs.length=i:=by
  have:=congrArg List.length g0
  grind
 rw[aB,aM,ae,aj];refine an (λn0=>?_) (λo0=>?_)
 ·have n0:i < s.qs.length:=by grind
  have⟨l,hl,d0,P1⟩:=(p0 hO.fr).qs;have q0:l.length=s.qs.length:=by grind
  obtain⟨x,hx⟩:∃x,l[i]?=some x:=⟨_,Fx (by omega)⟩
  have F0:s.qs[i]?=some x.q:=by grind
  have⟨ad,cs,e1,e2,e3⟩:=d0.index kQ (k:=.i64) hx;obtain⟨rfl,G0⟩:cs=x.c/\one x.w=true:=e3;have e2:ah TE mm 79 ad=some x.v:=e2;have⟨h1,h2⟩:=P1 x (LZ hx);have j3:=h2.len;rw[(show ak TE 41 qv (.int .i64 i)=some ad from e1),ae,e2,ae];refine aw λk3 A2 r1 B2=>?_;refine aC LF r1 rfl rfl (by show(true && (one x.w && true))=true;rw[G0];rfl) λK0 C2 u1 D2=>?_;have L0:K0.get mm.n=.cells x.c 79 none:=u1;have v1:Ext mm K0:=⟨by omega,by grind⟩
  rw[(La L0).2.1,ae];obtain⟨w',l3,T1,u0,w1⟩:=AX (m:=K0) hX (h1.aE v1) (by omega);refine aG T1 ?_;have m3:=u0.n;have n3:=u0.cells L0;have hw:=Hf w1.sl;refine bS CZ (u0.cells L0) (by rw[hw.1];rfl) (by grind) (by grind) λN0 E2 F2 A0=>?_;have a2:N0.get mm.n=.cells (QW.c ⟨x.q,w'⟩) 79 none:=by grind
  have y1:Ext mm N0:=⟨by omega,λc hc=>by rw[A0 c (by omega),u0.get c (by omega),v1.get c hc]⟩
  have B0:=hO.aE (Ox _) y1;have c2:Sl N0 x.q.lg w':=kR (t0:=79) (λc cs t g hc ht _=>(A0 c λe=>by grind).trans hc) (λt h=>by simp only[aW.ty,aW.cT,RN,ZX,or_false]at h;subst h;decide) w1.sl;rw[(fK B0.cell).2.2.2.1,ae,(La a2).2.2,ae];obtain⟨z,o3,r',r3,u3,b1,b2,b3,b4,J0,z1,b5⟩:=B0.W2 (O1.aE y1) (by omega) (Ox _) (x:=⟨x.q,w'⟩) ⟨c2,h2⟩ (by omega);rw[b1,az,b2,az,b3,az,aP,ae,wrap64];refine⟨i+1,by omega,_,_,rfl,n0,by omega,J0,z1,?_⟩;rw[Q1,F0,<-g0,Cu];rfl
 have o0:i=s.qs.length:=by grind
 subst o0;rw[V9]at g0;have hS:=hO.nj (s:=s) rfl e0 rfl g0;rw[(fK hO.cell).2.2.2.2,ae];refine aC oW ((hO.fr m1.n (by omega)).trans g2) rfl rfl hS.dS λA1 G2 B1 C0=>?_;have d2:A1.get m1.n=.cells (scc a b c d e a0 H b0) 43 none:=B1;rw[(fK d2).2.2.2.2,ae];have i0:∀c cs t g,mm.get c=.cells cs t g->t≠43->t≠43->A1.get c=.cells cs t g:=λc cs t g hc ht _=>(C0 c λe=>by have:=(hO.fr m1.n (by omega)).trans g2;grind).trans hc
 refine sX (h0:=trivial) (lo:=min lo m1.n) (m:=m) (vs:=[nj a b c d e a0 H b0]) (Q:=λrv m'=>∃a b c d e a0 H b0 ts qs,rv=nj a b c d e a0 H b0/\lR m' s.y a b c d e/\ts.map TW.t=s.ts/\oR m.n m' ts a0/\zt m' ts/\oR m.n m' s.ps H/\qs.map QW.q=s.qs/\Sl m' qs b0/\Iu m' qs) (by omega) ⟨by omega,λc hc=>by rw[C0 c (by omega),hO.fr c (by omega),x2.get c hc]⟩
  ⟨_,_,_,_,_,_,_,_,acc,qs,rfl,hO.y.aV λc cs t g hc ht=>i0 c cs t g hc (by grind) (by grind),e0,(ig rfl i0 (by decide) hO.tO).mono (by omega),hO.tk.aV λc cs g hc=>i0 c cs _ g hc (by decide) (by decide),(ig rfl i0 (by decide) hO.pO).mono (by omega),g0,kR i0 (λt h=>by simp only[aW.ty,aW.cT,RN,ZX,or_false]at h;subst h;decide) hO.qO,hO.qk.aV λc cs g hc=>i0 c cs _ g hc (by decide) (by decide)⟩ λhf=>?_
 have C1:(D.bw a && (D.bw b && (D.bw c && (D.bw d && (D.bw e && (D.bw a0 && (D.bw H && (D.bw b0 && true))))))))=true:=hf;simp only[JJ]at C1;have fl:=C1;obtain⟨e1,rfl⟩:=dK hO.tO.sl fl.2.2.2.2.2.1;obtain⟨e2,rfl⟩:=dK hO.pO.sl fl.2.2.2.2.2.2.1;obtain⟨e3,rfl⟩:=dK hO.qO fl.2.2.2.2.2.2.2.1;subst e1 e3;exact⟨_,_,_,_,_,_,_,_,[],[],rfl,hO.y.flat ⟨fl.1,fl.2.1,fl.2.2.1,fl.2.2.2.1,fl.2.2.2.2.1⟩ m,e0,.inl .nil,λx hx=>(by cases hx),.inl (e2 ▸ .nil),g0,.nil,λx hx=>(by cases hx)⟩
end
end Go.Proofs.YtigpcbodmjjaiaaGreatDoor
