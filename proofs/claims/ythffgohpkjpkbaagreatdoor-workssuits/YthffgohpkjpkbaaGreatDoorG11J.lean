/- works.putBack, come: what a .. -/
import Derived.Test.YthffgohpkjpkbaaGreatDoorG10J
import Derived.Lib.UnsafeStr
set_option maxHeartbeats 1000000
set_option linter.defProp false
set_option maxRecDepth 100000
noncomputable section
namespace Go.Proofs.YthffgohpkjpkbaaGreatDoor
open Go Go.D Go.Proofs.Tryz
variable{m m':M}{t:Tk}
section
variable {X:aF} {m:M}
def Gc{D:Option (List Ac)}{v t:Φ}{lo:Nat}{Q:Prop}(H:Q)(h:oH D m' (.tuple #[v,t]))(F:m.n<=lo)(hx:Ext m m'):
  (aZ (aM [v,t])/\m.n<=lo/\(Q/\Ext m m/\oH D m (aM [v,t])))\/((aZ (aM [v,t])=false\/lo<m.n)/\(min m.n lo=m.n/\Ext m m'/\oH D m' (aM [v,t]))):=by show(aZ (.tuple #[v,t])/\m.n<=lo/\(Q/\Ext m m/\oH _ m (.tuple #[v,t])))\/((aZ (.tuple #[v,t])=false\/lo<m.n)/\(min m.n lo=m.n/\Ext m m'/\oH _ m' (.tuple #[v,t])));cases hf:aZ (.tuple #[v,t]);grind;exact .inl ⟨rfl,F,H,.refl,h.flat hf m⟩
def Ls(st:List Kp)(id:Int):Option (List Ac):=(st.find? λk=>decide (k.un.id=id)).map λk=>cQ k.un::k.ms.map iM
def Eu(F:cy X){l:List Pl}{v:Φ}(H:Sl m l v)(hs:l.length<=1000000):∃v' m',C X (.func 53) [v] m m.n v' m'/\Ext m m'/\mg m.n m' l v':=
 qm zi (F.no _ rfl) (Us func53) rfl abl bv (λ_ _ _=>bv) (λ_=>bv) H hs
def PA{α:Type}[aQ α]{l:List α}{v:Φ}(h:Sl m l v):cells v=[v]/\one v:=⟨h.cells,h.one⟩
set_option maxHeartbeats 2000000 in
theorem IT(hX:cy X){y:Yd}{r r2 st rc mo:Φ}(hV:tC m y r r2 st rc mo)(hP:rG y)(id:Int):
  ∃rv m',C X (.func 132) [yv r r2 st rc mo,.int .i64 id] m m.n rv m'/\Ext m m'/\oH (Ls y.st id) m' rv:=by
 have r1:=hV.iL;obtain⟨-, -,⟨kl,s0,hK⟩, -, -⟩:=hV;have c2:kl.length<=12:=(by have:=hP.Tc;rwa[<-s0,lZ]at this);apply Cl.Ie hX (Us func132);obtain⟨D,hD⟩:∃D,D=Ls y.st id:=⟨_,rfl⟩;rw[<-hD];unfold Ls at hD;rw[F132];dsimp only[aG];refine ah λm13 u2 u1 v1=>?_;have H:Ext m m13:=⟨ac,v1⟩;have g1:m13.get m.n=.cells (yc r r2 st rc mo) 37 none:=u1;unfold ptrTo;rw[(ff g1).2.2.2.2,ae];have F:=hK.ak H;apply aw (AT (y:=y) hX F.sl ac r1 _);have e0:∀p:KW->Bool,(∀x,p x=decide (x.u.id=id))->(y.st.find? λk=>decide (k.un.id=id))=(kl.find? p).map KW.k:=λp hp=>(by rw[<-s0];unfold yf;rw[List.find?_map];congr 2;funext x;exact(hp x).symm);rcases iK (λx:KW=>decide (x.u.id=id)) kl with⟨e1,e2⟩ |⟨i,x,e1,e2,e3,e4⟩;rw[e1,aK,ae,ag,L5 ce,bN];have:kl.find? (λx:KW=>decide (x.u.id=id))=none:=Rw.2 λx hx=>be;rw[e0 _ λ_=>rfl,this]at hD;exact Gc (by first |rfl |trivial) (by rw[hD];exact⟨_,rfl⟩) ac H;rw[e0 _ λ_=>rfl,xH e2 e3 e4]at hD;have hD:D=some (cQ x.u::x.ms.map iM):=hD;have l0:=Jc e2;simp only[dQ,cf,dO,bA,ae];rw[e1,aK,ae,ag,CF,aT,(ff g1).2.1,ae];have⟨b0,o0,bc,g0,cs,q1,q2,q3,q4,q5⟩:=F.sl.jc fg (k:=.i64) e2;obtain⟨rfl,o1,o2⟩:cs=x.c/\one x.w=true/\one x.mv=true:=q3;have v2:=M.aP q2;rw[q1,ae,cf,ae];have q4:o0+7<=bc.length:=q4;have lu:aC TE m13 43 (.pointer (some ⟨b0,o0+0,none⟩))=some (x.u.v x.w):=(by rw[qO,aI (n:=6) q2 ac];have:(bc.drop (o0+0)).take 6=x.u.c x.w:=(by apply Zk;intro j;rw[Qi];split;rename_i hj;rw[Ns,MU,q5 j (by show j < 7;omega)];(match j,hj with|0,_=>rfl|1,_=>rfl|2,_=>rfl|3,_=>rfl|4,_=>rfl|5,_=>rfl|j+6,hj=>omega);rename_i hj;exact(SI be).symm);rw[this];rfl);rw[lu,ae];refine ah λm12 d2 u0 w1=>?_;refine aj dN u0 rfl rfl (Un.dt o1) λm14 g2 y0 h2=>?_;have gu:m14.get m13.n=.cells (x.u.c x.w) 43 none:=y0;have n0:Ext m13 m14:=⟨ac,be⟩;rw[(ji gu).2.2.2.1,ae];have A0:=F.ln x l0;obtain⟨w',m18,y1,p0,B0⟩:=Eu (m:=m14) hX ((F.sh x l0).ak n0) ac;apply aw y1;have hw:=PA B0.sl;have G1:=p0.cells gu;refine bV uD G1 (by rw[hw.1];rfl) be (by rw[hw.1];simp[hw.2]) λm21 i2 O0 j0=>?_;have g21:m21.get m13.n=.cells (x.u.c w') 43 none:=(by rw[O0,hw.1];rfl);have w2:=n0.n;have n18:=p0.n;have A1:Ext m13 m21:=⟨ac,λc hc=>by rw[j0 c ac,p0.get c ac,n0.get c hc]⟩;have k0:Sl m21 x.u.shape w':=B0.sl.aY λc cs t g hc ht=>(by rw[j0 c (λe=>by subst e;rw[G1]at hc;cases hc;simp[aQ.ty,aQ.dU]at ht),hc]);rw[bQ g21,ae,ze,ae];refine pz (x:=⟨cQ x.u,w'⟩) hw.2 k0 A0 Hr λm64 P0 y2 B1 H1=>?_;have xk:=A1.trans P0;have nk:=xk.n;have lm:aC TE m64 30 (.pointer (some ⟨b0,o0+6,none⟩))=some x.mv:=(by rw[kz,aH (xk.cells q2)];exact q5 6 (by show 6 < 7;decide));have Q0:Sl m64 x.ms x.mv:=(F.mv x l0).ak xk;have j2:x.ms.length<=20:=(by have hm:x.k∈y.st:=be;exact(hP.Hp _ hm).len);rw[(ff (xk.cells g1)).2.1,ae,q1,ae,dO,ae,lm,ae,Q0.len cS,an];refine Lp.intro (γ:=Nat) (λj=>x.ms.length-j) (λj vs mm lo=>∃v,vs=[v,.int .i64 j]/\j<=x.ms.length/\Ext m64 mm/\m.n<=lo/\Ap m64.n mm (⟨cQ x.u,w'⟩::(x.ms.take j).map λk=>(⟨iM k,LF⟩:AW)) v) 0 ⟨_,rfl,ZX _,.refl,ac,.inr ⟨_,_,_,rfl,B1,H1.sl⟩⟩ ?_;rintro j vs mm lo ⟨v,rfl,hj,d0,a1,q0⟩;have nm:=d0.n;have K1:=Q0.ak d0
 rw[av,av,aK,ae,ag];refine af (λb1=>?_) (λO1=>?_);have b1:j < x.ms.length:=be;obtain⟨z,hz⟩:∃z,x.ms[j]?=some z:=⟨_,Np b1⟩;have⟨p,p1,p2⟩:=K1.tx (k:=.i64) hz;rw[p1,ae,p2,ae];refine ah λz2 k2 c1 d1=>?_;refine aj rA c1 rfl rfl rfl λh0 l2 h1 i1=>?_;have T1:h0.get mm.n=.cells z.c 68 none:=h1;have a2:Ext mm h0:=⟨ac,λc hc=>by rw[i1 c ac,d1 c hc]⟩;rw[QU T1,ae,SP,ae,BQ,an];obtain⟨j1,i0⟩:∃q,q=h0.push (.cells (AW.c ⟨iM z,LF⟩) 87 none):=⟨_,rfl⟩;rw[<-i0];have k1:Ext h0 j1:=i0 ▸ Ext.refl.push;have l1:j1.get h0.n=.cells (AW.c ⟨iM z,LF⟩) 87 none:=(by rw[i0];exact M.aU);have r0:=a2.trans k1;have A2:=r0.n;obtain⟨v',B2,s1,s2,s3,s4,s5⟩:=(q0.ak r0).append F4 rfl (lv (x:=(⟨iM z,LF⟩:AW)) l1 ⟨rfl,rfl⟩) co ac be;rw[s1,an,aL,ae,wrap64];refine⟨j+1,ac,v',be,ac,⟨ac,λc hc=>by rw[s5 c hc,r0.get c ac,d0.get c hc]⟩,ac,.inl ?_⟩;rw[Tv,hz,Xj];exact s2;obtain rfl:j=x.ms.length:=(by have:¬(j:Int)< (x.ms.length:Int):=LL O1;omega);rw[Nl]at q0;refine Gc (by first |rfl |trivial) ?_ a1 (H.trans (xk.trans d0));rw[hD];have b2:=(k0.ak P0).ak d0;refine⟨_,_,rfl,dg,q0.sl,λa ha=>?_,λa ha=>?_,λa ha=>?_⟩;rcases OS.1 ha with rfl |ha;exact b2;obtain⟨k,_,rfl⟩:=NL.1 ha;exact .nil;rcases OS.1 ha with rfl |ha;exact A0;obtain⟨k,_,rfl⟩:=NL.1 ha;exact Af;rcases OS.1 ha with rfl |ha;exact Hr;obtain⟨k,_,rfl⟩:=NL.1 ha;exact kd_m
set_option maxHeartbeats 4000000 in
theorem acd(hX:cy X)(hS:C1 X)(d2:gI m){y:Yd}{r r2 st rc mo:Φ}{t:Tk}{w:Φ}(hV:tC m y r r2 st rc mo)(hP:rG y)(hw:Sl m t.un.shape w)(o4:t.un.shape.length < 100000)(r4:1<=t.kind/\t.kind<=9):
  ∃rv m',C X (.func 85) [yv r r2 st rc mo,t.v w] m m.n rv m'/\Ext m m'/\oH (fN lR bX bM y t) m' rv:=by
 apply Cl.Ie hX (Us func85);have i3:=hV.iL;have e2:=hV;have⟨⟨l,g0,hF⟩,i2,⟨kl,j2,hK⟩,o2,u4⟩:=hV;have n0:one r=true/\one r2=true:=⟨hF.sl.one,i2.one⟩;have w1:cq (bH l):=(by rw[g0];exact hP.qj);have d4:l.length<=12:=(by have:=hP.qj.len;rwa[<-g0,cE]at this);have P0:kl.length<=12:=(by have:=hP.Tc;rwa[<-j2,lZ]at this);have e4:=hP.WY;have f4:=hP.QD;have j3:=hP.Db.len
 have H:∀R:Ω->M->Nat->Prop,(∀(v:Φ) (b:Bool) (m':M) (lo:Nat),m.n<=lo->Ext m m'->oH (fN lR bX bM y t) m' (.tuple #[v,.bool b])->R [v,.bool b] m' lo)->fP TE (aG TE X) f85 [yv r r2 st rc mo,t.v w] m R:=(by intro R hR;rw[F85];dsimp only[aG];refine ah λm1 w4 u2 l3=>?_;refine ah λm2 y4 v2 y2=>?_;have z2:Ext m m2:=⟨ac,be⟩;have g1:m2.get m.n=.cells (yc r r2 st rc mo) 37 none:=(by rw[y2 _ ac];exact u2);have g2:m2.get m1.n=.cells (t.c w) 58 none:=v2;clear u2 l3 v2 y2;unfold ptrTo;simp only[dq,dQ,fD,eM,bP,bI,bk,dP,eg,dm,cV,dD,cU,aW,ae];rw[(ff g1).1,ae,(mU g2).2.1,ae];obtain⟨rv,m8,c8,x8,f8⟩:=vX (m:=m2) hX (hF.ak z2) ac n0 t.id;apply aw c8;obtain⟨u,wu,is,rfl,fu⟩:=f8.Xu w1;have n8:=x8.n;rw[aD,aD];simp only[LB,IM,ae];refine ah λm11 g4 Q0 y1=>?_;refine aj dN Q0 rfl rfl (Un.dt fu.sl.one) λm12 h4 d1 P0=>?_;have gu:m12.get m8.n=.cells (u.c wu) 43 none:=d1;have e1:Ext m8 m12:=⟨ac,be⟩;have G2:=e1.cells (x8.cells g2);rw[(mU G2).2.1,ae,(mU G2).2.2.2.1,ae,FZ,ae];refine ah λm20 j4 i1 A2=>?_;refine aj Bh i1 rfl rfl rfl λm13 l4 j1 B2=>?_;have gf:m13.get m12.n=.cells (Fc.c ⟨t.id,t.side⟩) 103 none:=j1;have o0:Ext m12 m13:=⟨ac,be⟩;have p0:Ext m8 m13:=e1.trans o0;have gu:=o0.cells gu;have h0:=x8.trans p0;have F:=z2.trans h0;have g1:=h0.cells g1;have g2:=h0.cells g2;have fu:=fu.ak p0;have A4:=p0.n;clear Q0 y1 d1 P0 j1 B2 i1 A2;have⟨tk,tid,Ma,B4,O4⟩:=mU g2;rw[g0]at fu;have y0:m.n<=min (min (min m.n m2.n) m8.n) m12.n:=ac;generalize min (min (min m.n m2.n) m8.n) m12.n=R4 at y0;obtain⟨D,hD⟩:∃D,D=fN lR bX bM y t:=⟨_,rfl⟩;rw[<-hD]at hR;unfold fN at hD;have m3:(cp y.us t.id).isSome=is:=(by rw[fu.eq];cases is <;>rfl);rw[tk,ae,aJ,ae,ag];refine af (λk1=>?_) (λk1=>?_);rw[QL (Ds k1)]at hD;rw[rT g2,ae,ze,ae];refine pz (x:=⟨cQ t.un,w⟩) hw.one (hw.ak F) (by show t.un.shape.length < 1000000;omega) Hr λm22 d0 n22 _ a22=>?_;rw[(ff (d0.cells g1)).2.2.2.2,ae,(we (d0.cells g2)).1,ae];refine aw (AT (y:=y) hX (hK.ak (F.trans d0)).sl ac i3 _) ⟨Aj _,?_⟩;rw[aK,ae,K2];have e:(y.st.any λk=>decide (k.un.id=t.un.id))=kl.any λx=>decide (x.u.id=t.un.id):=(by rw[<-j2];unfold yf;rw[OC];rfl);rw[e]at hD;apply hR _ _ _ _ ac (F.trans d0);cases hc:kl.any λx=>decide (x.u.id=t.un.id);rw[MO be]at hD;rw[hD];exact⟨_,_,rfl,rfl,a22⟩;rw[QL hc]at hD;rw[hD];exact⟨_,rfl⟩;rw[MO (LL k1)]at hD;rw[aJ,ae,ag];refine af (λk2=>?_) (λk2=>?_);rw[QL (Ds k2),m3]at hD;refine aX (λvs mm lo=>∃v b,vs=[v,.bool b]/\m.n<=lo/\Ext m mm/\oH D mm (.tuple #[v,.bool b])) (λQ hQ=>?_) ?_;rw[tid,ae,pF,ae];refine pz (x:=⟨gG 2 t.id,LF⟩) rfl .nil Af (Dk ce) λm22 d0 n22 _ a22=>?_;rw[ag];refine af (λc=>?_) (λc=>hQ _ _ _ ⟨_,_,rfl,ac,F.trans d0,by rw[MO be]at hD;rw[hD];exact⟨_,rfl⟩⟩);rw[(ff (d0.cells g1)).2.1,ae,(hK.ak (F.trans d0)).sl.len fg,an,aK,ae];refine hQ _ _ _ ⟨_,_,rfl,ac,F.trans d0,?_⟩;rw[c,Dn]at hD;have e:y.st.length=kl.length:=be;by_cases A1:kl.length < 12;rw[QL be]at hD;rw[hD,L5 (show(kl.length:Int)< 12 by omega)];exact⟨_,_,rfl,rfl,a22⟩;rw[MO be]at hD;rw[hD,Qr (show¬(kl.length:Int)< 12 by omega)];exact⟨_,rfl⟩;rintro _ mm lo ⟨v,b,rfl,h1,h2,h3⟩;rw[av,av];grind;rw[MO (LL k2)]at hD;rw[aJ,ae,ag];refine af (λk3=>?_) (λk3=>?_);rw[QL (Ds k3)]at hD;rw[(ff g1).2.2.2.2,ae,tid,ae];have⟨rv,W4,n3,M2,q0⟩:=IT (m:=m13) hX (e2.ak F) hP t.id;have hD:D=Ls y.st t.id:=hD;rw[<-hD]at q0;have a5:=M2.n;apply aw n3;obtain⟨v,b,rfl⟩:∃v b,rv=.tuple #[v,.bool b]:=(by unfold oH at q0;cases D with|none=>have⟨v,h⟩:=q0;exact⟨v,_,h⟩|some L=>obtain⟨al,v,h, -⟩:=q0;exact⟨v,_,h⟩);rw[aD,aD];simp only[LB,IM,ae];exact hR _ _ _ _ ac (F.trans M2) q0;rw[MO (LL k3)]at hD;rw[aJ,ae,ag];refine af (λk4=>?_) (λk4=>?_);rw[QL (Ds k4),fu.eq]at hD;have O2:=hF.ak F;refine aX (λvs mm lo=>vs=[.bool (!is || !((bH l).all λv=> !lR u v ||bX t.cD v.cD))]/\Ext m13 mm/\m.n<=lo) (λQ hQ=>?_) ?_;rw[bB,ae,ag];refine af (λc=>hQ _ _ _ ⟨by rw[c];rfl,.refl,ac⟩) (λc=>?_);rw[UY]at c;rw[(ff g1).1,ae,bQ gu,ae];obtain⟨tv,b5,o3,A0,r3⟩:=GB (m:=m13) hX hS O2 ac n0 fu.sl fu.ln;apply aw o3;have d5:=A0.n;have P2:(l.filter λx=>lR u x.u).length < 1000000:=(by have:=Nr (λx:UW=>lR u x.u) l;omega);apply aw (Im hX ((d2.ak F).ak A0) (A0.cells g2) r3.sl P2);refine hQ _ _ _ ⟨?_,A0,ac⟩;rw[c,T9,U4];congr 2;unfold bH;rw[List.all_map,List.any_filter,List.not_all_eq_any_not];congr 1;funext x;simp only[Function.comp_apply];(cases lR u x.u <;>simp;rintro _ mm lo ⟨rfl,b0,l1⟩;have nm:=b0.n;rw[av,ag];refine af (λc=>?_) (λc=>?_);apply hR _ _ _ _ l1 (F.trans b0);have:D=none:=(by rw[hD];cases hi:is with|false=>rfl|true=>rw[hi]at c;rw[QL rfl,F9,MO (λe=>by rw[<-g0]at e;rw[e]at c;cases c)]);rw[this];exact⟨_,rfl⟩;rw[Pz,UY,UY]at c;have⟨c1,c2⟩:=c;rw[c1,QL rfl,F9,QL (by rw[<-g0];exact c2)]at hD;rw[(mU (b0.cells g2)).2.2.2.2,ae,cj,ae];have Q2:=b0.cells gu;refine bV zV Q2 rfl (by show 0+2+1<=6;decide) rfl λe0 u3 B1 i0=>?_;have T2:e0.get m8.n=.cells (Un.c {u with cD:=t.cD} wu) 43 none:=B1;have d3:m1.n≠m8.n:=ac;have e3:=(fu.ak b0).sl;have B0:Sl e0 u.shape wu:=e3.aY λc cs t g hc ht=>(by rw[i0 c (λe=>by subst e;rw[Q2]at hc;cases hc;simp[aQ.ty,aQ.dU]at ht),hc]);rw[(mU ((i0 _ d3).trans (b0.cells g2))).2.1,ae,pF,ae,bQ T2,ae,ze,ae,Ph,an];obtain⟨o1,j0⟩:∃q,q=e0.push (.cells (AW.c ⟨gG 2 t.id,LF⟩++AW.c ⟨cQ {u with cD:=t.cD},wu⟩) 87 none):=⟨_,rfl⟩;rw[<-j0];have k0:Ext e0 o1:=j0 ▸ Ext.refl.push;have G1:o1.get e0.n=.cells (AW.c ⟨gG 2 t.id,LF⟩++AW.c ⟨cQ {u with cD:=t.cD},wu⟩) 87 none:=(by rw[j0];exact M.aU);have n155:=k0.n;apply hR _ _ _ _ ac ⟨ac,λc hc=>by rw[k0.get c ac,i0 c ac,b0.get c ac,F.get c hc]⟩;rw[hD];refine⟨_,_,rfl,rfl,PD G1 rfl e3.one,λa ha=>?_,λa ha=>?_,λa ha=>?_⟩;rcases OS.1 ha with rfl |ha;exact .nil;rw[PY.1 ha];exact B0.ak k0;rcases OS.1 ha with rfl |ha;exact Af;rw[PY.1 ha];exact fu.ln;rcases OS.1 ha with rfl |ha;exact Dk ce;rw[PY.1 ha];exact Hr);rw[MO (LL k4)]at hD;rw[aJ,ae,ag];refine af (λk5=>?_) (λk5=>?_);rw[QL (Ds k5)]at hD;have r1:=i2.ak F;rw[(rN g1).2.2,ae,r1.len cS,an];refine Lp.intro (γ:=Nat) (λj=>y.ms.length-j) (λj vs mm lo=>∃v,vs=[v,.int .i64 j]/\j<=y.ms.length/\Ext m13 mm/\m.n<=lo/\Ow m13.n mm (((y.ms.take j).filter (lM t)).map λx=>(⟨gG 6 x.id,LF⟩:AW)) v) 0 ⟨_,rfl,ZX _,.refl,ac,Ow.nil⟩ ?_;rintro j vs mm lo ⟨v,rfl,hj,b0,l1,H1⟩;have nm:=b0.n;have w3:=r1.ak b0;rw[av,av,aK,ae,ag];refine af (λA1=>?_) (λy3=>?_);have A1:j < y.ms.length:=be;obtain⟨x,hx⟩:∃x,y.ms[j]?=some x:=⟨_,Np A1⟩;have⟨p,p1,p2⟩:=w3.tx (k:=.i64) hx;refine aX (λvs m' O0=>∃v',vs=[v']/\Ext m13 m'/\m.n<=O0/\Ow m13.n m' (((y.ms.take (j+1)).filter (lM t)).map λx=>(⟨gG 6 x.id,LF⟩:AW)) v') (λQ hQ=>?_) ?_;rw[p1,ae,p2,ae];refine ah λm4 A3 K1 B3=>?_;refine aj rA K1 rfl rfl rfl λr0 G3 O1 O3=>?_;have u1:r0.get mm.n=.cells x.c 68 none:=O1;have s0:Ext mm r0:=⟨ac,λc hc=>be⟩;have T1:=b0.trans s0;obtain⟨a0,a1,a2,a3, -⟩:=wP u1;have a4:=QF u1;obtain⟨-,b1, -,b3, -⟩:=mU (T1.cells g2);have v1:=H1.ak s0;refine aX (λvs m' O0=>vs=[.bool (lM t x)]/\r0=m'/\m.n<=O0) (λQ' l0=>?_) ?_;rw[dk,ae,a1,ae,b1,ae,aJ,ae,ag];unfold lM at l0;refine af (λc1=>?_) (λc1=>l0 _ _ _ ⟨be,rfl,ac⟩);rw[eK,ae,a2,ae,b3,ae,aJ,ae,ag];refine af (λc2=>?_) (λc2=>l0 _ _ _ ⟨be,rfl,ac⟩);rw[fy,ae,a4,ae,ag];refine af (λc3=>?_) (λc3=>l0 _ _ _ ⟨be,rfl,ac⟩);rw[kL,ae,a3,ae,aJ,ae,ag];refine af (λc4=>l0 _ _ _ ⟨be,rfl,ac⟩) (λc4=>?_);rw[ae,a3,ae,aJ,ae,ag];refine af (λc5=>l0 _ _ _ ⟨be,rfl,ac⟩) (λc5=>?_);rw[ae,a3,ae,aJ,ae];exact l0 _ _ _ ⟨be,rfl,ac⟩;rintro _ _ ja ⟨rfl,rfl,g3⟩;rw[av,ag];refine af (λc=>?_) (λc=>?_);rw[bS,ae,a0,ae,pF,ae];have P2:((y.ms.take j).filter (lM t)).length<=j:=(by have:=Nr (lM t) (y.ms.take j);rw[PK]at this;omega);refine jx (T:=78) (x:=(⟨gG 6 x.id,LF⟩:AW)) F4 rfl v1 ac be BQ (λ_=>⟨rfl,rfl⟩) λr' n4 w2 n2 k2 e5 l2=>?_;refine hQ _ _ _ ⟨r',rfl,⟨ac,λc hc=>by rw[k2 c hc,T1.get c hc]⟩,ac,?_⟩;rw[Tv,hx,OP,Xj];simp only[OR,LP,c,Ag,My,Cx,ND];exact w2;refine hQ _ _ _ ⟨v,rfl,T1,g3,?_⟩;rw[Tv,hx,OP,Xj];simp only[OR,LP,c,My,ND,Vy];simpa using v1;rintro _ m' O0 ⟨v',rfl,h1,h2,h3⟩;rw[av,aL,ae,wrap64];exact⟨j+1,ac,v',be,ac,h1,h2,h3⟩;have b4:j=y.ms.length:=(by have:¬(j:Int)< (y.ms.length:Int):=LL y3;omega);subst b4;rw[Nl]at H1;rw[(ff (b0.cells g1)).1,ae,(Gj (b0.cells gf)).2.2,ae];apply aw (zH hX (hF.ak (F.trans b0)) w1 n0 ⟨t.id,t.side⟩);rw[g0];apply hR _ _ _ _ ac (F.trans b0);cases hf:oo y.us t.id t.side;rw[MO be]at hD;rw[hD];exact⟨_,rfl⟩;rw[QL hf]at hD;rw[hD];refine⟨_,_,rfl,dg,H1.sl,λa ha=>?_,λa ha=>?_,λa ha=>?_⟩;obtain⟨k,_,rfl⟩:=NL.1 ha;exact .nil;obtain⟨k,_,rfl⟩:=NL.1 ha;exact Af;obtain⟨k,_,rfl⟩:=NL.1 ha;exact Dk ce;rw[MO (LL k5)]at hD;rw[aJ,ae,ag];refine af (λk6=>?_) (λk6=>?_);rw[QL (Ds k6)]at hD;rw[tid,ae,pF,ae];refine pz (x:=⟨gG 7 t.id,LF⟩) rfl .nil Af (Dk ce) λm22 d0 n22 _ a22=>?_;exact hR _ _ _ _ ac (F.trans d0) (by rw[hD];exact⟨_,_,rfl,rfl,a22⟩);rw[MO (LL k6)]at hD;rw[aJ,ae,ag];refine af (λk7=>?_) (λk7=>?_);rw[QL (Ds k7)]at hD;rw[tid,ae,pF,ae];refine pz (x:=⟨gG 6 t.id,LF⟩) rfl .nil Af (Dk ce) λm22 d0 n22 _ a22=>?_;exact hR _ _ _ _ ac (F.trans d0) (by rw[hD];exact⟨_,_,rfl,rfl,a22⟩);rw[MO (LL k7)]at hD;rw[aJ,ae,ag];have fin:∀{b:Bool} {m':M} {lo:Nat},m.n<=lo->Ext m m'->D=(if b=true then some []else none)->R [LF,.bool b] m' lo:=λ{b m' lo} h1 h2 h3=>(by apply hR _ _ _ _ h1 h2;rw[h3];cases b;exact⟨_,rfl⟩;exact⟨[],_,rfl,rfl,.nil⟩);refine af (λk8=>?_) (λk8=>?_);rw[QL (Ds k8)]at hD;refine aX (λvs mm lo=>∃b,vs=[LF,.bool b]/\m13=mm/\m.n<=lo/\D=if b=true then some []else none) (λQ hQ=>?_) ?_;rw[(ff g1).1,ae,(Gj gf).2.2,ae];apply aw (zH hX (hF.ak F) w1 n0 ⟨t.id,t.side⟩);rw[g0,ag];refine af (λc=>?_) (λc=>hQ _ _ _ ⟨false,rfl,rfl,ac,by rw[hD,show oo y.us t.id t.side=false from c];rfl⟩);rw[show oo y.us t.id t.side=true from c,Dn]at hD;rw[(ff g1).2.2.1,ae,(o2.ak F).len lq,an,aK,ae,ag];refine af (λd=>hQ _ _ _ ⟨true,rfl,rfl,ac,?_⟩) (λd=>?_);have d:=Ds d;rw[hD,L5 (show y.rc.length < 60 by omega)];rfl;have d:=LL d;rw[ae,(Gj gf).2.2,ae];apply aw (uT hX (o2.ak F) ac ⟨t.id,t.side⟩);refine hQ _ _ _ ⟨_,rfl,rfl,ac,?_⟩;rw[hD,Qr (show¬y.rc.length < 60 by omega),U4];rintro _ _ lo ⟨b,rfl,rfl,u0,b2⟩;rw[av,av];exact fin u0 F b2;rw[MO (LL k8),fu.eq]at hD;refine aX (λvs mm lo=>∃b,vs=[LF,.bool b]/\m13=mm/\m.n<=lo/\D=if b=true then some []else none) (λQ hQ=>?_) ?_;rw[ag];refine af (λc=>?_) (λc=>hQ _ _ _ ⟨false,rfl,rfl,y0,by rw[hD,c];rfl⟩);rw[c,QL rfl,F9]at hD;rw[(ff g1).2.2.2.2,ae,bQ gu,ae,mj g2,ae];apply aw (HO hX hS (d2.ak F) (e2.ak F) hP fu.sl fu.ln hw.one);refine hQ _ _ _ ⟨_,rfl,rfl,ac,?_⟩;rw[hD];unfold BD;(cases cp y.us t.other with|none=>rfl|some v=>rfl);rintro _ _ lo ⟨b,rfl,rfl,u0,b2⟩;rw[av,av];exact fin u0 F b2)
 refine H _ λv b m' lo y0 hx hs=>?_;exact Gc (by first |rfl |trivial) hs y0 hx
def DG(y:Yd)(t:Tk)(m':M)(F:Φ):Prop:=An (eI lR bX bM y t) m' F/\∀d,eI lR bX bM y t=some d->∃v s H,F=.tuple #[v,s,.bool true]/\vV m' H v/\fN lR bX bM y t=some (H.map AW.a)
def DG.no{y:Yd}{v r r2:Φ}(e:eI lR bX bM y t=none)(F:one r)(H:one r2):DG y t m' (.tuple #[v,.agg #[r,r2],L4]):=
 ⟨by rw[e];exact⟨v,r,r2,rfl,F,H⟩,λd h=>be⟩
def DG.flat{y:Yd}{v u w:Φ}(h:DG y t m' (.tuple #[v,u,w]))(H:aZ (.tuple #[v,u,w]))(m:M):DG y t m (.tuple #[v,u,w]):=by refine⟨h.1.flat H m,λd hd=>?_⟩;have⟨v',s,al,e,ha,hA⟩:=h.2 d hd;cases e;have h1:oH (some (al.map AW.a)) m' (.tuple #[v,WB]):=⟨al,v,rfl,rfl,ha⟩;have F:(D.eC v && (D.eC u && (true && true))):=H;rw[IG]at F;obtain⟨b0,v',e,e1,d0⟩:=h1.flat (show(D.eC v && (true && true))=true by grind) m;grind
set_option maxHeartbeats 1000000 in
theorem Of(hX:cy X)(e1:C1 X)(hI:rz X)(i1:NS X)(hU:gI m){y:Yd}{r r2 st rc mo:Φ}{t:Tk}{w:Φ}(hV:tC m y r r2 st rc mo)(hP:rG y)(hw:Sl m t.un.shape w)(A0:t.un.shape.length < 100000):
  ∃rv m',C X (.func 31) [yv r r2 st rc mo,t.v w] m m.n rv m'/\Ext m m'/\DG y t m' rv:=by
 apply Cl.Ie hX (Us func31)
 have H:∀R:Ω->M->Nat->Prop,(∀(v t' u:Φ) (m':M) (lo:Nat),m.n<=lo->Ext m m'->DG y t m' (.tuple #[v,t',u])->R [v,t',u] m' lo)->fP TE (aG TE X) f31 [yv r r2 st rc mo,t.v w] m R:=by
  intro R hR
  rw[F31];dsimp only[aG]
  refine ah λm1 c2 B0 j1=>?_
  refine ah λm2 d2 O0 P0=>?_
  refine ah λm3 e2 Q0 s0=>?_
  have e0:Ext m m3:=⟨ac,be⟩
  have g1:m3.get m.n=.cells (yc r r2 st rc mo) 37 none:=by rw[s0 _ ac,P0 _ ac];exact B0
  have g2:m3.get m1.n=.cells (t.c w) 58 none:=by rw[s0 _ ac];exact O0
  have gz:m3.get m2.n=.cells [LF,LF] 32 none:=Q0
  clear B0 j1 O0 P0 Q0 s0
  unfold ptrTo
  have u0:=hV.ak e0
  have a1:=hw.ak e0
  have bad:∀{mm:M} {lo:Nat},mm.get m2.n=.cells [LF,LF] 32 none->m.n<=lo->(∀c,c < m.n->mm.get c=m.get c)->m.n<=mm.n->eI lR bX bM y t=none->
    aS (bz TE 32 []) λv20=>dh (bh TE mm 32 (.pointer (some ⟨m2.n,0,none⟩)) v20) λm21 k1=>aS (aC TE m21 32 (.pointer (some ⟨m2.n,0,none⟩))) λl1=>R [LF,l1,L4] m21 (min lo k1):=by
   intro mm lo g k0 hk hn e
   rw[ka,ae]
   refine aj eH g rfl rfl rfl λm' i2 p1 j2=>?_
   rw[(kc p1).2.2.2,ae]
   apply hR _ _ _ _ _ ac ⟨ac,be⟩
   exact .no e rfl rfl
  refine aX (λvs mm lo=>vs=[.bool (!dY t)]/\m3=mm/\m.n<=lo) (λQ hQ=>?_) ?_
  ·rw[(ff g1).2.2.2.2,ae]
   apply aw (ace hX u0 hP)
   rw[bB,ae,ag]
   show lI false _ _
   rw[aT,mj g2,ae]
   apply aw (Gt hX a1 A0)
   rw[bB,ae]
   grind
  rintro _ _ lo ⟨rfl,rfl,k0⟩
  rw[av,ag]
  refine af (λc=>?_) (λc=>?_)
  ·rw[UC]at c;exact bad gz k0 (λc hc=>e0.get c hc) ac (by unfold eI;rw[MO be])
  rw[UY]at c
  have hS:eI lR bX bM y t=(fN lR bX bM y t).bind λl=>eU y.us y.ms l:=by unfold eI;rw[QL c]
  rw[(ff g1).2.2.2.2,ae,mj g2,ae]
  have⟨rv,r1,u1,b0,h0⟩:=acd (m:=m3) hX e1 (hU.ak e0) u0 hP a1 A0 (vF c)
  apply aw u1
  have n27:=b0.n
  unfold oH at h0
  cases hA:fN lR bX bM y t with
  |none=>rw[hA]at h0 hS;obtain⟨v,rfl⟩:=h0;rw[aD,aD];simp only[LB,IM,ae];rw[bB,ae,ag,F5,bN];exact bad (b0.cells gz) ac (λc hc=>by rw[b0.get c ac,e0.get c hc]) ac hS
  |some L=>
   rw[hA]at h0 hS
   obtain⟨al,v,rfl,hL,p0⟩:=h0
   have v1:al.length<=40:=by have:=H7 hP hA;rwa[<-hL,MB]at this
   rw[aD,aD]
   simp only[LB,IM,ae]
   rw[bB,ae,ag,T9,aT,dq,ae,(ff (b0.cells g1)).1,ae]
   obtain⟨⟨l,y0,hF⟩,w1, -⟩:=u0.ak b0
   obtain⟨y1,l0,A1,n0,g0⟩:=aaF (m:=r1) hX hI i1 hF (by rw[y0];exact hP.qj) w1 (by rw[y0];exact hP.Db) p0 v1
   apply aw A1
   rw[y0,hL]at g0
   have hS:eI lR bX bM y t=eU y.us y.ms L:=hS
   have n39:=n0.n
   have q0:=(b0.trans n0).cells gz
   have H1:∀c,c < m.n->l0.get c=m.get c:=λc hc=>by rw[n0.get c ac,b0.get c ac,e0.get c hc]
   obtain⟨q,q2,n,e,rfl,o1,o2,F⟩:∃q q2 n e,y1=.tuple #[.agg #[q,q2],.int .i64 n,.int .i64 e]/\one q=true/\one q2=true/\(match eU y.us y.ms L with |some (vs,ns)=>e=0/\ic vs ns l0 (.agg #[q,q2]) |none=>e=170):=by
    unfold rq at g0
    cases hr:eU y.us y.ms L with
    |none=>rw[hr]at g0;obtain⟨n,rfl⟩:=g0;exact⟨_,_,n,170,rfl,rfl,rfl,rfl⟩
    |some d=>have⟨vs,ns⟩:=d;rw[hr]at g0;obtain⟨q,q2,n,rfl,hs⟩:=g0;have⟨_,_,_,e,_,h1,h2⟩:=id hs;cases e;exact⟨q,q2,n,0,rfl,h1.sl.one,h2.one,rfl,hs⟩
   rw[aD,aD,aD]
   simp only[LB,IM,ae]
   refine ah λk2 K1 b1 O1=>?_
   refine aj eH b1 rfl rfl (by show(one q && (one q2 && true))=true;rw[o1,o2];rfl) λc1 T1 i0 a2=>?_
   have i0:c1.get l0.n=.cells [q,q2] 32 none:=i0
   rw[(kc i0).2.2.2,ae,aJ,ae]
   have d0:Ext l0 c1:=⟨ac,be⟩
   refine aj eH (d0.cells q0) rfl rfl be λo0 b2 j0 r0=>?_
   have j0:o0.get m2.n=.cells [q,q2] 32 none:=j0
   rw[(kc j0).2.2.2,ae]
   apply hR _ _ _ _ _ ac ⟨ac,be⟩
   cases hr:eU y.us y.ms L with
   |none=>rw[hr]at F;have F:e=170:=F;subst F;show DG y t o0 (.tuple #[v,.agg #[q,q2],L4]);exact .no (hS.trans hr) o1 o2
   |some d=>
    have⟨vs,ns⟩:=d;rw[hr]at F;obtain⟨rfl,hs⟩:=F
    have d1:ic vs ns o0 (.agg #[q,q2]):=hs.aY λc cs t g hc ht=>by have B1:=d0.cells hc;rw[r0 c be,B1]
    have G1:vV o0 al v:=((p0.ak n0).ak d0).aY λc cs t g hc ht=>by rw[r0 c (λe=>by subst e;rw[d0.cells q0]at hc;cases hc;rcases ht with h |h <;>cases h),hc]
    exact⟨by rw[hS,hr];exact⟨v,q,q2,rfl,d1⟩,λd hd=>⟨v,_,al,rfl,G1,by rw[hA,hL]⟩⟩
 refine H _ λv t' u m' lo k0 hx hs=>?_;show(aZ (.tuple #[v,t',u])=true/\m.n<=lo/\(m.n=m.n/\Ext m m/\DG _ _ m (.tuple #[v,t',u])))\/((aZ (.tuple #[v,t',u])=false\/lo < m.n)/\(min m.n lo=m.n/\Ext m m'/\DG _ _ m' (.tuple #[v,t',u])));cases hf:aZ (.tuple #[v,t',u]);·exact .inr ⟨.inl rfl,ac,hx,hs⟩
 exact .inl ⟨rfl,k0,rfl,.refl,hs.flat hf m⟩
section
variable {α:Type}
def ab7{key:α->Int}{l:List α}{x:α}(h:l.Pairwise λa b=>key a<key b)(F:(l.any λy=>decide (key y=key x))=false):
  l.take (fj key l (key x))++x::l.drop (fj key l (key x))=jv key l x:=by have⟨H,h2⟩:=vi (id:=key x) h;rw[H,h2];unfold jv;congr 2;apply OL;grind
theorem vf{key:α->Int}{x:α}:∀{l:List α},(l.Pairwise λa b=>key a<key b)->(l.any λy=>decide (key y=key x))->fj key l (key x)< l.length/\l.set (fj key l (key x)) x=jv key l x
 |[],_,h=>be
 |a::r,H,h=>by have⟨h1,h2⟩:=PU.1 H;by_cases e:key a<key x;have hr:(r.any λy=>decide (key y=key x)):=(by grind);have⟨i1,i2⟩:=vf h2 hr;have F:fj key (a::r) (key x)=fj key r (key x)+1:=(by unfold fj;grind);rw[F,Nd,i2];refine⟨be,?_⟩;unfold jv;grind;have F:fj key (a::r) (key x)=0:=(by unfold fj;rw[LP,MO be,JQ.2];rfl;grind);have b0:key a=key x:=(by grind);rw[F];refine⟨co,?_⟩;unfold jv;rw[LP,MO be,LP,MO be,JQ.2,LM.2];rfl;grind;grind
variable [aQ α]
def JK{T:TypeId}(hT:rp TE T (aQ.ty α) α){f:Nat}{fn:Func}(hX:Gk X f)(hf:TE.fn.get f=some fn)(hn:Nat.ble 3 fn.ntmps)
  (hF:∀{W:Words} {x0 x1 x2:Φ} {m:M} {R:Ω->M->Nat->Prop},dC TE W fn [x0,x1,x2] m R=(W.nf (M.push m (.cells (cells x1) (aQ.ty α) none)) λm1=>bsG T (aQ.ty α) (λmm k=>W.aS (aC TE mm (aQ.ty α) (ptrTo (M.n m))) k) W x0 x2 m1 (M.n m) R))
  {key:α->Int} {l:List α} {v xv:Φ} {g:Fn} {fi ca:Array Φ} {id:Int} (hb:l.length<400) (hl:Sl m l v) (F:l.Pairwise λa b=>key a<key b)
  (H:∀(mm:M) (b:Nat),mm.get b=.cells (cells xv) (aQ.ty α) none->aC TE mm (aQ.ty α) (ptrTo b)=some xv)
  (hs:∀mm:M,Ext m mm->∀x∈l,∀cs,aQ.rep mm x cs->C X g (fi.toList++([aQ.val α cs,xv]++ca.toList)) mm mm.n (ν (dv (key x) id)) mm):
  C X (.func f) [v,xv,.func g fi ca] m m.n (.tuple #[ν (fj key l id:Nat),.bool (l.any λx=>decide (key x=id))]) m:=by refine Cl.flat hX hf hn rfl ?_;rw[hF];dsimp only[aG];refine ah λm1 e0 b0 d0=>?_;have x1:Ext m m1:=⟨ac,d0⟩;exact SK hT ac (λk hk=>by rw[H m1 _ b0,ae];exact hk) key hb (hl.ak x1) F (hs m1 x1) λlo h=>⟨rfl,h⟩
abbrev V4(T t fB fC fI:Nat)(W:Words)(x0 x1 x2:Φ)(m:M)(R:Ω->M->Nat->Prop):Prop:=
(W.nf (M.push m (.cells (cells x1) t none)) λm1=>(W.aS (aC TE m1 t (ptrTo (M.n m))) λv2=>(W.lV (.func fB) [x0,v2,x2] m1 λv3 m4 b5=>(W.aS (mB v3 0) λv6=>(W.aS (mB v3 1) λv7=>(iU v7
(W.lV (.func fC) [x0] m4 λv8 m9 H=>(W.aS (aC TE m9 t (ptrTo (M.n m))) λv11=>(W.aS (aE TE T v8 v6) λv12=>(W.dh (bh TE m9 t v12 v11) λm13 b0=>(R [v8] m13 (min (min (min (M.n m) b5) H) b0))))))
(W.lV (.func fC) [x0] m4 λd0 m16 F=>((M.n m4<=F)/\(W.aS (aC TE m16 t (ptrTo (M.n m))) λe0=>(W.dh (aO TE m16 T 1 [(0,e0)]) λg0 m20=>(W.lV (.func fI) [d0,v6,g0] m20 λv21 m22 h0=>(R [v21] m22 (min (min (min (M.n m) b5) F) h0)))))))))))))
def Fw{T:TypeId}(hT:rp TE T (aQ.ty α) α)(q0:aQ.dU α=[]){f fB fC fI:Nat}{fn:Func}(r0:Gk X f)(hf:TE.fn.get f=some fn)(hn:Nat.ble 3 fn.ntmps)
  (hF:∀{W:Words} {x0 x1 x2:Φ} {m:M} {R:Ω->M->Nat->Prop},fP TE W fn [x0,x1,x2] m R=V4 T (aQ.ty α) fB fC fI W x0 x1 x2 m R)
  {key:α->Int} {l:List α} {v xv g:Φ} {x:α} (e0:l.Pairwise λa b=>key a<key b) (hl:l.length<400)
  (j0:∀m':M,aQ.rep m' x (cells xv))
  (g0:∀(mm:M) (b:Nat),mm.get b=.cells (cells xv) (aQ.ty α) none->aC TE mm (aQ.ty α) (ptrTo b)=some xv)
  (s0:∀mm:M,Ext m mm->C X (.func fB) [v,xv,g] mm mm.n (.tuple #[ν (fj key l (key x):Nat),.bool (l.any λy=>decide (key y=key x))]) mm)
  (u0:∀mm:M,Ext m mm->∃v' m',C X (.func fC) [v] mm mm.n v' m'/\Ext mm m'/\mg mm.n m' l v')
  (k0:∀mm:M,aO TE mm T 1 [(0,xv)]=some (RR mm.n 0 1 1,mm.push (.cells (cells xv) (aQ.ty α) none)))
  (y0:∀{mm:M} {n1 i bx:Nat} {w:Φ},mg n1 mm l w->i<=l.length->mm.get bx=.cells (cells xv) (aQ.ty α) none->n1<=mm.n->
   ∃F m' b,C X (.func fI) [w,ν i,RR bx 0 1 1] mm b F m'/\n1<=b/\Ow n1 m' (l.take i++x::l.drop i) F/\mm.n<=m'.n/\(∀c,c<mm.n->(∀a n k,w=.slice (some a) n k->c≠a.block)->m'.get c=mm.get c)):
  ∃F m',C X (.func f) [v,xv,g] m m.n F m'/\Ext m m'/\Ow m.n m' (jv key l x) F/\D.bO F=false:=by have l0:=Cl.Hz (E:=TE) (X:=X) (f:=f) (args:=[v,xv,g]) (m:=m) (R:=λF m' b=>b=m.n/\Ext m m'/\Ow m.n m' (jv key l x) F/\D.bO F=false) r0 hf hn ?_;obtain⟨F,m',b,hc,rfl,h⟩:=l0;exact⟨F,m',hc,h⟩;have n0:jv key l x≠ []:=(by unfold jv;simp);have o0:∀{n1:Nat} {m':M} {F:Φ},Ow n1 m' (jv key l x) F->D.bO F=false:=λh=>(by rcases h with⟨-,h⟩|⟨b,cs,rfl, -⟩;grind;rfl);rw[hF];dsimp only[V4,aG];refine ah λm1 c1 h0 A0=>?_;have x1:Ext m m1:=⟨ac,A0⟩;rw[g0 m1 _ h0,ae];apply aw (s0 m1 x1);rw[aD,aD];simp only[LB,IM,ae];rw[ag];have⟨w,m9,c9,x9,p9⟩:=u0 m1 x1;have n9:=x9.n;refine af (λc=>?_) (λc=>?_);have⟨B0,p0⟩:=vf e0 c;have O0:Ow m1.n m9 l w:=(by rcases p9 with h|⟨h, -⟩;exact h;grind);have⟨b,e1,e2,e3,⟨d1,g',e4⟩,e5,e6⟩:=Kq q0 O0 B0 hT;apply aw c9;rw[g0 m9 _ (x9.cells h0),ae,e1,ae];have⟨ti,te,t1,⟨e,t2⟩,t3,t4,t5,t6⟩:=hT;refine e6 x xv te t4 t6 (j0 m9) _ λm13 g1 b0 P0=>?_;rw[p0]at b0;refine .inr ⟨.inl (b0.flat n0),ac,⟨ac,λc hc=>by rw[P0 c ac,x9.get c ac,x1.get c hc]⟩,b0.mono ac,o0 b0⟩;refine aw c9 ⟨Aj _,?_⟩;rw[g0 m9 _ (x9.cells h0),ae,k0,an];obtain⟨m20,H⟩:∃q,q=m9.push (.cells (cells xv) (aQ.ty α) none):=⟨_,rfl⟩;have i0:Ext m9 m20:=H ▸ Ext.refl.push;have g20:m20.get m9.n=.cells (cells xv) (aQ.ty α) none:=(by rw[H];exact M.aU);have n20:=i0.n;rw[<-H];obtain⟨F,m22,b,Q0,b1,d0,n22,a1⟩:=y0 (n1:=m1.n) (p9.ak i0) (E5 (id:=key x)) g20 ac;apply aw Q0;rw[ab7 e0 c]at d0;refine .inr ⟨.inl (d0.flat n0),ac,⟨ac,λc hc=>?_⟩,d0.mono ac,o0 d0⟩;rw[a1 c ac λa n k ev=>?_,i0.get c ac,x9.get c ac,x1.get c hc];rcases p9 with(⟨rfl, -⟩|⟨b,cs,rfl, -,h3, -⟩)|⟨-,b,rfl,h3, -⟩;cases ev;cases ev;show c≠b;omega;cases ev;show c≠b;omega
end
structure EI(X:aF):Prop where
 kp:∀args m,X (.func 91) args m=lH ⟨91,7,85⟩ (.func 91) args m
 fc:∀args m,X (.func 94) args m=lH ⟨94,2,103⟩ (.func 94) args m
 mo:∀args m,X (.func 97) args m=lH ⟨97,3,60⟩ (.func 97) args m
def UI:Z3 33 f91:=⟨_,λ_ _ _ _ _ _=>F91⟩
def UJ:Z3 34 f94:=⟨_,λ_ _ _ _ _ _=>F94⟩
def UG:Z3 35 f97:=⟨_,λ_ _ _ _ _ _=>F97⟩
def ZD{W:Words}{x0:Φ}{m:M}{R:Ω->M->Nat->Prop}:dC TE W f90 [x0] m R=Wg 33 W x0 m R:=bv
def abj{W:Words}{x0:Φ}{m:M}{R:Ω->M->Nat->Prop}:dC TE W f32 [x0] m R=Wg 34 W x0 m R:=bv
def ZB{W:Words}{x0:Φ}{m:M}{R:Ω->M->Nat->Prop}:dC TE W f33 [x0] m R=Wg 35 W x0 m R:=bv
def NF(F:cy X){l:List KW}{v:Φ}(H:Sl m l v)(hs:l.length<=1000000):∃v' m',C X (.func 90) [v] m m.n v' m'/\Ext m m'/\mg m.n m' l v':=
 qm zj (F.no _ rfl) (Us func90) rfl ZD bv (λ_ _ _=>bv) (λ_=>bv) H hs
def Ey(F:cy X){l:List Fc}{v:Φ}(H:Sl m l v)(hs:l.length<=1000000):∃v' m',C X (.func 32) [v] m m.n v' m'/\Ext m m'/\mg m.n m' l v':=
 qm F2 (F.no _ rfl) (Us func32) rfl abj bv (λ_ _ _=>bv) (λ_=>bv) H hs
def Ew(F:cy X){l:List Mo}{v:Φ}(H:Sl m l v)(hs:l.length<=1000000):∃v' m',C X (.func 33) [v] m m.n v' m'/\Ext m m'/\mg m.n m' l v':=
 qm JU (F.no _ rfl) (Us func33) rfl ZB bv (λ_ _ _=>bv) (λ_=>bv) H hs
def aaC(hX:cy X)(x y:KW):C X (.func 37) [x.v,y.v] m m.n (ν (dv x.u.id y.u.id)) m:=by apply Cl.fG hX (Us func37);rw[F37];dsimp only[aG];refine ah λm1 d0 F e0=>?_;refine ah λm2 g0 H b0=>?_;have g1:m2.get m.n=.cells x.c 85 none:=(by rw[b0 _ ac];exact F);have g2:m2.get m1.n=.cells y.c 85 none:=H;unfold ptrTo;rw[cf,ae,aW,ae,(Dc g1).1,ae,cf,ae,aW,ae,(Dc g2).1,ae];apply aw (gC hX _ _);exact⟨rfl,ac⟩
abbrev HJ(f:Fc):Int:=f.un*16+f.side
abbrev QE(x:Mo):Int:=x.a*128+x.b
def Lk{a b c d k:Int}(H: -k<b-d)(h2:b-d<k)(hk:0<k):ML [dv a c,dv b d]=dv (a*k+b) (c*k+d):=by rw[orZ2];rcases Int.lt_trichotomy a c with h|h|h;have:(a+1)*k<=c*k:=UB ac ac;rw[Int.add_mul,Int.one_mul]at this;have e:dv a c= -1:=(by unfold dv;rw[QL h]);have F:dv (a*k+b) (c*k+d)= -1:=(by unfold dv;rw[QL ac]);grind;subst h;have e:dv a a=0:=(by unfold dv;rw[MO ac,MO ac]);rw[e,QL rfl];unfold dv;grind;have:(c+1)*k<=a*k:=UB ac ac;rw[Int.add_mul,Int.one_mul]at this;have e:dv a c=1:=(by unfold dv;rw[MO ac,QL h]);have F:dv (a*k+b) (c*k+d)=1:=(by unfold dv;rw[MO ac,QL ac]);grind
def QX{b:Nat}{x:KW}{g:Option Nat}(h:m.get b=.cells x.c 85 g):aC TE m 85 (Ψ b 0)=some x.v:=(Dc h).2.2.2
def Q4(hX:cy X)(hI:EI X){l:List KW}{v:Φ}{x:KW}(hl:Sl m l v)(hb:l.length<400)(F:l.Pairwise λa b=>a.u.id<b.u.id)(h1:one x.w)(h2:one x.mv):
  ∃rv m',C X (.func 36) [v,x.v,.func (.func 37) #[] #[]] m m.n rv m'/\Ext m m'/\Ow m.n m' (jv (λx:KW=>x.u.id) l x) rv/\D.bO rv=false:=
 Fw fg rfl (hX.no _ rfl) (Us func36) rfl F36 (key:=λx:KW=>x.u.id) F hb (λ_=>⟨rfl,h1,h2⟩) (λH b h=>QX (x:=x) h)
  (λH hx=>JK fg (hX.no _ rfl) (Us func89) rfl F89 (key:=λx:KW=>x.u.id) hb (hl.ak hx) F (λH b h=>QX (x:=x) h) λH _ y _ cs hr=>by
   obtain⟨rfl, -⟩:cs=y.c/\_:=hr;exact aaC hX y x)
  (λH hx=>NF hX (hl.ak hx) ac) (λH=>bv)
  λhc hi hg hn=>qd (N:=⟨91,7,85⟩) fg zj rfl (Us func91) rfl UI (λ_=>bv) rfl rfl hI.kp hc hi ac hg ⟨rfl,h1,h2⟩ hn
def Q5(hX:cy X)(hI:EI X){l:List Fc}{v:Φ}{x:Fc}(hl:Sl m l v)(hb:l.length<400)(H:∀f∈x::l, -2<=f.side/\f.side<=7)(F:l.Pairwise λa b=>HJ a<HJ b):
  ∃rv m',C X (.func 38) [v,x.v,.func (.func 39) #[] #[]] m m.n rv m'/\Ext m m'/\Ow m.n m' (jv HJ l x) rv/\D.bO rv=false:=
 Fw lq rfl (hX.no _ rfl) (Us func38) rfl F38 (key:=HJ) F hb (λ_=>rfl) (λmm b h=>(Gj (x:=x) h).2.2)
  (λmm hx=>JK lq (hX.no _ rfl) (Us func93) rfl F93 (key:=HJ) hb (hl.ak hx) F (λmm b h=>(Gj (x:=x) h).2.2) λmm _ y hy cs hr=>by
   obtain rfl:cs=y.c:=hr;have h1:=H x UA;have h2:=H y (De _ hy);rw[show HJ y=y.un*16+y.side from rfl,show HJ x=x.un*16+x.side from rfl,<-Lk ac ac ac];exact AZ hX y x)
  (λmm hx=>Ey hX (hl.ak hx) ac) (λmm=>bv)
  λhc hi hg hn=>qd (N:=⟨94,2,103⟩) lq F2 rfl (Us func94) rfl UJ (λ_=>bv) rfl rfl hI.fc hc hi ac hg rfl hn
def Q3(hX:cy X)(hI:EI X){l:List Mo}{v:Φ}{x:Mo}(hl:Sl m l v)(hb:l.length<400)(H:∀f∈x::l,0<=f.b/\f.b<=99)(F:l.Pairwise λa b=>QE a<QE b):
  ∃rv m',C X (.func 40) [v,x.v,.func (.func 41) #[] #[]] m m.n rv m'/\Ext m m'/\Ow m.n m' (jv QE l x) rv/\D.bO rv=false:=
 Fw js rfl (hX.no _ rfl) (Us func40) rfl F40 (key:=QE) F hb (λ_=>rfl) (λmm b h=>(I8 (x:=x) h).2.2.2)
  (λmm hx=>JK js (hX.no _ rfl) (Us func96) rfl F96 (key:=QE) hb (hl.ak hx) F (λmm b h=>(I8 (x:=x) h).2.2.2) λmm _ y hy cs hr=>by
   obtain rfl:cs=y.c:=hr;have h1:=H x UA;have h2:=H y (De _ hy);rw[show QE y=y.a*128+y.b from rfl,show QE x=x.a*128+x.b from rfl,<-Lk ac ac ac];exact zl hX y x)
  (λmm hx=>Ew hX (hl.ak hx) ac) (λmm=>bv)
  λhc hi hg hn=>qd (N:=⟨97,3,60⟩) js JU rfl (Us func97) rfl UG (λ_=>bv) rfl rfl hI.mo hc hi ac hg rfl hn
def AE{a b:Fc}(F: -2<=a.side/\a.side<=7)(H: -2<=b.side/\b.side<=7):oh a b↔HJ a<HJ b:=by unfold oh HJ;omega
def Fk{a b:Mo}(F:0<=a.b/\a.b<=99)(H:0<=b.b/\b.b<=99):nB a b↔QE a<QE b:=by unfold nB QE;omega
def ab3{y:Yd}(H:rG y)(hs: -2<=t.side/\t.side<=7)(hk:t.kind=8):Aa y t=jv HJ y.rc ⟨t.id,t.side⟩:=by have F:y.rc.Pairwise λa b=>HJ a<HJ b:=(by refine H.Bz.imp_of_mem λha hb h=>?_;exact(AE (H.zZ _ ha).2 (H.zZ _ hb).2).1 h);unfold Aa;by_cases hm:(⟨t.id,t.side⟩:Fc)∈y.rc;rw[MO λh=>h.2 hm];have b0:(y.rc.any λz=>decide (HJ z=HJ ⟨t.id,t.side⟩)):=WC.2 ⟨_,hm,co⟩;have⟨h1,h2⟩:=vf F b0;rw[<-h2];have⟨k,d0⟩:=RL hm;have e0:fj HJ y.rc (HJ ⟨t.id,t.side⟩)=k:=(by have g0:=(Vc.1 d0).1;rw[GU]at F;refine Kl ac (λi z hi hz=>?_) λi z hi hz=>?_;grind;grind);rw[e0];apply Zk;grind;rw[QL ⟨hk,hm⟩];unfold jv;congr 1;exact OL λz hz=>ge.2 (AE (H.zZ _ hz).2 hs);congr 1;exact OL λz hz=>ge.2 (AE hs (H.zZ _ hz).2)
def Uk{y:Yd}(hP:rG y)(H:0<=t.other/\t.other<=99)(hk:t.kind=9):BU y t=jv QE y.mo ⟨t.id,t.other,t.cD⟩:=by unfold BU;rw[QL hk];unfold jv;have ok:∀z∈y.mo,0<=z.b/\z.b<=99:=λz F=>(by have:=hP.I7 z F;omega);congr 1;exact OL λz F=>ge.2 (Fk (ok z F) H);congr 1;exact OL λz F=>ge.2 (Fk H (ok z F))
def Ra(l:List KW)(x:KW):yf (jv (λx:KW=>x.u.id) l x)=jv (λk:Kp=>k.un.id) (yf l) x.k:=by unfold jv yf;rw[Xj,Cx,U3,U3];rfl
def uR(hX:cy X){x:KW}(h1:Sl m x.u.shape x.w)(h2:Sl m x.ms x.mv)(l1:x.u.shape.length<=1000000)(l2:x.ms.length<=1000000):
  ∃v m',C X (.func 34) [x.v] m m.n v m'/\Ext m m'/\∃k:KW,v=k.v/\k.u=x.u/\k.ms=x.ms/\Sl m' k.u.shape k.w/\Sl m' k.ms k.mv:=by apply Cl.Ie hX (Us func34);rw[F34];dsimp only[aG];refine ah λm1 O0 n0 P0=>?_;refine ah λm2 Q0 o0 p0=>?_;have x2:Ext m m2:=⟨ac,be⟩;have g1:m2.get m.n=.cells x.c 85 none:=(p0 _ ac).trans n0;have g2:m2.get m1.n=.cells (KW.c ⟨⟨0,0,0,[],0,0⟩,LF,[],LF⟩) 85 none:=o0;have ln:∀{mm:M} {y:KW} {b:Nat} {g:Option Nat},mm.get b=.cells y.c 85 g->aC TE mm 41 (Ψ b (0+0+3))=some y.w:=λh=>(by rw[qP,aH h];rfl);unfold ptrTo;simp only[cf,dO,bA,ae];rw[ln g1,ae];have⟨w',m7,c7,x7,p7⟩:=Eu (m:=m2) hX (h1.ak x2) l1;apply aw c7;have n7:=x7.n;have hw:=PA p7.sl;have G1:=x7.cells g1;refine bV uD G1 (by rw[hw.1];rfl) be be λm11 s0 u0 H=>?_;have g11:m11.get m.n=.cells (KW.c ⟨x.u,w',x.ms,x.mv⟩) 85 none:=be;have h0:∀c cs t g,m7.get c=.cells cs t g->t≠85->m11.get c=.cells cs t g:=λc cs t g hc ht=>(H c λe=>be).trans hc;have ht:∀{α:Type} [aQ α] {l:List α} {v:Φ} {ma mb:M},(∀c cs t g,ma.get c=.cells cs t g->t≠85->mb.get c=.cells cs t g)->(∀t,t∈aQ.ty α::aQ.dU α->t≠85)->Sl ma l v->Sl mb l v:=λhk ht h=>h.aY λc cs t g hc hm=>hk c cs t g hc (ht t hm);have tp:∀t,t∈aQ.ty Pl::aQ.dU Pl->t≠85:=λt h=>(by simp only[aQ.ty,aQ.dU,OS,Dy,or_false]at h;subst h;decide);have tm:∀t,t∈aQ.ty Mk::aQ.dU Mk->t≠85:=λt h=>(by simp only[aQ.ty,aQ.dU,OS,Dy,or_false]at h;subst h;decide);rw[(Dc g11).2.2.1,ae];have⟨F,m16,q0,b0,i0⟩:=CK (m:=m11) hX (ht h0 tm ((h2.ak x2).ak x7)) l2;apply aw q0;have n16:=b0.n;have hm:=PA i0.sl;have r0:=b0.cells g11;refine bV DO r0 (by rw[hm.1];rfl) be be λm19 y0 A0 d0=>?_;have g19:m19.get m.n=.cells (KW.c ⟨x.u,w',x.ms,F⟩) 85 none:=be;have j0:∀c cs t g,m16.get c=.cells cs t g->t≠85->m19.get c=.cells cs t g:=λc cs t g hc ht=>(d0 c λe=>be).trans hc;have G2:=(d0 m1.n ac).trans (b0.cells ((H m1.n ac).trans (x7.cells g2)));rw[(Dc g19).2.2.2,ae];refine aj Gw G2 rfl rfl (KW.dt (x:=⟨x.u,w',x.ms,F⟩) hw.2 hm.2) λm22 B0 k0 e0=>?_;have g22:m22.get m1.n=.cells (KW.c ⟨x.u,w',x.ms,F⟩) 85 none:=k0;have l0:∀c cs t g,m19.get c=.cells cs t g->t≠85->m22.get c=.cells cs t g:=λc cs t g hc ht=>(e0 c λe=>be).trans hc;rw[(Dc g22).2.2.2,ae];have xm:Ext m m22:=⟨ac,λc hc=>by rw[e0 c ac,d0 c ac,b0.get c ac,H c ac,x7.get c ac,x2.get c hc]⟩;have s1:Sl m22 x.u.shape w':=ht l0 tp (ht j0 tp ((ht h0 tp p7.sl).ak b0));have s2:Sl m22 x.ms F:=ht l0 tm (ht j0 tm i0.sl);refine K3 (m:=m) (vs:=[KW.v ⟨x.u,w',x.ms,F⟩]) (Q:=λv m'=>∃k:KW,v=k.v/\k.u=x.u/\k.ms=x.ms/\Sl m' k.u.shape k.w/\Sl m' k.ms k.mv) ac xm ⟨_,rfl,rfl,rfl,s1,s2⟩ λhf=>?_;have g0:(true && (true && (true && (D.bO w' && (true && (true && (D.bO F && true))))))):=hf;simp only[Dn,Mn,IG]at g0;exact⟨⟨x.u,w',x.ms,F⟩,rfl,rfl,rfl,(nQ s1 g0.1 m).2,(nQ s2 g0.2 m).2⟩
structure DE(m0:M)(O:Nat)(m:M)(r r2 rc mo:Φ)(acc:List KW)(st:Φ):Prop where
 cell:m.get O=.cells (yc r r2 st rc mo) 37 none
 st:Ow m0.n m acc st
 kv:∀k∈acc,Sl m k.u.shape k.w/\Sl m k.ms k.mv/\k.u.shape.length < 1000000/\k.ms.length < 1000000
 n:m0.n<=m.n
 fr:∀c,c < m0.n->c≠O->m.get c=m0.get c
variable{m0:M}{O:Nat}{r r2 rc mo st:Φ}{acc:List KW}
def DE.ak(h:DE m0 O m r r2 rc mo acc st)(F:Ext m m'):DE m0 O m' r r2 rc mo acc st:=
 ⟨F.cells h.cell,h.st.ak F,λk H=>⟨(h.kv k H).1.ak F,(h.kv k H).2.1.ak F,(h.kv k H).2.2⟩,Zz h.n F.n,λc h1 h2=>(F.get c (LA h1 h.n)).trans (h.fr c h1 h2)⟩
def DE.push(h:DE m0 O m r r2 rc mo acc st)(hO:O<m0.n){k:KW}(hk:Sl m k.u.shape k.w/\Sl m k.ms k.mv/\k.u.shape.length<1000000/\k.ms.length<1000000)(hl:acc.length<1000000):
  ∃a m1 r' m2 m3,aO TE m 33 1 [(0,k.v)]=some (a,m1)/\aR TE (M.wl m1 (M.n m1)) .append [33,33] [st,a]=some (r',m2)/\bh TE m2 33 (Ψ O (0+2)) r'=some (m3,O)/\m0.n<=m2.low/\DE m0 O m3 r r2 rc mo (acc++ [k]) r':=by obtain⟨m1,H⟩:∃q,q=m.push (.cells k.c 85 none):=⟨_,rfl⟩;have b0:Ext m m1:=H ▸ Ext.refl.push;have e0:m1.get m.n=.cells k.c 85 none:=(by rw[H];exact M.aU);have hn:=h.n;have h0:=b0.n;obtain⟨r',m2,m3, -,p1,p2,p3,p4,p5,p6,p7,p8⟩:=BA (n1:=m0.n) (o:=2) zj rfl J5 rfl h.cell (by rfl) hO hn h.st b0 (lv (x:=k) e0 ⟨rfl,hk.1.one,hk.2.1.one⟩) hl;have ks:∀{α:Type} [aQ α] {l:List α} {v:Φ},(∀t,t∈aQ.ty α::aQ.dU α->t≠85/\t≠37)->Sl m l v->Sl m3 l v:=λht hs=>hs.aY λc cs t g hc hm=>(by have d0:=b0.cells hc;rw[p8 c (M.aP d0) (λe=>by subst e;rw[h.cell]at hc;cases hc;exact(ht _ hm).2 rfl) λi0 g' e=>by rw[d0]at e;cases e;exact(ht _ hm).1 rfl,d0]);have g0:∀z:KW,Sl m z.u.shape z.w/\Sl m z.ms z.mv/\z.u.shape.length<1000000/\z.ms.length<1000000->Sl m3 z.u.shape z.w/\Sl m3 z.ms z.mv/\z.u.shape.length<1000000/\z.ms.length<1000000:=λz F=>⟨ks (λt h=>by simp only[aQ.ty,aQ.dU,OS,Dy,or_false]at h;subst h;decide) F.1,ks (λt h=>by simp only[aQ.ty,aQ.dU,OS,Dy,or_false]at h;subst h;decide) F.2.1,F.2.2⟩;refine⟨_,m1,r',m2,m3,H ▸ Qn,p1,p2,p3,⟨p4,p5,λz F=>?_,ac,λc h1 h2=>(p7 c h1 h2).trans (h.fr c h1 h2)⟩⟩;rcases L3.1 F with F|F;exact g0 z (h.kv z F);grind
def DE.kev{y:List Kp}(h:DE m0 O m r r2 rc mo acc st)(he:yf acc=y){m':M}(H:∀c cs t g,m.get c=.cells cs t g->t≠37->m'.get c=.cells cs t g):∃k,yf k=y/\Gl m' k st:=
 ⟨acc,he,Gl.aY ⟨h.st.sl,h.st.sln,λx F=>(h.kv x F).1,λx F=>(h.kv x F).2.1,λx F=>(h.kv x F).2.2.1,λx F=>(h.kv x F).2.2.2⟩ λc cs t g hc ht=>H c cs t g hc be⟩
def aak{r r2 a b:Φ}(F:cells a=[a])(H:cells b=[b]):bz TE 37 [(0,.agg #[r,r2]),(2,a),(3,b)]=some (yv r r2 LF a b):=by rw[CQ rfl be be,F,H];rfl
def PF{b:Nat}{p q:Φ}{g:Option Nat}(h:m.get b=.cells [p,q] 32 g):aC TE m 32 (Ψ b 0)=some (.agg #[p,q]):=(kc h).2.2.2
def jO(y:Yd)(t:Tk):Option Yd:=if dY t=true then pO lR bX bM y t else none
def Gm{y:Yd}:jO y t=(eI lR bX bM y t).map λp=>⟨p.1,p.2,As y t,Aa y t,BU y t⟩:=by unfold jO eI pO;grind
def Tn{y:Yd}{p:List Un×List Mk}(h:eI lR bX bM y t=some p)(k:t.kind=2):(cp y.us t.id).isSome:=by unfold eI at h;split at h;obtain⟨l,F, -⟩:=UO.1 h;unfold fN at F;grind;cases h
def Tm{y:Yd}{p:List Un×List Mk}(h:eI lR bX bM y t=some p):dY t:=by unfold eI at h;grind
def stays(t:Tk)(k:Kp):Bool:= !decide (t.kind=3) || !decide (k.un.id=t.id)
def stA_n{y:Yd}(h:t.kind≠2):As y t=y.st.filter (stays t):=by unfold As stays;rw[MO h];split;grind;rename_i e;rw[LM.2];grind
def TN(h:t.kind=2)(l:List Kp):l.filter (stays t)=l:=by rw[LM];intro k _;unfold stays;grind
structure EndK(m0:M)(O:Nat)(m:M)(p q:Φ)(st:List Kp)(rl:List Fc)(ml:List Mo):Prop where
 ex:∃a b c,m.get O=.cells (yc p q a b c) 37 none/\(∃k,yf k=st/\Gl m k a)/\Sl m rl b/\Sl m ml c
 n:m0.n<=m.n
 fr:∀c,c < m0.n->c≠O->m.get c=m0.get c
set_option maxHeartbeats 4000000 in
theorem DL(hX:cy X)(h6:C1 X)(hI:rz X)(hY:EI X)(i6:NS X)(hU:gI m){y:Yd}{r r2 st rc mo:Φ}{t:Tk}{w:Φ}(hV:tC m y r r2 st rc mo)(hP:rG y)(hw:Sl m t.un.shape w)(j6:t.un.shape.length < 100000):
  ∃rv m',C X (.func 11) [yv r r2 st rc mo,t.v w] m m.n rv m'/\Ext m m'/\lP (jO y t) m' rv:=by
 apply Cl.Ie hX (Us func11);have k6:=hV;have⟨⟨l4,l2,hF⟩,l6,⟨kl,m4,hK⟩,m6,n6⟩:=hV;have n4:cq (bH l4):=(by rw[l2];exact hP.qj);have b8:kl.length<=12:=(by have:=hP.Tc;rw[<-m4,lZ]at this;exact this);rw[F11];dsimp only[aG];refine ah λm1 e9 o4 o6=>?_;refine ah λm2 f9 r4 u4=>?_;refine ah λm3 g9 w4 i3=>?_;have x3:Ext m m3:=⟨ac,be⟩;have g1:m3.get m.n=.cells (yc r r2 st rc mo) 37 none:=(i3 m.n ac).trans ((u4 _ ac).trans o4);have g2:m3.get m1.n=.cells (t.c w) 58 none:=(i3 _ ac).trans r4;have g3:m3.get m2.n=.cells (yc LF LF LF LF LF) 37 none:=w4;clear o4 o6 r4 u4 w4 i3;unfold ptrTo;simp only[dq,dQ,fD,eM,bI,dP,dm,cV,dD,cU,cf,dO,aW,ae];rw[(ff g1).2.2.2.2,ae,mj g2,ae];have⟨rv,m7,c7,x7,d7⟩:=Of (m:=m3) hX h6 hI i6 (hU.ak x3) (k6.ak x3) hP (hw.ak x3) j6;apply aw c7;have n7:=x7.n;obtain⟨v7,p,q,ok,rfl,o1,o2,k0⟩:∃v7 p q ok,rv=.tuple #[v7,.agg #[p,q],.bool ok]/\one p=true/\one q=true/\(match eI lR bX bM y t with |some (vs,ns)=>ok=true/\ic vs ns m7 (.agg #[p,q]) |none=>ok=false):=(by have a7:=d7.1;unfold An at a7;cases hs:eI lR bX bM y t with|none=>grind|some d=>have⟨vs,ns⟩:=d;rw[hs]at a7;obtain⟨v,p,q,rfl,h1⟩:=a7;have⟨_,_,_,e,_,h2,h3⟩:=id h1;cases e;exact⟨_,_,_,_,rfl,h2.sl.one,h3.one,rfl,h1⟩);have o7:([p,q]:Ω).all one=true:=(by show(one p && (one q && true))=true;rw[o1,o2];rfl);rw[aD,aD,aD];simp only[LB,IM,ae];refine ah λm12 c8 y4 d8=>?_;refine aj eH y4 rfl rfl o7 λm13 f8 A4 g8=>?_;have g13:m13.get m7.n=.cells [p,q] 32 none:=A4;have B4:Ext m7 m13:=⟨ac,be⟩;have o0:=x7.trans B4;rw[bB,ae,ag];refine af (λc=>?_) (λc=>?_);rw[UC]at c;have r6:jO y t=none:=(by rw[Gm];cases hs:eI lR bX bM y t with|none=>rfl|some d=>have⟨vs,ns⟩:=d;rw[hs]at k0;rw[k0.1]at c;cases c);rw[show bz TE 37 []=some (yv LF LF LF LF LF) by kernel_rfl,ae];refine aj pM (o0.cells g3) rfl rfl rfl λm17 h8 O4 i8=>?_;rw[(ff (show m17.get m2.n=.cells (yc LF LF LF LF LF) 37 none from O4)).2.2.2.2,ae];exact .inl ⟨rfl,ac,by first |rfl |trivial,.refl,by unfold lP;rw[r6];rfl⟩;rw[UY]at c;subst c;obtain⟨⟨vs,ns⟩,hs⟩:∃d,eI lR bX bM y t=some d:=(by cases hs:eI lR bX bM y t with|none=>rw[hs]at k0;cases k0|some d=>exact⟨d,rfl⟩);rw[hs]at k0;have⟨us,p',q',e,s6,u6,v6⟩:=k0.2;cases e;have d1:=Tm hs;have hD:jO y t=some ⟨vs,ns,As y t,Aa y t,BU y t⟩:=(by rw[Gm,hs];rfl);rw[PF g13,ae,(ff (o0.cells g1)).2.2.1,ae];have j8:=hP.WY;have l8:=hP.QD;have m8:=hP.Db.len;obtain⟨p0,m20,w6,R4,y6⟩:=Ey (m:=m13) hX ((m6.ak x3).ak o0) ac;refine aw w6 ⟨Aj _,?_⟩;have A0:=o0.trans R4;rw[(ff (A0.cells g1)).2.2.2.1,ae];obtain⟨d0,i1,z6,j3,k3⟩:=Ew (m:=m20) hX ((n6.ak x3).ak A0) ac;refine aw z6 ⟨Aj _,?_⟩;have u2:=A0.trans j3;have l3:=y6.sl.ak j3;rw[aak l3.cells k3.sl.cells,ae];refine ah λh9 n8 W4 o8=>?_;refine aj pM W4 rfl rfl (by show(one p && (one q && (true && (one p0 && (one d0 && true)))))=true;rw[o1,o2,l3.one,k3.sl.one];rfl) λs0 p8 a5 r8=>?_;have gO:s0.get i1.n=.cells (yc p q LF p0 d0) 37 none:=a5;have K1:Ext i1 s0:=⟨ac,be⟩;have i0:=u2.trans K1;have n329:=i0.n;have n325:=u2.n;have n320:=A0.n;have n313:=o0.n;have v2:=(hK.ak x3).ak i0
 rw[(ff (i0.cells g1)).2.1,ae,v2.sl.len fg,an];refine Lp.intro (γ:=Nat) (λi=>kl.length-i) (λi vs mm lo=>∃acc sv,vs=[.int .i64 i]/\i<=kl.length/\m.n<=lo/\DE s0 i1.n mm p q p0 d0 acc sv/\yf acc=((yf kl).take i).filter (stays t)) 0 ⟨[],_,rfl,ZX _,ac,⟨gO,.nil,λk hk=>(by cases hk),Aj _,λ_ _ _=>rfl⟩,rfl⟩ ?_;rintro i j9 mm lo ⟨acc,sv,rfl,hi,A6,hO,l0⟩;have nO:=hO.n;have l9:acc.length<=i:=(by have:=congrArg List.length l0;have h2:=Nr (stays t) ((yf kl).take i);rw[lZ]at this;rw[PK]at h2;omega);have j1:∀c,c < m3.n->mm.get c=m3.get c:=λc F=>(hO.fr c ac ac).trans (i0.get c F);have G1:mm.get m.n=_:=(j1 _ ac).trans g1;have G2:mm.get m1.n=_:=(j1 _ ac).trans g2;have iJ:∀c cs t g,s0.get c=.cells cs t g->t≠37->mm.get c=.cells cs t g:=λc cs t g F ht=>(hO.fr c (M.aP F) λe=>be).trans F;rw[av,aK,ae,ag];refine af (λa1=>?_) (λn3=>?_);have a1:i < kl.length:=be;obtain⟨k,hk⟩:∃k,kl[i]?=some k:=⟨_,Np a1⟩;have O1:=Jc hk;have k1:Gl mm kl st:=v2.aY λc cs t g F ht=>iJ c cs t g F be;have⟨a,cs,e1,e2,e3⟩:=k1.sl.index fg (k:=.i64) hk;obtain⟨rfl,B6,b7⟩:cs=k.c/\one k.w=true/\one k.mv=true:=e3;have e2:aC TE mm 85 a=some k.v:=e2;have b5:(yf kl)[i]?=some k.k:=(by unfold yf;rw[U2,hk];rfl);refine aX (λvs m' n0=>vs=[]/\m.n<=n0/\∃acc sv,DE s0 i1.n m' p q p0 d0 acc sv/\yf acc=((yf kl).take (i+1)).filter (stays t)) (λQ hQ=>?_) ?_;rw[e1,ae,e2,ae];refine ah λm9 s8 c5 u8=>?_;refine aj Gw c5 rfl rfl (KW.dt B6 b7) λT1 v8 d5 w8=>?_;have f5:T1.get mm.n=.cells k.c 85 none:=d5;have q0:Ext mm T1:=⟨ac,be⟩;have n9:=q0.n;refine aX (λvs m' n0=>vs=[.bool (stays t k.k)]/\T1=m'/\m.n<=n0) (λQ2 a2=>?_) ?_;unfold stays at a2;rw[(mU (q0.cells G2)).1,ae,bZ,ae,ag];refine af (λc=>a2 _ _ _ ⟨by rw[c];rfl,rfl,ac⟩) (λc=>?_);rw[c,U4]at a2;rw[(Dc f5).1,ae,(mU (q0.cells G2)).2.1,ae,bZ,ae];exact a2 _ _ _ ⟨rfl,rfl,ac⟩;rintro _ _ ja ⟨rfl,rfl,w2⟩;rw[av,ag];refine af (λc=>?_) (λc=>?_);rw[(ff (q0.cells hO.cell)).2.1,ae,(Dc f5).2.2.2,ae];have o9:=k1.ln k O1;have p9:=k1.lm k O1;obtain⟨v',r9,f7,g5,k',rfl,o3,r3,s1,s2⟩:=uR (m:=T1) hX ((k1.sh k O1).ak q0) ((k1.mv k O1).ak q0) ac ac;refine aw f7 ⟨Aj _,?_⟩;obtain⟨a',s9,r',u9,v9,b1,b2,b3,b4,u3⟩:=((hO.ak q0).ak g5).push ac (k:=k') ⟨s1,s2,be,be⟩ ac;rw[b1,an,b2,an,b3,an];have w9:=g5.n;refine hQ _ _ _ ⟨rfl,ac,_,_,u3,?_⟩;have i5:k'.k=k.k:=(by unfold KW.k;rw[o3,r3]);rw[Tv,b5,OP,<-l0];simp only[OR,LP,c,Ag,My];rw[<-i5];exact Xj;refine hQ _ _ _ ⟨rfl,w2,_,_,hO.ak q0,?_⟩;rw[Tv,b5,OP,<-l0];simp only[OR,LP,c,My,Vy];simp;rintro _ _ n0 ⟨rfl,j5,k5,g7,u3,h7⟩;rw[aL,ae,wrap64];exact⟨i+1,ac,k5,g7,rfl,a1,j5,u3,h7⟩;have n3:i=kl.length:=be;subst n3;have l0:yf acc=y.st.filter (stays t):=(by rw[l0,<-m4,Vq (by rw[lZ];omega)]);have nY:∀{α:Type} [aQ α] {l:List α} {v:Φ} {ma mb:M},(∀c cs t g,ma.get c=.cells cs t g->t≠37->mb.get c=.cells cs t g)->(∀t,t∈aQ.ty α::aQ.dU α->t≠37)->Sl ma l v->Sl mb l v:=λhk ht h=>h.aY λc cs t g F hm=>hk c cs t g F (ht t hm);have tf:∀t,t∈aQ.ty Fc::aQ.dU Fc->t≠37:=λt h=>(by simp only[aQ.ty,aQ.dU,OS,Dy,or_false]at h;subst h;decide)
 have tm:∀t,t∈aQ.ty Mk::aQ.dU Mk->t≠37:=λt h=>(by simp only[aQ.ty,aQ.dU,OS,Dy,or_false]at h;subst h;decide);have to:∀t,t∈aQ.ty Mo::aQ.dU Mo->t≠37:=λt h=>(by simp only[aQ.ty,aQ.dU,OS,Dy,or_false]at h;subst h;decide);have sR:Sl mm y.rc p0:=nY iJ tf (l3.ak K1);have sM:Sl mm y.mo d0:=nY iJ to (k3.sl.ak K1);have xm:Ext m mm:=⟨ac,λc F=>by rw[j1 c ac,x3.get c F]⟩;refine aX (λvs m' n0=>vs=[]/\m.n<=n0/\EndK s0 i1.n m' p q (As y t) (Aa y t) (BU y t)) (λQ hQ=>?_) ?_;rw[(mU G2).1,ae,aJ,ae,ag];refine af (λk2=>?_) (λk2=>?_);have k2:=Ds k2;have y2:yf acc=y.st:=l0.trans (TN k2 y.st);have y8:acc.length<=12:=be;have l5:cC mm l4 r:=((hF.ak x3).ak i0).aY λc cs t g F ht=>iJ c cs t g F be;have w3:Sl mm y.ms r2:=nY iJ tm ((l6.ak x3).ak i0);rw[(ff G1).1,ae,(mU G2).2.1,ae];obtain⟨fv,m5,i7,n5,f95⟩:=vX (m:=mm) hX l5 (by have:=n4.len;unfold bH at this;rw[MB]at this;omega) ⟨l5.sl.one,w3.one⟩ t.id;apply aw i7;obtain⟨u,wu,is,rfl,fu⟩:=f95.Xu n4;have y9:=n5.n;rw[aD,aD];simp only[LB,IM,ae];refine ah λz9 z8 z2 o5=>?_;refine aj dN z2 rfl rfl (Un.dt fu.sl.one) λH j7 l1 y3=>?_;have gu:H.get m5.n=.cells (u.c wu) 43 none:=l1;have r1:Ext m5 H:=⟨ac,λc F=>be⟩;rw[bQ gu,ae,SQ,ae];refine ah λA8 k7 u1 A3=>?_;refine aj Gw u1 rfl rfl (KW.dt (x:=⟨u,wu,[],LF⟩) fu.sl.one rfl) λA2 l7 v1 B3=>?_;have gK:A2.get H.n=.cells (KW.c ⟨u,wu,[],LF⟩) 85 none:=v1;have B0:Ext H A2:=⟨ac,λc F=>be⟩;have n100:=r1.n;have n105:=B0.n;have O3:=n5.trans r1;clear z2 o5 l1 y3 u1 A3 v1 B3;have fe:=fu.eq;rw[l2]at fe;have p7:is=true:=(by have:=Tn hs k2;rw[fe]at this;cases is;cases this;rfl);subst p7;have r7:cp y.us t.id=some u:=fe;rw[(rN ((O3.trans B0).cells G1)).2.2,ae,(w3.ak (O3.trans B0)).len cS,an];refine Lp.intro (γ:=Nat) (λj=>y.ms.length-j) (λj vs mq lo=>∃mv,vs=[.int .i64 j]/\j<=y.ms.length/\Ext H mq/\m.n<=lo/\mq.get H.n=.cells (KW.c ⟨u,wu,[],mv⟩) 85 none/\Ow (H.n+1) mq ((y.ms.take j).filter λx=>decide (x.un=t.id)) mv/\H.n < mq.n) 0 ⟨_,rfl,ZX _,B0,ac,gK,.nil,ac⟩ ?_;rintro j vs mq A9 ⟨mv,rfl,hj,c2,a9,gk,w1,b9⟩;have xq:=O3.trans c2;have s7:=w3.ak xq;rw[av,aK,ae,ag];have r5:((y.ms.take j).filter λx=>decide (x.un=t.id)).length<=y.ms.length:=(by grind);refine af (λa1=>?_) (λn3=>?_);have a1:j < y.ms.length:=be;obtain⟨x,hx⟩:∃x,y.ms[j]?=some x:=⟨_,Np a1⟩;have⟨a',cs,p1,p2,p3⟩:=s7.index cS (k:=.i64) hx;have p2:aC TE mq 68 a'=some x.v:=(by rw[show x.v=.agg cs.toArray from by rw[show cs=x.c from p3]];exact p2);refine aX (λvs m' n0=>∃d0,vs=[]/\Ext H m'/\m.n<=n0/\m'.get H.n=.cells (KW.c ⟨u,wu,[],d0⟩) 85 none/\Ow (H.n+1) m' ((y.ms.take (j+1)).filter λx=>decide (x.un=t.id)) d0/\H.n < m'.n) (λQ' u5=>?_) ?_;rw[p1,ae,p2,ae];refine ah λc9 u7 y1 c4=>?_;refine aj rA y1 rfl rfl rfl λB2 w7 A1 d4=>?_;have M2:B2.get mq.n=.cells x.c 68 none:=A1;have b0:Ext mq B2:=⟨ac,λc F=>be⟩;have n125:=b0.n;clear y1 c4 A1 d4;rw[dk,ae,(wP M2).2.1,ae,(mU ((xq.trans b0).cells G2)).2.1,ae,aJ,ae,ag];refine af (λc=>?_) (λc=>?_);obtain⟨a,b',r',d',d2,e1,e2,e3,e4,e5,e6,e7,e8⟩:=KS (x:=x) (b0.cells gk) (w1.ak b0) ac
 rw[(Dc (b0.cells gk)).2.2.1,ae,(wP M2).2.2.2.2,ae,e1,an,e2,an,e3,an];refine u5 _ _ _ ⟨r',rfl,⟨ac,λc F=>by rw[e8 c F,b0.get c ac,c2.get c F]⟩,ac,e5,?_,ac⟩;rw[Tv,hx,OP];simp only[OR,LP,c,Ag,My];exact e6;refine u5 _ _ _ ⟨mv,rfl,c2.trans b0,ac,b0.cells gk,?_,ac⟩;rw[Tv,hx,OP];simp only[OR,LP,c,My,Vy];simpa using w1.ak b0;rintro _ m' n0 ⟨d0,rfl,h1,h2,h3,h4,h5⟩;rw[aL,ae,wrap64];exact⟨j+1,ac,d0,rfl,ac,h1,h2,h3,h4,h5⟩;obtain rfl:j=y.ms.length:=(by grind);rw[Nl]at w1 r5;obtain⟨L,hL⟩:∃L,L=y.ms.filter λx=>decide (x.un=t.id):=⟨_,rfl⟩;rw[<-hL]at w1 r5;have v5:=hO.ak xq;rw[(ff v5.cell).2.1,ae,(Dc gk).2.2.2,ae];have e':=fu.ln;have f':=xq.n;obtain⟨v',w5,y5,B1,k',rfl,o3,r3,s1,s2⟩:=uR (m:=mq) (x:=⟨u,wu,L,mv⟩) hX (fu.sl.ak (r1.trans c2)) w1.sl (by show u.shape.length<=1000000;omega) (by show L.length<=1000000;omega);refine aw y5 ⟨Aj _,?_⟩;have n151:=B1.n;have u0:=v5.ak B1;obtain⟨nv,O2,z5,g0,O0,f156⟩:=Q4 (m:=w5) (x:=k') hX hY u0.st.sl ac (by have:=hP.zg;rw[<-y2]at this;unfold yf at this;have:=JL.1 this;exact this) s1.one s2.one;apply aw z5;have n156:=g0.n;have cn:=O0.sl.cells;refine bV J5 (g0.cells u0.cell) (by rw[cn];rfl) (by rw[cn];show 0+2+1<=5;decide) (by rw[cn];simp[O0.sl.one]) λH1 P2 r0 h0=>?_;have j0:∀c cs t g,O2.get c=.cells cs t g->t≠37->H1.get c=.cells cs t g:=λc cs t g F ht=>(h0 c λe=>by subst e;rw[g0.cells u0.cell]at F;cases F;exact ht rfl).trans F;have A5:k'.u=u:=o3;have B5:k'.ms=L:=r3;have P0:Aa y t=y.rc:=(by unfold Aa;rw[MO λh=>ac]);have O5:BU y t=y.mo:=(by unfold BU;rw[MO ac]);have f4:=xq.trans (B1.trans g0);have Q0:∀z∈jv (λx:KW=>x.u.id) acc k',z=k'\/z∈acc:=λz hz=>(by unfold jv at hz;grind);have tq:∀t,t∈aQ.ty Pl::aQ.dU Pl->t≠37:=λt h=>(by simp only[aQ.ty,aQ.dU,OS,Dy,or_false]at h;subst h;decide);have tk:∀t,t∈aQ.ty KW::aQ.dU KW->t≠37:=λt h=>(by simp only[aQ.ty,aQ.dU,OS,Dy,or_false]at h;subst h;decide);refine hQ _ _ _ ⟨rfl,ac,⟨nv,p0,d0,by rw[r0,cn];rfl,⟨jv (λx:KW=>x.u.id) acc k',?_,?_⟩,by rw[P0];exact nY j0 tf (sR.ak f4),by rw[O5];exact nY j0 to (sM.ak f4)⟩,ac,λc h1 h2=>by rw[h0 c h2,f4.get c ac,hO.fr c h1 h2]⟩;rw[Ra,y2];unfold As;rw[QL k2,r7];show _=jv _ y.st ⟨u,_⟩;rw[<-hL,<-A5,<-B5];refine Gl.aY (m:=O2) ⟨O0.sl,O0.sln,λz hz=>?_,λz hz=>?_,λz hz=>?_,λz hz=>?_⟩ λc cs t g F ht=>j0 c cs t g F be;rcases Q0 z hz with rfl |hz;exact s1.ak g0;exact(u0.kv z hz).1.ak g0;rcases Q0 z hz with rfl |hz;exact s2.ak g0;exact(u0.kv z hz).2.1.ak g0;rcases Q0 z hz with rfl |hz;rw[A5];omega;exact(u0.kv z hz).2.2.1;rcases Q0 z hz with rfl |hz;rw[B5];omega;exact(u0.kv z hz).2.2.2;have k2:=LL k2;have g4:=stA_n (y:=y) k2;rw[aJ,ae,ag];refine af (λk8=>?_) (λk8=>?_);have k8:=Ds k8;have a6: -2<=t.side/\t.side<=7:=mc.1 (K5 d1 ac).2.2.2.1;rw[(ff hO.cell).2.2.1,ae,(mU G2).2.1,ae,(mU G2).2.2.2.1,ae,FZ,ae];obtain⟨nv,j4,k4,e0,y0,f91⟩:=Q5 (x:=⟨t.id,t.side⟩) hX hY sR ac (λf hf=>by rcases OS.1 hf with rfl |hf;exact a6;exact(hP.zZ f hf).2) (hP.Bz.imp_of_mem λha hb h=>(AE (hP.zZ _ ha).2 (hP.zZ _ hb).2).1 h);apply aw k4;have y7:=e0.n;have cn:=y0.sl.cells
 refine bV Pg (e0.cells hO.cell) (by rw[cn];rfl) (by rw[cn];show 0+3+1<=5;decide) (by rw[cn];simp[y0.sl.one]) λH1 P2 r0 h0=>?_;have j0:∀c cs t g,j4.get c=.cells cs t g->t≠37->H1.get c=.cells cs t g:=λc cs t g F ht=>(h0 c λe=>by subst e;rw[e0.cells hO.cell]at F;cases F;exact ht rfl).trans F;refine hQ _ _ _ ⟨rfl,ac,⟨sv,nv,d0,by rw[r0,cn];rfl,?_,nY j0 tf (by rw[ab3 hP a6 k8];exact y0.sl),?_⟩,ac,λc h1 h2=>by rw[h0 c h2,e0.get c ac,hO.fr c h1 h2]⟩;exact hO.kev (l0.trans g4.symm) λc cs t g F ht=>j0 c cs t g (e0.cells F) ht;have:BU y t=y.mo:=(by unfold BU;rw[MO ac]);rw[this];exact nY j0 to (sM.ak e0);have k8:=LL k8;have P0:Aa y t=y.rc:=(by unfold Aa;rw[MO λh=>k8 h.1]);rw[aJ,ae,ag];refine af (λk9=>?_) (λk9=>?_);have k9:=Ds k9;have z7:0<=t.other/\t.other<=99:=mc.1 (K5 d1 ac).2.2.1;rw[(ff hO.cell).2.2.2.1,ae,(mU G2).2.1,ae,(mU G2).2.2.1,ae,(mU G2).2.2.2.2,ae,JM,ae];have ok:∀z∈y.mo,0<=z.b/\z.b<=99:=λz hz=>(by have:=hP.I7 z hz;omega);obtain⟨nv,j4,k4,e0,y0,f91⟩:=Q3 (x:=⟨t.id,t.other,t.cD⟩) hX hY sM ac (λf hf=>by grind) (hP.Ea.imp_of_mem λha hb h=>(Fk (ok _ ha) (ok _ hb)).1 h);apply aw k4;have y7:=e0.n;have cn:=y0.sl.cells;refine bV VR (e0.cells hO.cell) (by rw[cn];rfl) (by rw[cn];show 0+4+1<=5;decide) (by rw[cn];simp[y0.sl.one]) λH1 P2 r0 h0=>?_;have j0:∀c cs t g,j4.get c=.cells cs t g->t≠37->H1.get c=.cells cs t g:=λc cs t g F ht=>(h0 c λe=>by subst e;rw[e0.cells hO.cell]at F;cases F;exact ht rfl).trans F;refine hQ _ _ _ ⟨rfl,ac,⟨sv,p0,nv,by rw[r0,cn];rfl,?_,?_,nY j0 to (by rw[Uk hP z7 k9];exact y0.sl)⟩,ac,λc h1 h2=>by rw[h0 c h2,e0.get c ac,hO.fr c h1 h2]⟩;exact hO.kev (l0.trans g4.symm) λc cs t g F ht=>j0 c cs t g (e0.cells F) ht;rw[P0];exact nY j0 tf (sR.ak e0);have k9:=LL k9;refine hQ _ _ _ ⟨rfl,A6,⟨sv,p0,d0,hO.cell,hO.kev (l0.trans g4.symm) λc cs t g F _=>F,by rw[P0];exact sR,?_⟩,nO,hO.fr⟩;have:BU y t=y.mo:=(by unfold BU;rw[MO k9]);rw[this];exact sM;rintro _ d2 ja ⟨rfl,w2,⟨a,b,c,gE,⟨ke,A7,b6⟩,sb,sc⟩,nE,c6⟩;have T2:∀c,c < m3.n->d2.get c=m3.get c:=λc F=>(c6 c ac ac).trans (i0.get c F);rw[(ff gE).2.2.2.2,ae];have G3:d2.get m2.n=_:=(T2 m2.n ac).trans g3;have oE:(yc p q a b c).all one=true:=(by show(one p && (one q && (one a && (one b && (one c && true)))))=true;rw[o1,o2,b6.sl.one,sb.one,sc.one];rfl);refine aj pM G3 rfl rfl oE λi2 d9 d6 c3=>?_;have a8:i2.get m2.n=.cells (yc p q a b c) 37 none:=d6;rw[(ff a8).2.2.2.2,ae];have j2:∀c cs t g,d2.get c=.cells cs t g->t≠37->i2.get c=.cells cs t g:=λc cs t g F ht=>(c3 c λe=>by subst e;rw[G3]at F;cases F;exact ht rfl).trans F;have f6:∀c cs t g,s0.get c=.cells cs t g->t≠37->i2.get c=.cells cs t g:=λc cs t g F ht=>j2 c cs t g ((c6 c (M.aP F) λe=>by subst e;rw[gO]at F;cases F;exact ht rfl).trans F) ht;have d3:=B4.trans (R4.trans (j3.trans K1));have g6:tC i2 ⟨vs,ns,As y t,Aa y t,BU y t⟩ p q a b c:=⟨⟨us,s6,(u6.ak d3).aY λc cs t g F ht=>f6 c cs t g F be⟩,nY f6 tm (v6.ak d3),⟨ke,A7,b6.aY λc cs t g F ht=>j2 c cs t g F be⟩,nY j2 tf sb,nY j2 to sc⟩
 refine K3 (m:=m) (vs:=[yv p q a b c,.int .i64 0]) (Q:=λrv m'=>lP (jO y t) m' rv) ac ⟨ac,λc F=>by rw[c3 c ac,T2 c ac,x3.get c F]⟩ (by rw[hD];exact⟨_,_,_,_,_,rfl,g6⟩) λhf=>?_;rw[hD];refine⟨_,_,_,_,_,rfl,?_⟩;have c1:((D.bO p && (D.bO q && (D.bO a && (D.bO b && (D.bO c && true))))) && (true && true))=true:=hf;simp only[IG]at c1;exact g6.flat ⟨c1.1.1,c1.1.2.1,c1.1.2.2.1,c1.1.2.2.2.1,c1.1.2.2.2.2.1⟩ m
end
section
def over_self{a:List Pl}(h:bL a):gD a a:=by have hl:=dH h;have hc:ql a:=(by simp only[bL,IG]at h;exact h.2);have hs:(List.range a.length).find? (yu a a)=none:=(by rw[Rw];intro i hi F;have hi:=M6.1 hi;have H:=RT.1 hc i (M6.2 hi);unfold Ms at H;unfold yu at F;split at H;rename_i p q hp hq;rw[hp,hq]at F;simp only[UC,W5,Mj]at F;obtain⟨k,hk,h1,h2⟩:∃k,k<a.length/\k≠i/\k≠(i+1)%a.length:=(by have hm:(i+1)%a.length=i+1\/(i+1)%a.length=0:=(by by_cases e:i+1<a.length;exact .inl (T5 e);exact .inr (by rw[show i+1=a.length by omega,SA]));by_cases e0:i=0;exact⟨2,ac,ac,by rw[T5 ac];omega⟩;by_cases e1:i+1<a.length;exact⟨0,ac,ac,by rw[T5 e1];omega⟩;exact⟨1,ac,ac,by rw[show i+1=a.length by omega,SA];omega⟩);have hx:=RT.1 H (a[k],k) (List.mem_zipIdx_iff_getElem?.2 (Np hk));simp only[ZG,beq_iff_eq,Mj]at hx;have:=F a[k] (List.getElem_mem hk);omega;cases H);have hf:eA a a= -1:=(by unfold eA;rw[hs]);unfold gD;rw[h,hf];rfl
def It{u:Un}:oY u u=none:=by unfold oY;split;unfold oM;(cases F:bL u.shape with|false=>rfl|true=>rw[over_self F];rfl);rfl
def pN(id a:Int):Tk:={kind:=4,un:=⟨0,0,0,[],0,0⟩,id:=id,other:=0,side:=0,cD:=a}
def uE(id o a:Int):Tk:={kind:=9,un:=⟨0,0,0,[],0,0⟩,id:=id,other:=o,side:=0,cD:=a}
def jV{us:List Un}(F:cq us){u:Un}(h:u∈us):cp us u.id=some u:=by have⟨i,hi⟩:=RL h;exact om F hi
variable{y:Yd}{u v:Un}{a:Int}
def Rf(hu:0<=u.id/\u.id<=99)(F:0<=a/\a<=7):dY (pN u.id a):=by unfold dY pN eo di;simp;omega
def Mb(F:rG y)(hu:u∈y.us)(H:0<=a/\a<=7):(jO y (pN u.id a)).isSome=y.us.all λv=> !lR u v ||bX a v.cD:=by unfold jO;rw[QL (Rf (Io (F.qj.val u hu)) H)];exact TL (t:=pN u.id a) rfl F H (jV F.qj hu)
def PQ(H:rG y)(hu:u∈y.us){z:Yd}(h:jO y (pN u.id a)=some z):z.us.length=y.us.length/\{u with cD:=a}∈z.us:=by unfold jO at h;split at h;obtain⟨w,hw,e, -, -⟩:=abd (t:=pN u.id a) rfl h;have hf:cp y.us (pN u.id a).id=some u:=jV H.qj hu;obtain rfl:u=w:=(by rw[hf]at hw;exact Option.some.inj hw);have h1:(jG (gd y.us u.id) {u with cD:=a}).Perm ({u with cD:=a}::gd y.us u.id):=D2 λv F=>(by have:=(IJ.1 F).2;simp at this;exact λe=>this e);have h2:(jG (gd y.us u.id) u).Perm (u::gd y.us u.id):=D2 λv F=>(by have:=(IJ.1 F).2;simp at this;exact λe=>this e);rw[Kg H.qj.CZ hu]at h2;rw[e];refine⟨?_,h1.mem_iff.2 (UA ..)⟩;show(jG (gd y.us u.id) {u with cD:=a}).length=_;rw[h1.length_eq,h2.length_eq,Vz,Vz];cases h
def Rg(hu:0<=u.id/\u.id<=99)(F:0<=v.id/\v.id<=99)(H:0<=a/\a<=7):dY (uE u.id v.id a)=decide (u.id<v.id):=by unfold dY uE eo di;simp;omega
theorem P6(H:rG y)(hu:u∈y.us)(hv:v∈y.us)(hle:u.id<=v.id)(ha:0<=a/\a<=7){s:Bool}(hs:s=(lR u v && bM a u.cD && bM a v.cD)):
  match jO y (uE u.id v.id a)with
  |none=>(!s ||decide (y.mo.length=20))=true
  |some z=>s=true/\(⟨u.id,v.id,a⟩:Mo)∈z.mo:=by
 have hf:=Rg (u:=u) (v:=v) (Io (H.qj.val u hu)) (Io (H.qj.val v hv)) ha;cases hw:jO y (uE u.id v.id a)with
 |none=>
  unfold jO at hw;rw[hf]at hw;by_cases b0:u.id<v.id
  ·rw[QL (L5 b0)]at hw;have F:=J7 (touch:=lR) (suits:=bX) (softer:=bM) (t:=uE u.id v.id a) rfl (jV H.qj hu) (jV H.qj hv);rw[hw]at F;have F:false=(s && (decide (y.mo.length<20) ||_)):=hs ▸ F;have:=H.QD;cases s with
   |false=>rfl
   |true=>rw[Dn]at F;have:=F.symm;rw[Pz,T8]at this;simp;omega
  have e:u=v:=by have h1:=jV H.qj hu;have h2:=jV H.qj hv;rw[show u.id=v.id by omega,h2]at h1;exact(Option.some.inj h1).symm
  subst e;have:lR u u=false:=by unfold lR;rw[It];rfl
  rw[hs,this];rfl
 |some z=>
  unfold jO at hw;rw[hf]at hw;split at hw
  ·have F:=J7 (touch:=lR) (suits:=bX) (softer:=bM) (t:=uE u.id v.id a) rfl (jV H.qj hu) (jV H.qj hv);rw[hw]at F;have F:true=(s && (decide (y.mo.length<20) ||_)):=hs ▸ F;refine⟨?_,?_⟩
   ·cases s with
    |true=>rfl
    |false=>cases F
   unfold pO at hw;split at hw;·cases hw
   obtain⟨p, -,rfl⟩:=ZL.1 hw;exact Uj (t:=uE u.id v.id a) rfl
  cases hw
end
section
set_option maxRecDepth 100000
set_option maxHeartbeats 0
abbrev F8{W:Words}{x0 x1:Φ}{R:Ω->M->Nat->Prop}:=cN (P:=fP TE W Tryz.f8 [x0,x1] m R)
abbrev F3{W:Words}{x0 x1 x2 x3 x4:Φ}{R:Ω->M->Nat->Prop}:=cN (P:=fP TE W Tryz.f3 [x0,x1,x2,x3,x4] m R)
end
variable{X:aF}{m:M}
def vn(F:cy X){c:Int}{n:Nat}(H:pI c)(hn:0<n):∃k:Nat,k<n/\C X (.func 8) [ν c,ν (n:Int)] m m.n (ν (k:Int)) m:=by have⟨k,h1,h2⟩:=nU (c:=c) hn;refine⟨k,h1,Cl.fG F (Us func8) ?_⟩;rw[F8];dsimp only[aG];simp only[jn,av];exact tS H (n:=(n:Int)) ac (P:=λv=>aM [v]=ν (k:Int)/\m.n<=m.n) ⟨by rw[h2];rfl,Aj _⟩
def Wv{l:List UW}{v:Φ}(h:Sl m l v){i:Nat}{x:UW}(F:l[i]?=some x):∃a a0,aE TE 27 v (ν i)=some a/\az TE 43 a 2=some a0/\aC TE m 3 a0=some (ν x.u.cD):=by have⟨b,o,bc,g,cs,H,hb,hr,_,hj⟩:=h.jc cM (k:=.i64) F;obtain⟨rfl,_⟩:=hr;refine⟨_,_,H,cj,?_⟩;rw[bR,aH hb,hj 2 ce];rfl
def eq_mo{a b:Mo}:bE TE .eql 60 a.v b.v=some (.bool ((a.a==b.a) && ((a.b==b.b) && ((a.cD==b.cD) && true)))):=bv
def neq_b{p q:Bool}:bE TE .neq 4 (.bool p) (.bool q)=some (.bool (!(p==q))):=bv
def pL{x:UW}(ow:one x.w){P:M->Nat->Prop}(h:∀m2,Ext m m2->m2.n=m.n+1->m2.get m.n=.cells (x.u.c x.w) 43 none->P m2 m.n):
  nf (M.push m (.cells [ν 0,ν 0,ν 0,LF,ν 0,ν 0] 43 none)) λm1=>dh (bh TE m1 43 (Ψ m.n 0) (x.u.v x.w)) P:=by refine ah λm1 b0 F d0=>?_;refine aj dN F rfl rfl (Un.dt ow) λm2 e0 H g0=>?_;exact h m2 ⟨ac,be⟩ ac H
def Li{o:Option Ct}{P:M->Nat->Prop}(h:∀m2,Ext m m2->P m2 m.n):
  nf (M.push m (.cells [ν 0,ν 0,ν 0,ν 0,ν 0,ν 0,ν 0,ν 0] 50 none)) λm1=>dh (bh TE m1 50 (Ψ m.n 0) (.agg (Dv o).toArray)) P:=by refine ah λm1 H F b0=>?_;refine aj uC F (by show(Dv o).length=_;rw[eR];rfl) (by show(Dv o).length=_;rw[eR];rfl) (by show(Dv o).all one=true;exact nn o) λm2 d0 e0 g0=>?_;exact h m2 ⟨ac,be⟩
def yg{a b c d e:Φ}(ho:(yc a b c d e).all one){P:M->Nat->Prop}(h:∀m2,Ext m m2->m2.get m.n=.cells (yc a b c d e) 37 none->P m2 m.n):
  nf (M.push m (.cells [LF,LF,LF,LF,LF] 37 none)) λm1=>dh (bh TE m1 37 (Ψ m.n 0) (yv a b c d e)) P:=by refine ah λm1 b0 F d0=>?_;refine aj pM F rfl rfl ho λm2 e0 H g0=>?_;exact h m2 ⟨ac,be⟩ H
def Vu{id a:Int}:bz TE 58 [(0,.int .i64 4),(2,.int .i64 id),(5,.int .i64 a)]=some ((pN id a).v LF):=bv
def Vv{id o a:Int}:bz TE 58 [(0,.int .i64 9),(2,.int .i64 id),(3,.int .i64 o),(5,.int .i64 a)]=some ((uE id o a).v LF):=bv
set_option maxHeartbeats 4000000 in
theorem Dd(hX:cy X)(v1:C1 X)(hI:rz X)(hY:EI X)(A2:NS X)(hU:gI m)(b2:∀m1:M,Ext m m1->C X (.func 6) [] m1 m1.n WB m1){xs:List I6}{ks:List I4}{vb vk va:Φ}(hv:N2 m xs vb)(e4:∀x∈xs,x.ok)(hlen:xs.length < 9223372036854775808)(hk:vT m ks vk)(B2:∀x∈ks,x.ok)(d2:ks.length < 9223372036854775808)(f4:one va=true)
  {ws:List I6} {vw:Φ} (hw:vT m ws vw) (G2:∀x∈ws,x.ok) (g2:ws.length < 9223372036854775808) {i0 i1 i2:Int} (h0:pI i0) (h1:pI i1) (h2:pI i2):
  C X (.func 3) [.agg #[vb,vk,va],vw,.int .i64 i0,.int .i64 i1,.int .i64 i2] m m.n WB m:=by
 apply Cl.fG hX (Us func3);rw[F3];dsimp only[aG];refine ah λm1 h6 M2 y1=>?_;have x1:Ext m m1:=⟨ac,y1⟩;have g1:m1.get m.n=.cells [vb,vk,va] 25 none:=M2;clear M2 y1;have n1:=x1.n;unfold ptrTo;apply aw (b2 m1 x1);rw[bB,ae,ag];show lI false _ _;rw[aT,show aC TE m1 25 (.pointer (some ⟨m.n,0,none⟩))=some (.agg #[vb,vk,va]) by rw[KL,aI (n:=3) g1 (by show 0+3<=3;decide)];rfl,ae];obtain⟨y,r,r2,st,rc,mo,l,v,m9,c9,x9,hP,hV, -, -,i6,j6⟩:=MR (m:=m1) hX (hv.ak x1) e4 hlen (hk.ak x1) B2 d2 f4 (hw.ak x1) G2 g2;apply aw c9;have n9:=x9.n;rw[aD,aD];simp only[LB,IM,ae];refine yg hV.iL λm14 k0 gY=>?_;have k6:=k0.n;have B0:=hV.ak k0;simp only[dq,eM,bP,bk,aW,cX,cj,ae];have⟨F,b0,hF⟩:=B0.qj;have g4:cq (bH F):=(by rw[b0];exact hP.qj);have l6:F.length<=12:=(by have:=g4.len;unfold bH at this;rwa[MB]at this);have O2:∀{i:Nat} {x:UW},F[i]?=some x->x.u∈y.us:=λh=>(by rw[<-b0];exact Cw (Jc h));apply aA (rN gY).2.1;rw[hF.sl.len cM,an,aJ,ae,ag];refine af (λc=>⟨rfl,by have q1:=x1.n;have q9:=x9.n;have m6:=k0.n;simp only[Nat.le_min];refine⟨⟨⟨?_,?_⟩,?_⟩,?_⟩ <;>omega⟩) (λc=>?_);have P2:0 < F.length:=(by rcases Nat.eq_zero_or_pos F.length with j2 |j2;rw[j2]at c;simp at c;exact j2);rw[an];have⟨k,y1,ck⟩:=vn (m:=m14) hX h0 P2;apply aw ck;obtain⟨x,hx⟩:∃x,F[k]?=some x:=⟨_,Np y1⟩;have⟨q,q1,q2,ow⟩:=hF.sl.gh (k:=.i64) hx;rw[q1,ae,q2,ae];refine pL ow λQ2 l0 z5 gU=>?_;obtain⟨a,n6,ca⟩:=vn (m:=Q2) hX h1 (n:=8) ce;apply aw ca;have ha:0<=(a:Int)/\(a:Int)<=7:=ac;have T2:=O2 hx;have n28:=l0.n;have o6:=λ{mm:M} (hm:Ext m14 mm)=>(hF.ak hm).sh;have A1:=hF.ln;refine Lp.intro (γ:=Nat) (λi=>F.length-i) (λi vs mm lo=>vs=[.bool ((F.take i).all λv=> !lR x.u v.u ||bX a v.u.cD),.int .i64 i]/\i<=F.length/\Ext Q2 mm/\m.n<=lo) 0 ⟨rfl,ZX _,.refl,ac⟩ ?_;rintro i _ mm lo ⟨rfl,hi,xm,r6⟩;have nm:=xm.n;have O0:=hF.ak (l0.trans xm);have B1:=xm.cells gU;rw[av,av,O0.sl.len cM,an,aK,ae,ag];refine af (λs0=>?_) (λl2=>?_);have s0:i < F.length:=be;obtain⟨z,hz⟩:∃z,F[i]?=some z:=⟨_,Np s0⟩;have⟨p,p1,p2,u0⟩:=O0.sl.gh (k:=.i64) hz;have g0:F.take (i+1)=F.take i++ [z]:=(by rw[Tv,hz];rfl);rw[bQ B1,ae,p1,ae,p2,ae];refine aw (tG hX v1 (O0.sh x (Jc hx)) (O0.sh z (Jc hz)) (A1 x (Jc hx)) (A1 z (Jc hz))) ⟨Aj _,?_⟩;rw[aD,aD];simp only[LB,IM,ae];refine Li λh4 y0=>?_;have s6:=y0.n;rw[ag];refine af (λc=>?_) (λc=>?_);rw[bB,ae,ag];refine af (λc2=>?_) (λc2=>?_);rw[aL,ae,wrap64];refine⟨i+1,ac,?_,ac,xm.trans y0,ac⟩;rw[g0,Nk,c];have:lR x.u z.u=false:=(by unfold lR;simpa using c2);simp[this];have⟨a1,a0,e1,e2,e3⟩:=Wv (m:=h4) (O0.ak y0).sl hz;obtain rfl:p=a1:=Option.some.inj (p1.symm.trans e1);rw[e2,ae,e3,ae];apply aw (DJ hX (hU.ak (x1.trans (x9.trans (k0.trans (l0.trans (xm.trans y0)))))) _ _);rw[aL,ae,wrap64];refine⟨i+1,ac,?_,ac,xm.trans y0,ac⟩;rw[g0,Nk,c];have:lR x.u z.u=true:=(by unfold lR;simpa using c2);simp[this];rw[aL,ae,wrap64];refine⟨i+1,ac,?_,ac,xm.trans y0,ac⟩;rw[g0,Nk,c];rfl;obtain rfl:i=F.length:=be;rw[Nl];have H1:(F.all λv=> !lR x.u v.u ||bX a v.u.cD)=(jO y (pN x.u.id a)).isSome:=(by rw[Mb hP T2 ha,<-b0];unfold bH;rw[List.all_map];rfl)
 have j4:=(l0.trans xm).cells gY;have xY:=k0.trans (l0.trans xm);have k4:=hV.ak xY;rw[(ff j4).2.2.2.2,ae,(ji B1).1,ae,Vu,ae];obtain⟨rv,u6,l4,P0,hR⟩:=DL (m:=mm) (t:=pN x.u.id a) (w:=LF) hX v1 hI hY A2 (hU.ak (x1.trans (x9.trans xY))) k4 hP (.inl ⟨rfl,rfl⟩) (by show 0 < 100000;decide);apply aw l4;have v6:=P0.n;obtain⟨na,nb,nc,nd,ne,ek,rfl,ho,hS,hN⟩:=Ii hR;rw[aD,aD];simp only[LB,IM,ae];refine yg ho λb3 A0 gN=>?_;have w6:=A0.n;have m4:decide (ek=0)=(jO y (pN x.u.id a)).isSome:=(by cases hw:jO y (pN x.u.id a)with|none=>rw[hN hw];rfl|some z=>rw[(hS z hw).1];rfl);rw[aJ,ae,m4,<-H1,neq_b,ae,beq_self_eq_true,ag];show lI false _ _;rw[aT];refine aX (λvs mm lo=>vs=[L4]/\Ext b3 mm/\m.n<=lo) (λy6 K1=>?_) ?_;rw[ae,ag];refine af (λc=>?_) (λc=>K1 _ _ _ ⟨rfl,.refl,by simp only[Nat.le_min];omega⟩);obtain⟨z,hz⟩:∃z,jO y (pN x.u.id a)=some z:=IY.1 (by rw[<-H1];exact c);have hZ:=((hS z hz).2).ak A0;have⟨n4,d3⟩:=PQ hP T2 hz;have⟨zs,g3,o4⟩:=hZ.qj;have r4:zs.length=F.length:=(by have h1:(bH zs).length=zs.length:=MB ..;have h2:(bH F).length=F.length:=MB ..;rw[<-h1,<-h2,g3,b0,n4]);have h3:(zs.any λv=>v.u.id==x.u.id && (v.u.cD==(a:Int) && v.u.kind==x.u.kind))=true:=(by rw[<-g3]at d3;have⟨q,hq,e⟩:=NL.1 d3;refine WC.2 ⟨q,hq,?_⟩;rw[e];simp);refine Lp.intro (γ:=Nat) (λi=>zs.length-i) (λi vs mm lo=>vs=[.bool ((zs.take i).any λv=>v.u.id==x.u.id && (v.u.cD==(a:Int) && v.u.kind==x.u.kind)),.int .i64 i]/\i<=zs.length/\Ext b3 mm/\m.n<=lo) 0 ⟨rfl,ZX _,.refl,by simp only[Nat.le_min];omega⟩ ?_;rintro i _ u4 ja ⟨rfl,Gi,H,o0⟩;have z6:=H.n;have o2:=o4.ak H;have u2:=H.cells gN;have w4:=(P0.trans (A0.trans H)).cells B1;rw[av,av];apply aA (rN u2).2.1;rw[o2.sl.len cM,an,aK,ae,ag];refine af (λs0=>?_) (λl2=>?_);have s0:i < zs.length:=be;obtain⟨q,hq⟩:∃q,zs[i]?=some q:=⟨_,Np s0⟩;have⟨p,p1,p2,u0⟩:=o2.sl.gh (k:=.i64) hq;have g0:zs.take (i+1)=zs.take i++ [q]:=(by rw[Tv,hq];rfl);apply aA (rN u2).2.1;rw[p1,ae,p2,ae];refine pL u0 λA5 d0 y4 gV=>?_;have n104:=d0.n;have i3:=d0.cells w4;rw[ag];refine af (λc1=>?_) (λc1=>?_);rw[aL,ae,wrap64];refine⟨i+1,ac,?_,ac,H.trans d0,ac⟩;rw[g0,NC,c1];rfl;rw[(ji gV).1,ae,(ji i3).1,ae,aJ,ae,ag];refine af (λc2=>?_) (λc2=>?_);rw[(ji gV).2.2.1,ae,aJ,ae,ag];refine af (λc3=>?_) (λc3=>?_);rw[(ji gV).2.1,ae,(ji i3).2.1,ae,aJ,ae,aL,ae,wrap64];refine⟨i+1,ac,?_,ac,H.trans d0,ac⟩;rw[g0,NC,c1];simp only[List.any_cons,List.any_nil,Vr,U4];rw[show(q.u.id==x.u.id)=true by simpa using c2,show(q.u.cD==(a:Int))=true by simpa using c3];rfl;rw[aL,ae,wrap64];refine⟨i+1,ac,?_,ac,H.trans d0,ac⟩;rw[g0,NC,c1];simp at c3⊢;simp[c3];rw[aL,ae,wrap64];refine⟨i+1,ac,?_,ac,H.trans d0,ac⟩;rw[g0,NC,c1];simp at c2⊢;simp[c2];obtain rfl:i=zs.length:=be;rw[Nl,h3];refine aX (λvs m' lo=>vs=[L4]/\m'=u4/\m.n<=lo) (λR hR=>?_) ?_;rw[bB,ae,ag];show lI false _ _;rw[aT];apply aA (rN u2).2.1;rw[o2.sl.len cM,an,(hF.ak (l0.trans (xm.trans (P0.trans (A0.trans H))))).sl.len cM,an,bZ,ae];exact hR _ _ _ ⟨by rw[r4];simp,rfl,o0⟩;rintro _ _ A4 ⟨rfl,rfl,Q0⟩;rw[av,ag];show lI false _ _;rw[aT];exact K1 _ _ _ ⟨rfl,H,Q0⟩
 rintro _ B4 B5 ⟨rfl,v2,O4⟩;have A6:=v2.n;rw[av];have j3:=l0.trans (xm.trans (P0.trans (A0.trans v2)));have k3:=hF.ak j3;rw[k3.sl.len cM,an];have⟨k2,R4,W4⟩:=vn (m:=B4) hX h2 P2;apply aw W4;obtain⟨y2,l3⟩:∃q,F[k2]?=some q:=⟨_,Np R4⟩;have⟨q',a5,b5,u0⟩:=k3.sl.gh (k:=.i64) l3;rw[a5,ae,b5,ae];refine pL u0 λO1 d1 c5 m3=>?_;have n146:=d1.n;have d5:=(P0.trans (A0.trans (v2.trans d1))).cells B1;rw[bQ d5,ae];refine pL ow λn3 p0 e5 gA=>?_;rw[bQ (p0.cells m3),ae];refine pL u0 λO5 q0 f5 gB=>?_;have G1:=q0.cells gA;have n150:=p0.n;have n154:=q0.n;have mx:=Jc hx;have my:=Jc l3;refine aX (λ_ mm lo=>∃p q:UW,p∈F/\q∈F/\p.u.id<=q.u.id/\Ext O1 mm/\mm.get O1.n=.cells (p.u.c p.w) 43 none/\mm.get n3.n=.cells (q.u.c q.w) 43 none/\m.n<=lo) (λa6 hR=>?_) ?_;rw[(ji G1).1,ae,(ji gB).1,ae,cz,ae,ag];refine af (λc=>?_) (λc=>?_);rw[bQ gB,ae,bQ G1,ae];refine aj dN G1 rfl rfl (Un.dt u0) λb6 g5 w2 j1=>?_;refine aj dN ((j1 _ ac).trans gB) rfl rfl (Un.dt ow) λc6 h5 z2 k1=>?_;refine hR _ _ _ ⟨y2,x,my,mx,by simp at c;omega,⟨ac,λd hd=>?_⟩,(k1 _ ac).trans w2,z2,by simp only[Nat.le_min];omega⟩;rw[k1 _ ac,j1 _ ac];exact(p0.trans q0).get d hd;exact hR _ _ _ ⟨x,y2,mx,my,by simp at c;omega,p0.trans q0,G1,gB,by simp only[Nat.le_min];omega⟩;rintro _ d6 i5 ⟨p,q,hp,hq,j5,T1,gP,gQ,d4⟩;have n158:=T1.n;have o3:=j3.trans (d1.trans T1);have r3:=hF.ak o3;rw[bQ gP,ae,bQ gQ,ae];apply aw (tG hX v1 (r3.sh p hp) (r3.sh q hq) (A1 p hp) (A1 q hq));rw[aD,aD];simp only[LB,IM,ae];refine Li λu3 r0=>?_;have n179:=r0.n;have xa:=o3.trans r0;have w3:=xa.cells gY;have y3:=r0.cells gP;have A3:=r0.cells gQ;rw[(ff w3).2.2.2.2,ae,(ji y3).1,ae,(ji A3).1,ae,Vv,ae];obtain⟨B6,e6,B3,a2,k5⟩:=DL (m:=u3) (t:=uE p.u.id q.u.id a) (w:=LF) hX v1 hI hY A2 (hU.ak (x1.trans (x9.trans (k0.trans xa)))) (B0.ak xa) hP (.inl ⟨rfl,rfl⟩) (by show 0 < 100000;decide);apply aw B3;have n188:=a2.n;obtain⟨pa,pb,pc,pd,pe,a7,rfl,l5,m5,n5⟩:=Ii k5;rw[aD,aD];simp only[LB,IM,ae];refine yg l5 λl1 r1 gM=>?_;have n193:=r1.n;have xb:=a2.trans r1;have G3:=xb.cells y3;have O3:=xb.cells A3;have o5:=xb.cells w3;have b4:=hU.ak (x1.trans (x9.trans (k0.trans (xa.trans xb))));refine aX (λvs mm lo=>vs=[.bool (lR p.u q.u && bM a p.u.cD && bM a q.u.cD)]/\l1=mm/\m.n<=lo) (λf6 n0=>?_) ?_;rw[ag];refine af (λc=>?_) (λc=>?_);have j0:lR p.u q.u=true:=(by unfold lR;exact c);rw[(ji G3).2.2.1,ae];apply aw (qt hX b4 _ _);rw[ag];refine af (λc2=>?_) (λc2=>?_);rw[(ji O3).2.2.1,ae];apply aw (qt hX b4 _ _);exact n0 _ _ _ ⟨by rw[j0,c2];rfl,rfl,by simp only[Nat.le_min];omega⟩;exact n0 _ _ _ ⟨by rw[j0,c2];rfl,rfl,by simp only[Nat.le_min];omega⟩;have j0:lR p.u q.u=false:=(by unfold lR;exact c);exact n0 _ _ _ ⟨by rw[j0];rfl,rfl,by simp only[Nat.le_min];omega⟩;rintro _ _ r5 ⟨rfl,rfl,e0⟩;rw[av,bZ,ae,ag];have u5:p.u∈y.us:=(by rw[<-b0];exact Cw hp);have v5:q.u∈y.us:=(by rw[<-b0];exact Cw hq);have hw:=P6 hP u5 v5 j5 ha (s:=lR p.u q.u && bM a p.u.cD && bM a q.u.cD) rfl
 cases hz:jO y (uE p.u.id q.u.id a)with|none=>rw[hz]at hw;obtain rfl:=n5 hz;show lI true _ _;rw[bN];refine aX (λvs mm lo=>vs=[WB]/\l1=mm/\m.n<=lo) (λg6 u1=>?_) ?_;rw[bB,ae,ag];refine af (λc=>u1 _ _ _ ⟨rfl,rfl,e0⟩) (λc=>?_);rw[(ff o5).2.2.2.1,ae,(B0.ak (xa.trans xb)).mo.len js,an,aJ,ae];refine u1 _ _ _ ⟨?_,rfl,e0⟩;have hw:(!(lR p.u q.u && bM a p.u.cD && bM a q.u.cD) ||decide (y.mo.length=20))=true:=hw;rw[c,U4]at hw;have:=Ds hw;rw[this];rfl;rintro _ _ A4 ⟨rfl,rfl,Q0⟩;rw[av];exact⟨rfl,Q0⟩|some z=>rw[hz]at hw;have⟨w5,hm⟩:=hw;obtain⟨rfl,hZ⟩:=m5 z hz;show lI false _ _;rw[aT];have c4:=hZ.ak r1;have⟨j,hj⟩:=RL hm;have b7:j < z.mo.length:=(Vc.1 hj).1;refine Lp.intro (γ:=Nat) (λi=>z.mo.length-i) (λi vs mm lo=>vs=[L4,.int .i64 i]/\l1=mm/\i<=j/\m.n<=lo) 0 ⟨rfl,rfl,ZX _,e0⟩ ?_;rintro i _ _ ja ⟨rfl,rfl,c7,o0⟩;have y5:rG z:=(by have hz:=hz;unfold jO at hz;split at hz;rename_i hf;exact GG hP hf hz;cases hz);have d7:=y5.QD;rw[av,av,(ff gM).2.2.2.1,ae,c4.mo.len js,an,aK,ae,ag];refine af (λs0=>?_) (λl2=>?_);obtain⟨w1,j0⟩:∃w,z.mo[i]?=some w:=⟨_,Np ac⟩;obtain⟨b1,o1,e1,e2, -⟩:=Hc c4.mo j0;rw[ae,e1,ae,e2,ae,(ji G3).1,ae,(ji O3).1,ae,JM,ae,eq_mo,ae,ag];refine af (λc=>?_) (λc=>?_);exact⟨by rw[w5];rfl,o0⟩;rw[aL,ae,wrap64];refine⟨i+1,ac,rfl,rfl,?_,o0⟩;have:i≠j:=(by rintro rfl;rw[hj]at j0;obtain rfl:=Option.some.inj j0;simp at c);omega;exfalso;have:=LL l2;omega
end Go.Proofs.YthffgohpkjpkbaaGreatDoor
namespace Go.D
open Go
variable{args:Ω}
section
variable{E:Env}{call:aF}{n:Nat}
def flat:Code->List Code
 |.seq a b=>flat a++flat b
 |c=> [c]
def kX(f:Code->Fr->Option (Ex×Fr)):List Code->Fr->Option (Ex×Fr)
 |[],fr=>some (.normal,fr)
 |c::r,fr=>match f c fr with
  |some (.normal,fr)=>kX f r fr
  |r=>r
theorem yS(f:Code->Fr->Option (Ex×Fr)):∀(a b:List Code) (fr:Fr),kX f (a++b) fr=match kX f a fr with|some (.normal,fr)=>kX f b fr|r=>r
 |[],b,fr=>rfl
 |c::a,b,fr=>by(show(match f c fr with|some (.normal,fr)=>kX f (a++b) fr|r=>r)=match(match f c fr with|some (.normal,fr)=>kX f a fr|r=>r)with|some (.normal,fr)=>kX f b fr|r=>r);cases h:f c fr with|none=>rfl|some p=>have⟨e,F⟩:=p;cases e with|normal=>exact yS f a b F|exit id=>rfl|ret=>rfl
theorem yT:∀(c:Code) (fr:Fr),bF E call n c fr=kX (bF E call n) (flat c) fr
 |.seq a b,fr=>by
  rw[flat,yS,<-yT a fr];show(match bF E call n a fr with|some (.normal,fr)=>bF E call n b fr|r=>r)=_;cases h:bF E call n a fr with
  |none=>rfl
  |some p=>
   have⟨e,F⟩:=p;cases e with
   |normal=>exact yT b F
   |exit id=>rfl
   |ret=>rfl
 |.skip,fr=>iD _ fr
 |.region _ _ _,fr=>iD _ fr
 |.cond _ _ _,fr=>iD _ fr
 |.block _ _,fr=>iD _ fr
 |.loop _,fr=>iD _ fr
 |.exit _,fr=>iD _ fr
 |.ret,fr=>iD _ fr
 |.label _,fr=>iD _ fr
 |.goto _,fr=>iD _ fr
 |.rangeFunc _ _ _ _,fr=>iD _ fr
 |.scope _,fr=>iD _ fr
 |.refuse _,fr=>iD _ fr
where
 iD (c:Code) (fr:Fr):bF E call n c fr=kX (bF E call n) [c] fr:=by
  unfold kX;cases h:bF E call n c fr with
  |none=>rfl
  |some p=>
   have⟨e,F⟩:=p;cases e <;>rfl
def NA{f:Code->Fr->Option (Ex×Fr)}{l:List Code}{fr F:Fr}(a k:Nat)(h:kX f ((l.drop a).take k) fr=some (.normal,F)):kX f (l.drop a) fr=kX f (l.drop (a+k)) F:=by have e:l.drop a=(l.drop a).take k++l.drop (a+k):=(by rw[<-M9,ZV]);rw[e,yS,h]
def aca{X:aF}{f:FuncId}{fn:Func}{c:Code}{m:M}{fr:Fr}{v:Φ}(F:X (.func f) args m=none)(H:E.fn.get f=some fn)(hb:fn.body=some c)(hle:Nat.ble args.length fn.ntmps)
  (he:bF E (bT E X n) n c {T:=enter args 0,m:={m with low:=m.n}}=some (.ret,fr)) (hr:result? E fn fr.T fr.m=some v) (hv:aZ v) (hl:Nat.ble m.n fr.m.low):bT E X (n+1) (.func f) args m=some (v,m):=by unfold bT;grind
end
section
variable{P:Program}
def BM(X Y:aF):aF:=λf args m=>match X f args m with |some r=>some r |none=>Y f args m
def tT{X Y:aF}{f:Fn}{m:M}{r:Φ×M}(h:BM X Y f args m=some r):X f args m=some r\/Y f args m=some r:=by unfold BM at h;cases F:X f args m with|none=>rw[F]at h;exact .inr h|some H=>rw[F]at h;exact .inl h
def mI{X Y:aF}(F:cP P X)(H:cP P Y):cP P (BM X Y):=
 ⟨λf args m v m' h=>(tT h).elim (F.func f args m v m') (H.func f args m v m'),
  λl args m v m' h=>(tT h).elim (F.yield l args m v m') (H.yield l args m v m'),
  λf args m v m' h=>(tT h).elim (F.aY f args m v m') (H.aY f args m v m'),
  λa m v m' b h=>(tT h).elim (F.NX a m v m' b) (H.NX a m v m' b)⟩
def gW{X Y:aF}{f:Fn}{m:M}(F:X f args m=none)(H:Y f args m=none):BM X Y f args m=none:=by unfold BM;rw[F];exact H
end
end Go.D
namespace Go.Proofs.YthffgohpkjpkbaaGreatDoor
open Go Go.D Go.Proofs.Tryz
variable{m:M}
def wI:Nat->Ω->Option (List Pl)
 |0,_=>some []
 |n+1,.int .i64 x::.int .i64 y::r=>match wI n r with |some l=>some (⟨x,y⟩::l) |none=>none
 |_+1,_=>none
def P8(m:M)(v:Φ):Option (List Pl):=
 match v with
 |.slice none 0 0=>some []
 |.slice (some a) n _=>match a.spot,m.get a.block with
  |none,.cells cs e _=>bif Nat.beq e 46 && Nat.ble (a.off+n*2) cs.length then wI n (cs.drop a.off)else none
  |_,_=>none
 |_=>none
theorem BF:∀{n:Nat} {cs:Ω} {l:List Pl},wI n cs=some l->l.length=n/\∀i p,l[i]?=some p->(cs.drop (i*2)).take 2=p.c
 |0,_,l,h=>by cases h;exact⟨rfl,λi p hi=>by cases hi⟩
 |n+1,cs,l,h=>by unfold wI at h;split at h;omega;rename_i n' x y r H;(cases H;cases F:wI n r with|none=>rw[F]at h;cases h|some l'=>rw[F]at h;cases h;have⟨h1,h2⟩:=BF F;refine⟨be,λi p hi=>?_⟩;match i with|0=>cases hi;rfl|i+1=>grind);cases h
def P7{v:Φ}{l:List Pl}(h:P8 m v=some l):Sl m l v:=by unfold P8 at h;split at h;cases h;exact .inl ⟨rfl,rfl⟩;rename_i a n c;split at h;rename_i cs e g F hg;(cases H:(Nat.beq e 46 && Nat.ble (a.off+n*2) cs.length)with|false=>rw[H]at h;cases h|true=>rw[H,gc]at h;rw[IG]at H;obtain rfl:=VA H.1;have hle:=U7 H.2;have⟨h1,h2⟩:=BF h;have⟨ab,ao,sp⟩:=a;have F:sp=none:=F;subst F;refine .inr ⟨ab,ao,c,cs,g,by rw[h1],hg,by rw[h1];exact hle,λi p hi=>?_⟩;have:=h2 i p hi;rw[M9]at this;exact this);cases h;cases h
def Kx:cy W7:=⟨λ_ _ _ _=>rfl⟩
def vj(m:M):Ω->Option (List (List Pl))
 |[]=>some []
 |v::r=>match P8 m v,vj m r with
  |some l,some ls=>bif Nat.ble l.length 1000 then some (l::ls)else none
  |_,_=>none
def plX(k:Nat)(g:List (List Pl)->Option Bool):aF:=λfn args m=>
 match fn with
 |.func f=>bif Nat.beq f k then(match vj m args with
  |some ls=>(match g ls with |some b=>some (.bool b,m) |none=>none)
  |none=>none)else none
 |_=>none
def tR{k:Nat}{g:List (List Pl)->Option Bool}{fn:Fn}{args:Ω}{r:Φ×M}(h:plX k g fn args m=some r):fn=.func k/\∃ls b,vj m args=some ls/\g ls=some b/\r=(.bool b,m):=by unfold plX at h;split at h;rename_i f;(cases F:Nat.beq f k with|true=>obtain rfl:=VA F;grind|false=>rw[F]at h;cases h);cases h
def Qa{k:Nat}{g:List (List Pl)->Option Bool}(hg:∀(m:M) args ls b,vj m args=some ls->g ls=some b->C W7 (.func k) args m m.n (.bool b) m)(hk:Nat.beq Da k=false):cP Tryz.prog (plX k g):=by refine⟨λf args m v m' F σ w H hs hl=>?_,λl args m v m' F=>(by cases (tR F).1),λf args m v m' F=>?_,λa m v m' b F=>by have:=(tR F).1;simp_all⟩;have⟨e,ls,b,h1,h2,h3⟩:=tR F;cases e;cases h3;have hc:=Cl.calls ai.ok W6 (hg m args ls b h1 h2) hs hl;exact⟨hc.1.mono λe w' h=>h.flat hs rfl,hc.2⟩;obtain⟨-,ls,b, -, -,h3⟩:=tR F;cases h3;exact LK.refl
abbrev P9:aF:=BM (plX 78 λ|[l]=>some (bL l) |_=>none) (plX 79 λ|[a,b]=>some (gD a b) |_=>none)
def km{v:Φ}{r:Ω}{ls:List (List Pl)}(h:vj m (v::r)=some ls):∃l F,ls=l::F/\Sl m l v/\l.length<=1000/\vj m r=some F:=by unfold vj at h;split at h;rename_i l F h1 h2;(cases H:Nat.ble l.length 1000 with|false=>rw[H]at h;cases h|true=>rw[H]at h;cases h;exact⟨_,_,rfl,P7 h1,U7 H,h2⟩);cases h
def MF:cP Tryz.prog P9:=mI
 (Qa (λm args ls b h hb=>by
  match args with
  |[]=>cases h;cases hb
  |[v]=>
   obtain⟨l,ks,rfl,H,h2,F⟩:=km h;cases F;cases hb;exact mi Kx H ac
  |_::_::_=>
   obtain⟨l,ks,rfl,H,h2,F⟩:=km h;obtain⟨l,ks,rfl,H,h2,F⟩:=km F;cases hb) rfl)
 (Qa (λm args ls b h hb=>by
  match args with
  |[]=>cases h;cases hb
  |[v]=>
   obtain⟨l,ks,rfl,H,h2,F⟩:=km h;cases F;cases hb
  |[v,w]=>
   obtain⟨l,ks,rfl,H,h2,F⟩:=km h;obtain⟨k,kt,rfl,h4,h5,h6⟩:=km F;cases h6;cases hb;exact sf Kx H h4 ac ac
  |_::_::_::_=>
   obtain⟨l,ks,rfl,H,h2,F⟩:=km h;obtain⟨l,ks,rfl,H,h2,F⟩:=km F;obtain⟨l,ks,rfl,H,h2,F⟩:=km F;cases hb) rfl)
end Go.Proofs.YthffgohpkjpkbaaGreatDoor
namespace Go.D
open Go
variable{a b:Φ}{args':Array Φ}
variable{P:Program}{σ:Sg}{m m':M}{w w':World}
def bytes?:Ω->Option (List UInt8)
 |[]=>some []
 |.int .u8 x::r=>bif decide (0<=x) && decide (x<=255)then match bytes? r with |some l=>some (UInt8.ofNat x.toNat::l) |none=>none else none
 |_=>none
theorem CN:∀{vs:Ω} {l:List UInt8},bytes? vs=some l->vs=Lib.byteCells l
 |[],l,h=>by cases h;rfl
 |v::r,l,h=>by unfold bytes? at h;split at h;grind;rename_i x r' H;(cases H;cases F:(decide (0<=x) && decide (x<=255))with|false=>rw[F]at h;cases h|true=>rw[F,gc]at h;rw[IG,Mj,Mj]at F;split at h;rename_i l' hl;cases h;have hx:((UInt8.ofNat x.toNat).toNat:Int)=x:=(by rw[UInt8.toNat_ofNat'];grind);rw[CN hl];simp only[Lib.byteCells,Cx,hx];cases h);cases h
def ccX(T:Nat)(args:Ω)(m:M):Option (Φ×M):=
 match args with
 |[.pointer (some a)]=>
  match m.get a.block with
  |.cells [.pointer none,s] e none=>bif Nat.beq e T && Nat.beq a.off 0 && a.spot.isNone then some (.tuple #[],m.set a.block (.cells [.pointer (some a),s] e none))else none
  |.cells [.pointer (some F),_] e none=>bif Nat.beq e T && Nat.beq a.off 0 && a.spot.isNone && Nat.beq F.block a.block && Nat.beq F.off 0 && F.spot.isNone then some (.tuple #[],m)else none
  |_=>none
 |_=>none
def Iw(T U:Nat)(args:Ω)(m:M):Option (Φ×M):=
 match args with
 |[.pointer (some a)]=>
  match m.get a.block with
  |.cells [_,.slice none 0 0] e none=>bif Nat.beq e T && Nat.beq a.off 0 && a.spot.isNone then some (.string ⟨#[]⟩,m)else none
  |.cells [_,.slice (some r) n c] e none=>
   bif Nat.beq e T && Nat.beq a.off 0 && a.spot.isNone && Nat.beq r.off 0 && r.spot.isNone && Nat.ble 1 n && Nat.ble n c then
    match m.get r.block with
    |.cells cs F _=>
     bif Nat.beq F U && Nat.ble n cs.length && Nat.ble n 1048576 then
      match bytes? (cs.take n)with
      |some l=>some (.string ⟨l.toArray⟩,m.set r.block .dead)
      |none=>none
     else none
    |_=>none
   else none
  |_=>none
 |_=>none
structure H9 where
 cc:Nat
 st:Nat
 T:Nat
 U:Nat
variable{N:H9}
def JN(N:H9):aF:=λfn args m=>
 match fn with
 |.func f=>bif Nat.beq f N.cc then ccX N.T args m else bif Nat.beq f N.st then Iw N.T N.U args m else none
 |_=>none
def se(b:Nat):Φ:=.pointer (some ⟨b,0,none⟩)
structure H8(P:Program)(N:H9):Prop where
 FK:∀f,(f=N.cc\/f=N.st)->∀args w,(callFunc f args).run P w=.ok (.enter f args) w
 fresh:∀(b:Nat) (w:World),w.cell? ⟨b,0,none⟩=some (.pointer none)->w.shape? b=some (N.T,2)->w.frozen? ⟨b,0,none⟩=false->
  Calls P N.cc #[se b] w λe w'=>e=.returned (.tuple #[])/\w'=w.setCell ⟨b,0,none⟩ (se b)
 used:∀(b:Nat) (w:World),w.cell? ⟨b,0,none⟩=some (se b)->Calls P N.cc #[se b] w λe w'=>e=.returned (.tuple #[])/\w'=w
 VU:∀(b:Nat) (p:Φ) (w:World),w.heap[b]?=some (.cells #[p,.slice none 0 0] N.T (0,0))->Calls P N.st #[se b] w λe w'=>e=.returned (.string ⟨#[]⟩)/\w'.heap=w.heap/\w'.os=w.os/\w'.tape=w.tape/\w'.output=w.output
 str:∀(b g c:Nat) (p:Φ) (cur:Array Φ) (l:List UInt8) (w:World),w.heap[b]?=some (.cells #[p,.slice (some ⟨g,0,none⟩) l.length c] N.T (0,0))->w.heap[g]?=some (.cells cur N.U (0,0))->l≠ []->l.length<=c->l.length<=cur.size->l.length<=1048576->
  cur.toList.take l.length=Lib.byteCells l->Calls P N.st #[se b] w λe w'=>e=.returned (.string ⟨l.toArray⟩)/\(∀B,B≠g->w'.heap[B]?=w.heap[B]?)/\w'.heap.size=w.heap.size/\w'.os=w.os/\w'.tape=w.tape/\w'.output=w.output
def Fb(hl:bK σ [a] args'.toList):∃F,args'= #[F]/\bw σ a F:=by have⟨F,l1,h1,ha,H⟩:=hl.cases;have:=H.nil_eq;grind
def Pj(hl:bK σ [a,b] args'.toList):∃F H,args'= #[F,H]/\bw σ a F/\bw σ b H:=by have⟨F,l1,h1,ha,b0⟩:=hl.cases;have⟨H,l2,h2,hb,d0⟩:=b0.cases;have:=d0.nil_eq;grind
def tI{row:Array Φ}(h:bK σ [a,b] (row.toList.take 2))(hs:row.size=2):∃F H,row= #[F,H]/\bw σ a F/\bw σ b H:=by have e:row.toList.take 2=row.toList:=Vq be;rw[e]at h;exact Pj h
def Ax{v:Φ}(F:bw σ v v)(H:eW P σ m w)(h:Ev P σ m w σ m' w'):dS P σ m w v m' (.returned v) w':=⟨v,σ,rfl,F,h⟩
def cc_ok(K:H8 P N){args:Ω}{v:Φ}(h:ccX N.T args m=some (v,m'))(hs:eW P σ m w){args':Array Φ}(hl:bK σ args args'.toList):Calls P N.cc args' w (dS P σ m w v m'):=by unfold ccX at h;split at h;rename_i a;obtain⟨x',rfl,hx⟩:=Fb hl;obtain⟨i,hi,h0,rfl⟩:=hx.fT;split at h;rename_i s e hg;(cases H:(Nat.beq e N.T && Nat.beq a.off 0 && a.spot.isNone)with|false=>rw[H]at h;cases h|true=>rw[H,gc]at h;cases h;simp only[IG]at H;have⟨⟨c1,c2⟩,_⟩:=H;obtain rfl:=VA c1;have c2:=VA c2;rw[c2];have⟨row,F,i0,b0,e0,d0⟩:=hs.cells hi hg;obtain⟨p',s',rfl,hp,j0⟩:=tI b0 d0;have:=hp.bJ rfl;subst this;refine(K.fresh i.dM w (by simp[World.cell?,F]) (by simp[World.shape?,F]) (by simp[World.frozen?,F])).mono ?_;rintro en w2 ⟨rfl,rfl⟩;have k0:∀B,(w.setCell ⟨i.dM,0,none⟩ (se i.dM)).heap[B]?=if B=i.dM then some (.cells #[se i.dM,s'] N.T (0,0))else w.heap[B]?:=(by intro B;simp only[World.setCell,Qx];grind);refine Ax .undef hs (Ev.write hs hi be ?_ (λB hB=>be) dg rfl rfl rfl);refine⟨#[se i.dM,s'],be,co,⟨rfl,λj u u' hu l0=>?_⟩,e0,rfl⟩;match j with|0=>cases hu;have:se i.dM=u':=be;rw[<-this];have:=bw.ptr a i hi h0;rw[c2]at this;exact this|1=>grind|j+2=>simp at hu);rename_i a' s e hg;(cases H:(Nat.beq e N.T && Nat.beq a.off 0 && a.spot.isNone && Nat.beq a'.block a.block && Nat.beq a'.off 0 && a'.spot.isNone)with|false=>rw[H]at h;cases h|true=>rw[H,gc]at h;cases h;simp only[IG]at H;have⟨⟨⟨⟨⟨c1,c2⟩,_⟩,c4⟩,c5⟩,_⟩:=H;have c2:=VA c2;have c4:=VA c4;have c5:=VA c5;rw[c2];have⟨row,F,i0,b0,e0,d0⟩:=hs.cells hi hg;obtain⟨p',s',rfl,hp,j0⟩:=tI b0 d0;obtain⟨i',g0,_,rfl⟩:=hp.fT;rw[c4,hi]at g0;cases g0;refine(K.used i.dM w (by simp[World.cell?,F,c5,se])).mono ?_;rintro en w2 ⟨rfl,rfl⟩;exact Ax .undef hs (.refl hs));cases h;cases h
def Pu(K:H8 P N){a:Addr}{v:Φ}{b:Nat}(h:Iw N.T N.U [.pointer (some a)] m=some (v,m'))(hb:uV m a=some b):
  m.get b≠.dead/\m'=m.set b .dead/\∀σ w (args':Array Φ),eW P σ m w->bK σ [.pointer (some a)] args'.toList->
   ∃i,σ b=some i/\Calls P N.st args' w λe w'=>dS P σ m w v m' e w'/\∀B,B≠i.dM->w'.heap[B]?=w.heap[B]?:=by unfold Iw at h;dsimp only at h;unfold uV at hb;split at h;grind;rename_i p r n c e hg;rw[hg]at hb;cases hb;rw[cond_eq_ite]at h;split at h;rename_i hc;simp only[IG]at hc;have⟨⟨⟨⟨⟨⟨c1,c2⟩,_⟩,c4⟩,c5⟩,c6⟩,c7⟩:=hc;have c7:=U7 c7;obtain rfl:=VA c1;have c2:=VA c2;have c4:=VA c4;have c6:=U7 c6;split at h;rename_i cs e' g d0;rw[cond_eq_ite]at h;split at h;rename_i hd;simp only[IG]at hd;have⟨⟨d1,d2⟩,d3⟩:=hd;obtain rfl:=VA d1;have d2:=U7 d2;have d3:=U7 d3;split at h;rename_i l e0;cases h;have H:=CN e0;have hlen:l.length=n:=(by have:=congrArg List.length H;rw[Lib.byteCells_length,PK]at this;omega);refine⟨be,rfl,λσ w args' hs hl=>?_⟩;obtain⟨x',rfl,hx⟩:=Fb hl;obtain⟨i,hi,q0,rfl⟩:=hx.fT;rw[c2];have⟨row,r0,s0,g0,u0,h0⟩:=hs.cells hi hg;obtain⟨p',s',rfl,hp,i0⟩:=tI g0 h0;obtain⟨j,a',c',hj,rfl,j0⟩:=i0.ep;have k0:a'=⟨j.dM,r.off,none⟩/\c<=c':=(by grind);obtain⟨rfl,y0⟩:=k0;have⟨cur,l0,A0,n0,B0⟩:=hs.cells hj d0;have b0:cur.toList.take l.length=Lib.byteCells l:=(by rw[<-H,hlen];have e1:(cur.toList.take cs.length).take n=cs.take n:=(by apply Zk;intro k;by_cases hk:k<n;rw[TP hk,TP hk];have F:k<cs.length:=ac;have⟨u,o0,p0⟩:=n0.get (Np F);rw[o0,Np F];have:bO cs[k]:=(by have e2:cs[k]?=(Lib.byteCells l)[k]?:=be;rw[Np F]at e2;unfold Lib.byteCells at e2;rw[U2,Np ac]at e2;simp only[Br,RQ]at e2;rw[e2];rfl);rw[p0.bJ this];grind);grind);refine⟨j,hj,(K.str i.dM j.dM c' p' cur l w be l0 (λq=>be) ac ac ac b0).mono ?_⟩;rintro en w2 ⟨rfl,h1,h2,h3,h4,h5⟩;exact⟨Ax (.flat _ rfl) hs (Ev.write hs hj be trivial h1 h2 h3 h4 h5),h1⟩;cases h;cases h;cases h;cases h;cases h
def st_ok(K:H8 P N){args:Ω}{v:Φ}(h:Iw N.T N.U args m=some (v,m'))(F:eW P σ m w){args':Array Φ}(hl:bK σ args args'.toList):Calls P N.st args' w (dS P σ m w v m'):=by have h0:=h;unfold Iw at h;split at h;rename_i a;split at h;rename_i p e hg;rw[cond_eq_ite]at h;split at h;rename_i H;cases h;simp only[IG]at H;have⟨⟨c1,c2⟩,_⟩:=H;obtain⟨x',rfl,hx⟩:=Fb hl;obtain⟨i,hi,i0,rfl⟩:=hx.fT;obtain rfl:=VA c1;have c2:=VA c2;rw[c2];have⟨row,b0,j0,d0,k0,e0⟩:=F.cells hi hg;obtain⟨p',s',rfl,hp,g0⟩:=tI d0 e0;have:=g0.bJ rfl;subst this;refine(K.VU i.dM p' w b0).mono ?_;rintro en w2 ⟨rfl,h1,h2,h3,h4⟩;exact Ax (.flat _ rfl) F (.of_heap F h1 h2 h3 h4);cases h;rename_i p r n c e hg;obtain⟨_,_,h3⟩:=Pu K h0 (b:=r.block) (by unfold uV;rw[hg]);have⟨i,_,H⟩:=h3 σ w args' F hl;exact H.mono λe w' q=>q.1;cases h;cases h
def SC{T:Nat}{args:Ω}{v:Φ}(h:ccX T args m=some (v,m')):LK m m':=by unfold ccX at h;split at h;split at h;rename_i F;rw[cond_eq_ite]at h;split at h;cases h;exact LK.set (λr q=>be);cases h;rw[cond_eq_ite]at h;split at h;cases h;exact LK.refl;cases h;cases h;cases h
def Md{T U:Nat}{args:Ω}{v:Φ}(h:Iw T U args m=some (v,m')):LK m m':=by unfold Iw at h;split at h;split at h;rw[cond_eq_ite]at h;split at h;cases h;exact LK.refl;cases h;rw[cond_eq_ite]at h;split at h;split at h;rename_i F;rw[cond_eq_ite]at h;split at h;split at h;cases h;exact LK.set (λr q=>be);cases h;cases h;cases h;cases h;cases h;cases h
def NO(N:H9):iN (JN N):=by intro f args m v m' h;unfold JN at h;cases f with|func f=>dsimp only at h;simp only[cond_eq_ite]at h;split at h;exact SC h;split at h;exact Md h;cases h|_=>cases h
def Vw(K:H8 P N)(b0:N.st=Da)(d0:Nat.beq Da N.cc=false):cP P (JN N):=by refine⟨λf args m v m' H σ w F hs hl=>?_,λl args m v m' H=>by simp[JN]at H,NO N,λa m v m' b H hb=>?_⟩;rotate_left;have h2:Nat.beq Da N.st:=dg;simp only[JN,d0,h2,JC,gc]at H;have⟨q1,q2,q3⟩:=Pu K H hb;refine⟨q1,q2,λσ w F hs hl=>?_⟩;have⟨i,hi,hc⟩:=q3 σ w F hs hl;rw[b0]at hc;exact⟨i,hi,callsIn_wide.2 hc,by have:=K.FK N.st (.inr rfl) F w;rw[b0]at this;exact this⟩;unfold JN at H;dsimp only at H;cases h1:Nat.beq f N.cc with|true=>obtain rfl:=VA h1;rw[h1,gc]at H;exact⟨callsIn_wide.2 (cc_ok K H hs hl),K.FK _ (.inl rfl) _ _⟩|false=>rw[h1,JC]at H;cases h2:Nat.beq f N.st with|true=>obtain rfl:=VA h2;rw[h2,gc]at H;exact⟨callsIn_wide.2 (st_ok K H hs hl),K.FK _ (.inr rfl) _ _⟩|false=>rw[h2]at H;cases H
inductive JY
 |val (v:Φ)
 |row (l:Ω) (t:Nat)
def HA(k:Nat)(g:Ω->Option JY):aF:=λfn args m=>
 match fn with
 |.func f=>bif Nat.beq f k then(match g args with
  |some (.val v)=>some (v,m)
  |some (.row l t)=>some (.slice (some ⟨m.n,0,none⟩) l.length l.length,m.push (.cells l t none))
  |none=>none)else none
 |_=>none
def Z6(w:World)(e:Ending)(w':World):JY->Prop
 |.val v=>aZ v=true/\e=.returned v/\(∀B,B < w.heap.size->w'.heap[B]?=w.heap[B]?)/\w.heap.size<=w'.heap.size/\w'.os=w.os/\w'.tape=w.tape/\w'.output=w.output
 |.row l t=>l.all bO=true/\e=.returned (.slice (some ⟨w.heap.size,0,none⟩) l.length l.length)/\w'=w.alloc (.cells l.toArray t)
structure Lx(P:Program)(k:Nat)(g:Ω->Option JY):Prop where
 FK:∀args w,(callFunc k args).run P w=.ok (.enter k args) w
 flat:∀args r,g args=some r->args.all bO=true
 go:∀args r w,g args=some r->Calls P k args.toArray w λe w'=>Z6 w e w' r
theorem bK.CB:∀{l H:Ω},bK σ l H->l.all bO->H=l
 |[],_,h,_=>h.nil_eq
 |v::r,_,h,F=>by obtain⟨v',l1,rfl,hv,hl⟩:=h.cases;rw[Tx,IG]at F;rw[hv.bJ F.1,hl.CB F.2]
def FD{k:Nat}{g:Ω->Option JY}(K:Lx P k g)(hk:Nat.beq Da k=false):cP P (HA k g):=by
 refine⟨λf args m v m' F σ w H hs hl=>?_,λl args m v m' F=>by simp[HA]at F,λf args m v m' F=>?_,λa m v m' b F=>by simp only[HA,hk,JC]at F;cases F⟩;unfold HA at F;dsimp only at F;(cases h1:Nat.beq f k with|false=>rw[h1]at F;cases F|true=>obtain rfl:=VA h1;rw[h1,gc]at F;refine⟨callsIn_wide.2 ?_,K.FK H w⟩;cases hg:g args with|none=>rw[hg]at F;cases F|some r=>rw[hg]at F;obtain rfl:H=args.toArray:=Sz (hl.CB (K.flat _ _ hg));refine(K.go args r w hg).mono λe w2 hr=>?_;cases r with|val u=>cases F;obtain⟨hf,rfl,h2,h3,h4,h5,h6⟩:=hr;exact⟨v,σ,rfl,.gX hf,Ev.kept hs h2 h3 h4 h5 h6⟩|row l t=>cases F;obtain⟨hf,rfl,rfl⟩:=hr;have d0:=Ev.ua (ob:=.cells l t none) (o:=.cells l.toArray t) (gr:=none) hs ⟨_,heap_alloc_new w _,co,⟨co,λj u u' hu b0=>by rw[Vq co]at b0;simp only at b0;rw[hu]at b0;cases b0;exact .flat _ (RT.1 hf u (Jc hu))⟩,rfl,co⟩;exact⟨_,_,rfl,.slice ⟨m.n,0,none⟩ ⟨w.heap.size,none⟩ _ _ (by unfold Sg.add;rw[QL rfl]) rfl rfl,d0⟩);unfold HA at F;cases f with|func f=>dsimp only at F;rw[cond_eq_ite]at F;split at F;split at F;cases F;exact LK.refl;cases F;exact LK.push;cases F;cases F|_=>cases F
