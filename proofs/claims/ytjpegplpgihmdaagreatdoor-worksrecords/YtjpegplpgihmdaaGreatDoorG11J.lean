/- works.putBack, come: what a .. -/
import Derived.Test.YtjpegplpgihmdaaGreatDoorG10J
import Derived.Lib.UnsafeStr
set_option maxHeartbeats 1000000
set_option linter.defProp false
set_option maxRecDepth 100000
noncomputable section
namespace Go.Proofs.YtjpegplpgihmdaaGreatDoor
open Go Go.D Go.Proofs.Tryz
variable{m':M}{t:Tk}
section
variable {X:aF} {m:M}
def FT{D:Option (List Ac)}{v t:Φ}{lo:Nat}{Q:Prop}(H:Q)(h:oe D m' (.tuple #[v,t]))(F:m.n<=lo)(hx:Ext m m'):
  (aZ (aM [v,t])/\m.n<=lo/\(Q/\Ext m m/\oe D m (aM [v,t])))\/((aZ (aM [v,t])=false\/lo<m.n)/\(min m.n lo=m.n/\Ext m m'/\oe D m' (aM [v,t]))):=by show(aZ (.tuple #[v,t])/\m.n<=lo/\(Q/\Ext m m/\oe _ m (.tuple #[v,t])))\/((aZ (.tuple #[v,t])=false\/lo<m.n)/\(min m.n lo=m.n/\Ext m m'/\oe _ m' (.tuple #[v,t])));cases hf:aZ (.tuple #[v,t]);grind;exact .inl ⟨rfl,F,H,.refl,h.flat hf m⟩
def K2(st:List Kp)(id:Int):Option (List Ac):=(st.find? λk=>decide (k.un.id=id)).map λk=>eD k.un::k.ms.map iI
def Ed(F:cp X){l:List Pl}{v:Φ}(H:Sl m l v)(hs:l.length<=1000000):∃v' m',C X (.func 43) [v] m m.n v' m'/\Ext m m'/\lT m.n m' l v':=
 pS yO (F.no _ rfl) (MZ func43) rfl Y8 bv (λ_ _ _=>bv) (λ_=>bv) H hs
def O7{α:Type}[aQ α]{l:List α}{v:Φ}(h:Sl m l v):cells v=[v]/\one v:=⟨h.cells,h.one⟩
set_option maxHeartbeats 2000000 in
theorem IB(hX:cp X){y:Yd}{r r2 st rc mo:Φ}(hV:sS m y r r2 st rc mo)(hP:sU y)(id:Int):
  ∃rv m',C X (.func 119) [yv r r2 st rc mo,.int .i64 id] m m.n rv m'/\Ext m m'/\oe (K2 y.st id) m' rv:=by
 have r1:=hV.iH;obtain⟨-, -,⟨kl,s0,hK⟩, -, -⟩:=hV;have c2:kl.length<=12:=(by have:=hP.SH;rwa[<-s0,lQ]at this);apply Cl.H0 hX (MZ func119);obtain⟨D,hD⟩:∃D,D=K2 y.st id:=⟨_,rfl⟩;rw[<-hD];unfold K2 at hD;rw[F119];dsimp only[aG];refine ah λm13 u2 u1 v1=>?_;have H:Ext m m13:=⟨ac,v1⟩;have g1:m13.get m.n=.cells (yc r r2 st rc mo) 38 none:=u1;unfold ptrTo;rw[(eS g1).2.2.2.2,ae];have F:=hK.an H;apply aw (AB (y:=y) hX F.sl ac r1 _);have e0:∀p:KW->Bool,(∀x,p x=decide (x.u.id=id))->(y.st.find? λk=>decide (k.un.id=id))=(kl.find? p).map KW.k:=λp hp=>(by rw[<-s0];unfold xJ;rw[List.find?_map];congr 2;funext x;exact(hp x).symm);rcases iF (λx:KW=>decide (x.u.id=id)) kl with⟨e1,e2⟩ |⟨i,x,e1,e2,e3,e4⟩;rw[e1,aK,ae,ag,Dk ce,bM];have:kl.find? (λx:KW=>decide (x.u.id=id))=none:=Ld.2 λx hx=>be;rw[e0 _ λ_=>rfl,this]at hD;exact FT (by first |rfl |trivial) (by rw[hD];exact⟨_,rfl⟩) ac H;rw[e0 _ λ_=>rfl,wR e2 e3 e4]at hD;have hD:D=some (eD x.u::x.ms.map iI):=hD;have l0:=Vb e2;simp only[dN,cf,dM,bA,ae];rw[e1,aK,ae,ag,Co,aT,(eS g1).2.1,ae];have⟨b0,o0,bc,g0,cs,q1,q2,q3,q4,q5⟩:=F.sl.jr ff (k:=.i64) e2;obtain⟨rfl,o1,o2⟩:cs=x.c/\one x.w=true/\one x.mv=true:=q3;have v2:=M.aP q2;rw[q1,ae,cf,ae];have q4:o0+7<=bc.length:=q4;have lu:aC TE m13 44 (.pointer (some ⟨b0,o0+0,none⟩))=some (x.u.v x.w):=(by rw[qw,aI (n:=6) q2 ac];have:(bc.drop (o0+0)).take 6=x.u.c x.w:=(by apply Mh;intro j;rw[Hq];split;rename_i hj;rw[PG,Nb,q5 j (by show j < 7;omega)];(match j,hj with|0,_=>rfl|1,_=>rfl|2,_=>rfl|3,_=>rfl|4,_=>rfl|5,_=>rfl|j+6,hj=>omega);rename_i hj;exact(L5 be).symm);rw[this];rfl);rw[lu,ae];refine ah λm12 d2 u0 w1=>?_;refine aj dV u0 rfl rfl (Un.dz o1) λm14 g2 y0 h2=>?_;have gu:m14.get m13.n=.cells (x.u.c x.w) 44 none:=y0;have n0:Ext m13 m14:=⟨ac,be⟩;rw[(kN gu).2.2.2.1,ae];have A0:=F.ln x l0;obtain⟨w',m18,y1,p0,B0⟩:=Ed (m:=m14) hX ((F.sh x l0).an n0) ac;apply aw y1;have hw:=O7 B0.sl;have G1:=p0.cells gu;refine bW ua G1 (by rw[hw.1];rfl) be (by rw[hw.1];simp[hw.2]) λm21 i2 O0 j0=>?_;have g21:m21.get m13.n=.cells (x.u.c w') 44 none:=(by rw[O0,hw.1];rfl);have w2:=n0.n;have n18:=p0.n;have A1:Ext m13 m21:=⟨ac,λc hc=>by rw[j0 c ac,p0.get c ac,n0.get c hc]⟩;have k0:Sl m21 x.u.shape w':=B0.sl.aY λc cs t g hc ht=>(by rw[j0 c (λe=>by subst e;rw[G1]at hc;cases hc;simp[aQ.ty,aQ.dQ]at ht),hc]);rw[bR g21,ae,yK,ae];refine oR (x:=⟨eD x.u,w'⟩) hw.2 k0 A0 Hb λm64 P0 y2 B1 H1=>?_;have xk:=A1.trans P0;have nk:=xk.n;have lm:aC TE m64 31 (.pointer (some ⟨b0,o0+6,none⟩))=some x.mv:=(by rw[kn,aH (xk.cells q2)];exact q5 6 (by show 6 < 7;decide));have Q0:Sl m64 x.ms x.mv:=(F.mv x l0).an xk;have j2:x.ms.length<=20:=(by have hm:x.k∈y.st:=be;exact(hP.G9 _ hm).len);rw[(eS (xk.cells g1)).2.1,ae,q1,ae,dM,ae,lm,ae,Q0.len cO,ak];refine Lp.intro (γ:=Nat) (λj=>x.ms.length-j) (λj vs mm lo=>∃v,vs=[v,.int .i64 j]/\j<=x.ms.length/\Ext m64 mm/\m.n<=lo/\Ap m64.n mm (⟨eD x.u,w'⟩::(x.ms.take j).map λk=>(⟨iI k,U7⟩:AW)) v) 0 ⟨_,rfl,PS _,.refl,ac,.inr ⟨_,_,_,rfl,B1,H1.sl⟩⟩ ?_;rintro j vs mm lo ⟨v,rfl,hj,d0,a1,q0⟩;have nm:=d0.n;have K1:=Q0.an d0
 rw[av,av,aK,ae,ag];refine af (λb1=>?_) (λO1=>?_);have b1:j < x.ms.length:=be;obtain⟨z,hz⟩:∃z,x.ms[j]?=some z:=⟨_,Iy b1⟩;have⟨p,p1,p2⟩:=K1.sL (k:=.i64) hz;rw[p1,ae,p2,ae];refine ah λz2 k2 c1 d1=>?_;refine aj qV c1 rfl rfl rfl λh0 l2 h1 i1=>?_;have T1:h0.get mm.n=.cells z.c 71 none:=h1;have a2:Ext mm h0:=⟨ac,λc hc=>by rw[i1 c ac,d1 c hc]⟩;rw[Qv T1,ae,Sk,ae,BA,ak];obtain⟨j1,i0⟩:∃q,q=h0.push (.cells (AW.c ⟨iI z,U7⟩) 73 none):=⟨_,rfl⟩;rw[<-i0];have k1:Ext h0 j1:=i0 ▸ Ext.refl.push;have l1:j1.get h0.n=.cells (AW.c ⟨iI z,U7⟩) 73 none:=(by rw[i0];exact M.aU);have r0:=a2.trans k1;have A2:=r0.n;obtain⟨v',B2,s1,s2,s3,s4,s5⟩:=(q0.an r0).append FN rfl (kY (x:=(⟨iI z,U7⟩:AW)) l1 ⟨rfl,rfl⟩) co ac be;rw[s1,ak,aL,ae,wrap64];refine⟨j+1,ac,v',be,ac,⟨ac,λc hc=>by rw[s5 c hc,r0.get c ac,d0.get c hc]⟩,ac,.inl ?_⟩;rw[QM,hz,R6];exact s2;obtain rfl:j=x.ms.length:=(by have:¬(j:Int)< (x.ms.length:Int):=QB O1;omega);rw[Jg]at q0;refine FT (by first |rfl |trivial) ?_ a1 (H.trans (xk.trans d0));rw[hD];have b2:=(k0.an P0).an d0;refine⟨_,_,rfl,dg,q0.sl,λa ha=>?_,λa ha=>?_,λa ha=>?_⟩;rcases Qk.1 ha with rfl |ha;exact b2;obtain⟨k,_,rfl⟩:=Dc.1 ha;exact .nil;rcases Qk.1 ha with rfl |ha;exact A0;obtain⟨k,_,rfl⟩:=Dc.1 ha;exact zO;rcases Qk.1 ha with rfl |ha;exact Hb;obtain⟨k,_,rfl⟩:=Dc.1 ha;exact Tv
set_option maxHeartbeats 4000000 in
theorem ab8(hX:cp X)(hS:CK X)(d2:gC m){y:Yd}{r r2 st rc mo:Φ}{t:Tk}{w:Φ}(hV:sS m y r r2 st rc mo)(hP:sU y)(hw:Sl m t.un.shape w)(o4:t.un.shape.length < 100000)(r4:1<=t.kind/\t.kind<=9):
  ∃rv m',C X (.func 76) [yv r r2 st rc mo,t.v w] m m.n rv m'/\Ext m m'/\oe (fK rj cg bQ y t) m' rv:=by
 apply Cl.H0 hX (MZ func76);have i3:=hV.iH;have e2:=hV;have⟨⟨l,g0,hF⟩,i2,⟨kl,j2,hK⟩,o2,u4⟩:=hV;have n0:one r=true/\one r2=true:=⟨hF.sl.one,i2.one⟩;have w1:cq (bI l):=(by rw[g0];exact hP.xK);have d4:l.length<=12:=(by have:=hP.xK.len;rwa[<-g0,cD]at this);have P0:kl.length<=12:=(by have:=hP.SH;rwa[<-j2,lQ]at this);have e4:=hP.Wp;have f4:=hP.TN;have j3:=hP.C2.len
 have H:∀R:ν->M->Nat->Prop,(∀(v:Φ) (b:Bool) (m':M) (lo:Nat),m.n<=lo->Ext m m'->oe (fK rj cg bQ y t) m' (.tuple #[v,.bool b])->R [v,.bool b] m' lo)->fP TE (aG TE X) f76 [yv r r2 st rc mo,t.v w] m R:=(by intro R hR;rw[F76];dsimp only[aG];refine ah λm1 w4 u2 l3=>?_;refine ah λm2 y4 v2 y2=>?_;have z2:Ext m m2:=⟨ac,be⟩;have g1:m2.get m.n=.cells (yc r r2 st rc mo) 38 none:=(by rw[y2 _ ac];exact u2);have g2:m2.get m1.n=.cells (t.c w) 46 none:=v2;clear u2 l3 v2 y2;unfold ptrTo;simp only[dm,dN,eK,fy,bO,bJ,bh,dC,ed,cU,cT,dh,cS,aW,ae];rw[(eS g1).1,ae,(kR g2).2.1,ae];obtain⟨rv,m8,c8,x8,f8⟩:=vB (m:=m2) hX (hF.an z2) ac n0 t.id;apply aw c8;obtain⟨u,wu,is,rfl,fu⟩:=f8.WY w1;have n8:=x8.n;rw[aD,aD];simp only[Lf,S5,ae];refine ah λm11 g4 Q0 y1=>?_;refine aj dV Q0 rfl rfl (Un.dz fu.sl.one) λm12 h4 d1 P0=>?_;have gu:m12.get m8.n=.cells (u.c wu) 44 none:=d1;have e1:Ext m8 m12:=⟨ac,be⟩;have G2:=e1.cells (x8.cells g2);rw[(kR G2).2.1,ae,(kR G2).2.2.2.1,ae,yL,ae];refine ah λm20 j4 i1 A2=>?_;refine aj Gh i1 rfl rfl rfl λm13 l4 j1 B2=>?_;have gf:m13.get m12.n=.cells (Fc.c ⟨t.id,t.side⟩) 52 none:=j1;have o0:Ext m12 m13:=⟨ac,be⟩;have p0:Ext m8 m13:=e1.trans o0;have gu:=o0.cells gu;have h0:=x8.trans p0;have F:=z2.trans h0;have g1:=h0.cells g1;have g2:=h0.cells g2;have fu:=fu.an p0;have A4:=p0.n;clear Q0 y1 d1 P0 j1 B2 i1 A2;have⟨tk,tid,LM,B4,O4⟩:=kR g2;rw[g0]at fu;have y0:m.n<=min (min (min m.n m2.n) m8.n) m12.n:=ac;generalize min (min (min m.n m2.n) m8.n) m12.n=R4 at y0;obtain⟨D,hD⟩:∃D,D=fK rj cg bQ y t:=⟨_,rfl⟩;rw[<-hD]at hR;unfold fK at hD;have m3:(cy y.us t.id).isSome=is:=(by rw[fu.eq];cases is <;>rfl);rw[tk,ae,aJ,ae,ag];refine af (λk1=>?_) (λk1=>?_);rw[F6 (R7 k1)]at hD;rw[rD g2,ae,yK,ae];refine oR (x:=⟨eD t.un,w⟩) hw.one (hw.an F) (by show t.un.shape.length < 1000000;omega) Hb λm22 d0 n22 _ a22=>?_;rw[(eS (d0.cells g1)).2.2.2.2,ae,(vI (d0.cells g2)).1,ae];refine aw (AB (y:=y) hX (hK.an (F.trans d0)).sl ac i3 _) ⟨ID _,?_⟩;rw[aK,ae,KB];have e:(y.st.any λk=>decide (k.un.id=t.un.id))=kl.any λx=>decide (x.u.id=t.un.id):=(by rw[<-j2];unfold xJ;rw[BG];rfl);rw[e]at hD;apply hR _ _ _ _ ac (F.trans d0);cases hc:kl.any λx=>decide (x.u.id=t.un.id);rw[Od be]at hD;rw[hD];exact⟨_,_,rfl,rfl,a22⟩;rw[F6 hc]at hD;rw[hD];exact⟨_,rfl⟩;rw[Od (QB k1)]at hD;rw[aJ,ae,ag];refine af (λk2=>?_) (λk2=>?_);rw[F6 (R7 k2),m3]at hD;refine aX (λvs mm lo=>∃v b,vs=[v,.bool b]/\m.n<=lo/\Ext m mm/\oe D mm (.tuple #[v,.bool b])) (λQ hQ=>?_) ?_;rw[tid,ae,oX,ae];refine oR (x:=⟨jX 2 t.id,U7⟩) rfl .nil zO (C5 ce) λm22 d0 n22 _ a22=>?_;rw[ag];refine af (λc=>?_) (λc=>hQ _ _ _ ⟨_,_,rfl,ac,F.trans d0,by rw[Od be]at hD;rw[hD];exact⟨_,rfl⟩⟩);rw[(eS (d0.cells g1)).2.1,ae,(hK.an (F.trans d0)).sl.len ff,ak,aK,ae];refine hQ _ _ _ ⟨_,_,rfl,ac,F.trans d0,?_⟩;rw[c,Rl]at hD;have e:y.st.length=kl.length:=be;by_cases A1:kl.length < 12;rw[F6 be]at hD;rw[hD,Dk (show(kl.length:Int)< 12 by omega)];exact⟨_,_,rfl,rfl,a22⟩;rw[Od be]at hD;rw[hD,QY (show¬(kl.length:Int)< 12 by omega)];exact⟨_,rfl⟩;rintro _ mm lo ⟨v,b,rfl,h1,h2,h3⟩;rw[av,av];grind;rw[Od (QB k2)]at hD;rw[aJ,ae,ag];refine af (λk3=>?_) (λk3=>?_);rw[F6 (R7 k3)]at hD;rw[(eS g1).2.2.2.2,ae,tid,ae];have⟨rv,W4,n3,M2,q0⟩:=IB (m:=m13) hX (e2.an F) hP t.id;have hD:D=K2 y.st t.id:=hD;rw[<-hD]at q0;have a5:=M2.n;apply aw n3;obtain⟨v,b,rfl⟩:∃v b,rv=.tuple #[v,.bool b]:=(by unfold oe at q0;cases D with|none=>have⟨v,h⟩:=q0;exact⟨v,_,h⟩|some L=>obtain⟨al,v,h, -⟩:=q0;exact⟨v,_,h⟩);rw[aD,aD];simp only[Lf,S5,ae];exact hR _ _ _ _ ac (F.trans M2) q0;rw[Od (QB k3)]at hD;rw[aJ,ae,ag];refine af (λk4=>?_) (λk4=>?_);rw[F6 (R7 k4),fu.eq]at hD;have O2:=hF.an F;refine aX (λvs mm lo=>vs=[.bool (!is || !((bI l).all λv=> !rj u v ||cg t.dE v.dE))]/\Ext m13 mm/\m.n<=lo) (λQ hQ=>?_) ?_;rw[bC,ae,ag];refine af (λc=>hQ _ _ _ ⟨by rw[c];rfl,.refl,ac⟩) (λc=>?_);rw[MI]at c;rw[(eS g1).1,ae,bR gu,ae];obtain⟨tv,b5,o3,A0,r3⟩:=Gm (m:=m13) hX hS O2 ac n0 fu.sl fu.ln;apply aw o3;have d5:=A0.n;have P2:(l.filter λx=>rj u x.u).length < 1000000:=(by have:=Wf (λx:UW=>rj u x.u) l;omega);apply aw (adi hX ((d2.an F).an A0) (A0.cells g2) r3.sl P2);refine hQ _ _ _ ⟨?_,A0,ac⟩;rw[c,Pq,Wv];congr 2;unfold bI;rw[List.all_map,List.any_filter,List.not_all_eq_any_not];congr 1;funext x;simp only[Function.comp_apply];(cases rj u x.u <;>simp;rintro _ mm lo ⟨rfl,b0,l1⟩;have nm:=b0.n;rw[av,ag];refine af (λc=>?_) (λc=>?_);apply hR _ _ _ _ l1 (F.trans b0);have:D=none:=(by rw[hD];cases hi:is with|false=>rfl|true=>rw[hi]at c;rw[F6 rfl,Ls,Od (λe=>by rw[<-g0]at e;rw[e]at c;cases c)]);rw[this];exact⟨_,rfl⟩;rw[Mp,MI,MI]at c;have⟨c1,c2⟩:=c;rw[c1,F6 rfl,Ls,F6 (by rw[<-g0];exact c2)]at hD;rw[(kR (b0.cells g2)).2.2.2.2,ae,cz,ae];have Q2:=b0.cells gu;refine bW zG Q2 rfl (by show 0+2+1<=6;decide) rfl λe0 u3 B1 i0=>?_;have T2:e0.get m8.n=.cells (Un.c {u with dE:=t.dE} wu) 44 none:=B1;have d3:m1.n≠m8.n:=ac;have e3:=(fu.an b0).sl;have B0:Sl e0 u.shape wu:=e3.aY λc cs t g hc ht=>(by rw[i0 c (λe=>by subst e;rw[Q2]at hc;cases hc;simp[aQ.ty,aQ.dQ]at ht),hc]);rw[(kR ((i0 _ d3).trans (b0.cells g2))).2.1,ae,oX,ae,bR T2,ae,yK,ae,OL,ak];obtain⟨o1,j0⟩:∃q,q=e0.push (.cells (AW.c ⟨jX 2 t.id,U7⟩++AW.c ⟨eD {u with dE:=t.dE},wu⟩) 73 none):=⟨_,rfl⟩;rw[<-j0];have k0:Ext e0 o1:=j0 ▸ Ext.refl.push;have G1:o1.get e0.n=.cells (AW.c ⟨jX 2 t.id,U7⟩++AW.c ⟨eD {u with dE:=t.dE},wu⟩) 73 none:=(by rw[j0];exact M.aU);have n155:=k0.n;apply hR _ _ _ _ ac ⟨ac,λc hc=>by rw[k0.get c ac,i0 c ac,b0.get c ac,F.get c hc]⟩;rw[hD];refine⟨_,_,rfl,rfl,Pb G1 rfl e3.one,λa ha=>?_,λa ha=>?_,λa ha=>?_⟩;rcases Qk.1 ha with rfl |ha;exact .nil;rw[MV.1 ha];exact B0.an k0;rcases Qk.1 ha with rfl |ha;exact zO;rw[MV.1 ha];exact fu.ln;rcases Qk.1 ha with rfl |ha;exact C5 ce;rw[MV.1 ha];exact Hb);rw[Od (QB k4)]at hD;rw[aJ,ae,ag];refine af (λk5=>?_) (λk5=>?_);rw[F6 (R7 k5)]at hD;have r1:=i2.an F;rw[(yR g1).2.2,ae,r1.len cO,ak];refine Lp.intro (γ:=Nat) (λj=>y.ms.length-j) (λj vs mm lo=>∃v,vs=[v,.int .i64 j]/\j<=y.ms.length/\Ext m13 mm/\m.n<=lo/\Ow m13.n mm (((y.ms.take j).filter (lF t)).map λx=>(⟨jX 6 x.id,U7⟩:AW)) v) 0 ⟨_,rfl,PS _,.refl,ac,Ow.nil⟩ ?_;rintro j vs mm lo ⟨v,rfl,hj,b0,l1,H1⟩;have nm:=b0.n;have w3:=r1.an b0;rw[av,av,aK,ae,ag];refine af (λA1=>?_) (λy3=>?_);have A1:j < y.ms.length:=be;obtain⟨x,hx⟩:∃x,y.ms[j]?=some x:=⟨_,Iy A1⟩;have⟨p,p1,p2⟩:=w3.sL (k:=.i64) hx;refine aX (λvs m' O0=>∃v',vs=[v']/\Ext m13 m'/\m.n<=O0/\Ow m13.n m' (((y.ms.take (j+1)).filter (lF t)).map λx=>(⟨jX 6 x.id,U7⟩:AW)) v') (λQ hQ=>?_) ?_;rw[p1,ae,p2,ae];refine ah λm4 A3 K1 B3=>?_;refine aj qV K1 rfl rfl rfl λr0 G3 O1 O3=>?_;have u1:r0.get mm.n=.cells x.c 71 none:=O1;have s0:Ext mm r0:=⟨ac,λc hc=>be⟩;have T1:=b0.trans s0;obtain⟨a0,a1,a2,a3, -⟩:=wz u1;have a4:=Qf u1;obtain⟨-,b1, -,b3, -⟩:=kR (T1.cells g2);have v1:=H1.an s0;refine aX (λvs m' O0=>vs=[.bool (lF t x)]/\r0=m'/\m.n<=O0) (λQ' l0=>?_) ?_;rw[cZ,ae,a1,ae,b1,ae,aJ,ae,ag];unfold lF at l0;refine af (λc1=>?_) (λc1=>l0 _ _ _ ⟨be,rfl,ac⟩);rw[eJ,ae,a2,ae,b3,ae,aJ,ae,ag];refine af (λc2=>?_) (λc2=>l0 _ _ _ ⟨be,rfl,ac⟩);rw[fx,ae,a4,ae,ag];refine af (λc3=>?_) (λc3=>l0 _ _ _ ⟨be,rfl,ac⟩);rw[kE,ae,a3,ae,aJ,ae,ag];refine af (λc4=>l0 _ _ _ ⟨be,rfl,ac⟩) (λc4=>?_);rw[ae,a3,ae,aJ,ae,ag];refine af (λc5=>l0 _ _ _ ⟨be,rfl,ac⟩) (λc5=>?_);rw[ae,a3,ae,aJ,ae];exact l0 _ _ _ ⟨be,rfl,ac⟩;rintro _ _ iT ⟨rfl,rfl,g3⟩;rw[av,ag];refine af (λc=>?_) (λc=>?_);rw[bT,ae,a0,ae,oX,ae];have P2:((y.ms.take j).filter (lF t)).length<=j:=(by have:=Wf (lF t) (y.ms.take j);rw[Zu]at this;omega);refine jt (T:=60) (x:=(⟨jX 6 x.id,U7⟩:AW)) FN rfl v1 ac be BA (λ_=>⟨rfl,rfl⟩) λr' n4 w2 n2 k2 e5 l2=>?_;refine hQ _ _ _ ⟨r',rfl,⟨ac,λc hc=>by rw[k2 c hc,T1.get c hc]⟩,ac,?_⟩;rw[QM,hx,NO,R6];simp only[UJ,Oh,c,Ot,QS,Tz,LG];exact w2;refine hQ _ _ _ ⟨v,rfl,T1,g3,?_⟩;rw[QM,hx,NO,R6];simp only[UJ,Oh,c,QS,LG,Y4];simpa using v1;rintro _ m' O0 ⟨v',rfl,h1,h2,h3⟩;rw[av,aL,ae,wrap64];exact⟨j+1,ac,v',be,ac,h1,h2,h3⟩;have b4:j=y.ms.length:=(by have:¬(j:Int)< (y.ms.length:Int):=QB y3;omega);subst b4;rw[Jg]at H1;rw[(eS (b0.cells g1)).1,ae,(FZ (b0.cells gf)).2.2,ae];apply aw (zo hX (hF.an (F.trans b0)) w1 n0 ⟨t.id,t.side⟩);rw[g0];apply hR _ _ _ _ ac (F.trans b0);cases hf:mh y.us t.id t.side;rw[Od be]at hD;rw[hD];exact⟨_,rfl⟩;rw[F6 hf]at hD;rw[hD];refine⟨_,_,rfl,dg,H1.sl,λa ha=>?_,λa ha=>?_,λa ha=>?_⟩;obtain⟨k,_,rfl⟩:=Dc.1 ha;exact .nil;obtain⟨k,_,rfl⟩:=Dc.1 ha;exact zO;obtain⟨k,_,rfl⟩:=Dc.1 ha;exact C5 ce;rw[Od (QB k5)]at hD;rw[aJ,ae,ag];refine af (λk6=>?_) (λk6=>?_);rw[F6 (R7 k6)]at hD;rw[tid,ae,oX,ae];refine oR (x:=⟨jX 7 t.id,U7⟩) rfl .nil zO (C5 ce) λm22 d0 n22 _ a22=>?_;exact hR _ _ _ _ ac (F.trans d0) (by rw[hD];exact⟨_,_,rfl,rfl,a22⟩);rw[Od (QB k6)]at hD;rw[aJ,ae,ag];refine af (λk7=>?_) (λk7=>?_);rw[F6 (R7 k7)]at hD;rw[tid,ae,oX,ae];refine oR (x:=⟨jX 6 t.id,U7⟩) rfl .nil zO (C5 ce) λm22 d0 n22 _ a22=>?_;exact hR _ _ _ _ ac (F.trans d0) (by rw[hD];exact⟨_,_,rfl,rfl,a22⟩);rw[Od (QB k7)]at hD;rw[aJ,ae,ag];have fin:∀{b:Bool} {m':M} {lo:Nat},m.n<=lo->Ext m m'->D=(if b=true then some []else none)->R [U7,.bool b] m' lo:=λ{b m' lo} h1 h2 h3=>(by apply hR _ _ _ _ h1 h2;rw[h3];cases b;exact⟨_,rfl⟩;exact⟨[],_,rfl,rfl,.nil⟩);refine af (λk8=>?_) (λk8=>?_);rw[F6 (R7 k8)]at hD;refine aX (λvs mm lo=>∃b,vs=[U7,.bool b]/\m13=mm/\m.n<=lo/\D=if b=true then some []else none) (λQ hQ=>?_) ?_;rw[(eS g1).1,ae,(FZ gf).2.2,ae];apply aw (zo hX (hF.an F) w1 n0 ⟨t.id,t.side⟩);rw[g0,ag];refine af (λc=>?_) (λc=>hQ _ _ _ ⟨false,rfl,rfl,ac,by rw[hD,show mh y.us t.id t.side=false from c];rfl⟩);rw[show mh y.us t.id t.side=true from c,Rl]at hD;rw[(eS g1).2.2.1,ae,(o2.an F).len eV,ak,aK,ae,ag];refine af (λd=>hQ _ _ _ ⟨true,rfl,rfl,ac,?_⟩) (λd=>?_);have d:=R7 d;rw[hD,Dk (show y.rc.length < 60 by omega)];rfl;have d:=QB d;rw[ae,(FZ gf).2.2,ae];apply aw (uB hX (o2.an F) ac ⟨t.id,t.side⟩);refine hQ _ _ _ ⟨_,rfl,rfl,ac,?_⟩;rw[hD,QY (show¬y.rc.length < 60 by omega),Wv];rintro _ _ lo ⟨b,rfl,rfl,u0,b2⟩;rw[av,av];exact fin u0 F b2;rw[Od (QB k8),fu.eq]at hD;refine aX (λvs mm lo=>∃b,vs=[U7,.bool b]/\m13=mm/\m.n<=lo/\D=if b=true then some []else none) (λQ hQ=>?_) ?_;rw[ag];refine af (λc=>?_) (λc=>hQ _ _ _ ⟨false,rfl,rfl,y0,by rw[hD,c];rfl⟩);rw[c,F6 rfl,Ls]at hD;rw[(eS g1).2.2.2.2,ae,bR gu,ae,kQ g2,ae];apply aw (afn hX hS (d2.an F) (e2.an F) hP fu.sl fu.ln hw.one);refine hQ _ _ _ ⟨_,rfl,rfl,ac,?_⟩;rw[hD];unfold Bo;(cases cy y.us t.other with|none=>rfl|some v=>rfl);rintro _ _ lo ⟨b,rfl,rfl,u0,b2⟩;rw[av,av];exact fin u0 F b2)
 refine H _ λv b m' lo y0 hx hs=>?_;exact FT (by first |rfl |trivial) hs y0 hx
def Dp(y:Yd)(t:Tk)(m':M)(F:Φ):Prop:=zW (eF rj cg bQ y t) m' F/\∀d,eF rj cg bQ y t=some d->∃v s H,F=.tuple #[v,s,.bool true]/\vv m' H v/\fK rj cg bQ y t=some (H.map AW.a)
def Dp.no{y:Yd}{v r r2:Φ}(e:eF rj cg bQ y t=none)(F:one r)(H:one r2):Dp y t m' (.tuple #[v,.agg #[r,r2],IA]):=
 ⟨by rw[e];exact⟨v,r,r2,rfl,F,H⟩,λd h=>be⟩
def Dp.flat{y:Yd}{v u w:Φ}(h:Dp y t m' (.tuple #[v,u,w]))(H:aZ (.tuple #[v,u,w]))(m:M):Dp y t m (.tuple #[v,u,w]):=by refine⟨h.1.flat H m,λd hd=>?_⟩;have⟨v',s,al,e,ha,hA⟩:=h.2 d hd;cases e;have h1:oe (some (al.map AW.a)) m' (.tuple #[v,HT]):=⟨al,v,rfl,rfl,ha⟩;have F:(D.eo v && (D.eo u && (true && true))):=H;rw[De]at F;obtain⟨b0,v',e,e1,d0⟩:=h1.flat (show(D.eo v && (true && true))=true by grind) m;grind
set_option maxHeartbeats 1000000 in
theorem abP(hX:cp X)(e1:CK X)(hI:qU X)(i1:Nr X)(hU:gC m){y:Yd}{r r2 st rc mo:Φ}{t:Tk}{w:Φ}(hV:sS m y r r2 st rc mo)(hP:sU y)(hw:Sl m t.un.shape w)(A0:t.un.shape.length < 100000):
  ∃rv m',C X (.func 26) [yv r r2 st rc mo,t.v w] m m.n rv m'/\Ext m m'/\Dp y t m' rv:=by
 apply Cl.H0 hX (MZ func26)
 have H:∀R:ν->M->Nat->Prop,(∀(v t' u:Φ) (m':M) (lo:Nat),m.n<=lo->Ext m m'->Dp y t m' (.tuple #[v,t',u])->R [v,t',u] m' lo)->fP TE (aG TE X) f26 [yv r r2 st rc mo,t.v w] m R:=by
  intro R hR
  rw[F26];dsimp only[aG]
  refine ah λm1 c2 B0 j1=>?_
  refine ah λm2 d2 O0 P0=>?_
  refine ah λm3 e2 Q0 s0=>?_
  have e0:Ext m m3:=⟨ac,be⟩
  have g1:m3.get m.n=.cells (yc r r2 st rc mo) 38 none:=by rw[s0 _ ac,P0 _ ac];exact B0
  have g2:m3.get m1.n=.cells (t.c w) 46 none:=by rw[s0 _ ac];exact O0
  have gz:m3.get m2.n=.cells [U7,U7] 33 none:=Q0
  clear B0 j1 O0 P0 Q0 s0
  unfold ptrTo
  have u0:=hV.an e0
  have a1:=hw.an e0
  have bad:∀{mm:M} {lo:Nat},mm.get m2.n=.cells [U7,U7] 33 none->m.n<=lo->(∀c,c < m.n->mm.get c=m.get c)->m.n<=mm.n->eF rj cg bQ y t=none->
    aS (bz TE 33 []) λv20=>dn (bw TE mm 33 (.pointer (some ⟨m2.n,0,none⟩)) v20) λm21 k1=>aS (aC TE m21 33 (.pointer (some ⟨m2.n,0,none⟩))) λl1=>R [U7,l1,IA] m21 (min lo k1):=by
   intro mm lo g k0 hk hn e
   rw[jU,ae]
   refine aj eE g rfl rfl rfl λm' i2 p1 j2=>?_
   rw[(jY p1).2.2.2,ae]
   apply hR _ _ _ _ _ ac ⟨ac,be⟩
   exact .no e rfl rfl
  refine aX (λvs mm lo=>vs=[.bool (!eA t)]/\m3=mm/\m.n<=lo) (λQ hQ=>?_) ?_
  ·rw[(eS g1).2.2.2.2,ae]
   apply aw (aeF hX u0 hP)
   rw[bC,ae,ag]
   show lR false _ _
   rw[aT,kQ g2,ae]
   apply aw (Gd hX a1 A0)
   rw[bC,ae]
   grind
  rintro _ _ lo ⟨rfl,rfl,k0⟩
  rw[av,ag]
  refine af (λc=>?_) (λc=>?_)
  ·rw[MK]at c;exact bad gz k0 (λc hc=>e0.get c hc) ac (by unfold eF;rw[Od be])
  rw[MI]at c
  have hS:eF rj cg bQ y t=(fK rj cg bQ y t).bind λl=>fL y.us y.ms l:=by unfold eF;rw[F6 c]
  rw[(eS g1).2.2.2.2,ae,kQ g2,ae]
  have⟨rv,r1,u1,b0,h0⟩:=ab8 (m:=m3) hX e1 (hU.an e0) u0 hP a1 A0 (uY c)
  apply aw u1
  have n27:=b0.n
  unfold oe at h0
  cases hA:fK rj cg bQ y t with
  |none=>rw[hA]at h0 hS;obtain⟨v,rfl⟩:=h0;rw[aD,aD];simp only[Lf,S5,ae];rw[bC,ae,ag,Gp,bM];exact bad (b0.cells gz) ac (λc hc=>by rw[b0.get c ac,e0.get c hc]) ac hS
  |some L=>
   rw[hA]at h0 hS
   obtain⟨al,v,rfl,hL,p0⟩:=h0
   have v1:al.length<=40:=by have:=HU hP hA;rwa[<-hL,OG]at this
   rw[aD,aD]
   simp only[Lf,S5,ae]
   rw[bC,ae,ag,Pq,aT,dm,ae,(eS (b0.cells g1)).1,ae]
   obtain⟨⟨l,y0,hF⟩,w1, -⟩:=u0.an b0
   obtain⟨y1,l0,A1,n0,g0⟩:=U6 (m:=r1) hX hI i1 hF (by rw[y0];exact hP.xK) w1 (by rw[y0];exact hP.C2) p0 v1
   apply aw A1
   rw[y0,hL]at g0
   have hS:eF rj cg bQ y t=fL y.us y.ms L:=hS
   have n39:=n0.n
   have q0:=(b0.trans n0).cells gz
   have H1:∀c,c < m.n->l0.get c=m.get c:=λc hc=>by rw[n0.get c ac,b0.get c ac,e0.get c hc]
   obtain⟨q,q2,n,e,rfl,o1,o2,F⟩:∃q q2 n e,y1=.tuple #[.agg #[q,q2],.int .i64 n,.int .i64 e]/\one q=true/\one q2=true/\(match fL y.us y.ms L with |some (vs,ns)=>e=0/\gV vs ns l0 (.agg #[q,q2]) |none=>e=170):=by
    unfold qR at g0
    cases hr:fL y.us y.ms L with
    |none=>rw[hr]at g0;obtain⟨n,rfl⟩:=g0;exact⟨_,_,n,170,rfl,rfl,rfl,rfl⟩
    |some d=>have⟨vs,ns⟩:=d;rw[hr]at g0;obtain⟨q,q2,n,rfl,hs⟩:=g0;have⟨_,_,_,e,_,h1,h2⟩:=id hs;cases e;exact⟨q,q2,n,0,rfl,h1.sl.one,h2.one,rfl,hs⟩
   rw[aD,aD,aD]
   simp only[Lf,S5,ae]
   refine ah λk2 K1 b1 O1=>?_
   refine aj eE b1 rfl rfl (by show(one q && (one q2 && true))=true;rw[o1,o2];rfl) λc1 T1 i0 a2=>?_
   have i0:c1.get l0.n=.cells [q,q2] 33 none:=i0
   rw[(jY i0).2.2.2,ae,aJ,ae]
   have d0:Ext l0 c1:=⟨ac,be⟩
   refine aj eE (d0.cells q0) rfl rfl be λo0 b2 j0 r0=>?_
   have j0:o0.get m2.n=.cells [q,q2] 33 none:=j0
   rw[(jY j0).2.2.2,ae]
   apply hR _ _ _ _ _ ac ⟨ac,be⟩
   cases hr:fL y.us y.ms L with
   |none=>rw[hr]at F;have F:e=170:=F;subst F;show Dp y t o0 (.tuple #[v,.agg #[q,q2],IA]);exact .no (hS.trans hr) o1 o2
   |some d=>
    have⟨vs,ns⟩:=d;rw[hr]at F;obtain⟨rfl,hs⟩:=F
    have d1:gV vs ns o0 (.agg #[q,q2]):=hs.aY λc cs t g hc ht=>by have B1:=d0.cells hc;rw[r0 c be,B1]
    have G1:vv o0 al v:=((p0.an n0).an d0).aY λc cs t g hc ht=>by rw[r0 c (λe=>by subst e;rw[d0.cells q0]at hc;cases hc;rcases ht with h |h <;>cases h),hc]
    exact⟨by rw[hS,hr];exact⟨v,q,q2,rfl,d1⟩,λd hd=>⟨v,_,al,rfl,G1,by rw[hA,hL]⟩⟩
 refine H _ λv t' u m' lo k0 hx hs=>?_;show(aZ (.tuple #[v,t',u])=true/\m.n<=lo/\(m.n=m.n/\Ext m m/\Dp _ _ m (.tuple #[v,t',u])))\/((aZ (.tuple #[v,t',u])=false\/lo < m.n)/\(min m.n lo=m.n/\Ext m m'/\Dp _ _ m' (.tuple #[v,t',u])));cases hf:aZ (.tuple #[v,t',u]);·exact .inr ⟨.inl rfl,ac,hx,hs⟩
 exact .inl ⟨rfl,k0,rfl,.refl,hs.flat hf m⟩
section
variable {α:Type}
def Mx{key:α->Int}{l:List α}{x:α}(h:l.Pairwise λa b=>key a<key b)(F:(l.any λy=>decide (key y=key x))=false):
  l.take (fh key l (key x))++x::l.drop (fh key l (key x))=jq key l x:=by have⟨H,h2⟩:=uK (id:=key x) h;rw[H,h2];unfold jq;congr 2;apply Ir;grind
theorem uI{key:α->Int}{x:α}:∀{l:List α},(l.Pairwise λa b=>key a<key b)->(l.any λy=>decide (key y=key x))->fh key l (key x)< l.length/\l.set (fh key l (key x)) x=jq key l x
 |[],_,h=>be
 |a::r,H,h=>by have⟨h1,h2⟩:=T0.1 H;by_cases e:key a<key x;have hr:(r.any λy=>decide (key y=key x)):=(by grind);have⟨i1,i2⟩:=uI h2 hr;have F:fh key (a::r) (key x)=fh key r (key x)+1:=(by unfold fh;grind);rw[F,ND,i2];refine⟨be,?_⟩;unfold jq;grind;have F:fh key (a::r) (key x)=0:=(by unfold fh;rw[Oh,Od be,TU.2];rfl;grind);have b0:key a=key x:=(by grind);rw[F];refine⟨co,?_⟩;unfold jq;rw[Oh,Od be,Oh,Od be,TU.2,Lw.2];rfl;grind;grind
variable [aQ α]
def Js{T:TypeId}(hT:qQ TE T (aQ.ty α) α){f:Nat}{fn:Func}(hX:F0 X f)(hf:TE.fn.get f=some fn)(hn:Nat.ble 3 fn.ntmps)
  (hF:∀{W:Words} {x0 x1 x2:Φ} {m:M} {R:ν->M->Nat->Prop},dB TE W fn [x0,x1,x2] m R=(W.od (M.push m (.cells (cells x1) (aQ.ty α) none)) λm1=>bsG T (aQ.ty α) (λmm k=>W.aS (aC TE mm (aQ.ty α) (ptrTo (M.n m))) k) W x0 x2 m1 (M.n m) R))
  {key:α->Int} {l:List α} {v xv:Φ} {g:Fn} {fi ca:Array Φ} {id:Int} (hb:l.length<400) (hl:Sl m l v) (F:l.Pairwise λa b=>key a<key b)
  (H:∀(mm:M) (b:Nat),mm.get b=.cells (cells xv) (aQ.ty α) none->aC TE mm (aQ.ty α) (ptrTo b)=some xv)
  (hs:∀mm:M,Ext m mm->∀x∈l,∀cs,aQ.rep mm x cs->C X g (fi.toList++([aQ.val α cs,xv]++ca.toList)) mm mm.n (Ω (dq (key x) id)) mm):
  C X (.func f) [v,xv,.func g fi ca] m m.n (.tuple #[Ω (fh key l id:Nat),.bool (l.any λx=>decide (key x=id))]) m:=by refine Cl.flat hX hf hn rfl ?_;rw[hF];dsimp only[aG];refine ah λm1 e0 b0 d0=>?_;have x1:Ext m m1:=⟨ac,d0⟩;exact Sc hT ac (λk hk=>by rw[H m1 _ b0,ae];exact hk) key hb (hl.an x1) F (hs m1 x1) λlo h=>⟨rfl,h⟩
abbrev VA(T t fB fC fI:Nat)(W:Words)(x0 x1 x2:Φ)(m:M)(R:ν->M->Nat->Prop):Prop:=
(W.od (M.push m (.cells (cells x1) t none)) λm1=>(W.aS (aC TE m1 t (ptrTo (M.n m))) λv2=>(W.lM (.func fB) [x0,v2,x2] m1 λv3 m4 b5=>(W.aS (mi v3 0) λv6=>(W.aS (mi v3 1) λv7=>(iR v7
(W.lM (.func fC) [x0] m4 λv8 m9 H=>(W.aS (aC TE m9 t (ptrTo (M.n m))) λv11=>(W.aS (aE TE T v8 v6) λv12=>(W.dn (bw TE m9 t v12 v11) λm13 b0=>(R [v8] m13 (min (min (min (M.n m) b5) H) b0))))))
(W.lM (.func fC) [x0] m4 λd0 m16 F=>((M.n m4<=F)/\(W.aS (aC TE m16 t (ptrTo (M.n m))) λe0=>(W.dn (aO TE m16 T 1 [(0,e0)]) λg0 m20=>(W.lM (.func fI) [d0,v6,g0] m20 λv21 m22 h0=>(R [v21] m22 (min (min (min (M.n m) b5) F) h0)))))))))))))
def Ff{T:TypeId}(hT:qQ TE T (aQ.ty α) α)(q0:aQ.dQ α=[]){f fB fC fI:Nat}{fn:Func}(r0:F0 X f)(hf:TE.fn.get f=some fn)(hn:Nat.ble 3 fn.ntmps)
  (hF:∀{W:Words} {x0 x1 x2:Φ} {m:M} {R:ν->M->Nat->Prop},fP TE W fn [x0,x1,x2] m R=VA T (aQ.ty α) fB fC fI W x0 x1 x2 m R)
  {key:α->Int} {l:List α} {v xv g:Φ} {x:α} (e0:l.Pairwise λa b=>key a<key b) (hl:l.length<400)
  (j0:∀m':M,aQ.rep m' x (cells xv))
  (g0:∀(mm:M) (b:Nat),mm.get b=.cells (cells xv) (aQ.ty α) none->aC TE mm (aQ.ty α) (ptrTo b)=some xv)
  (s0:∀mm:M,Ext m mm->C X (.func fB) [v,xv,g] mm mm.n (.tuple #[Ω (fh key l (key x):Nat),.bool (l.any λy=>decide (key y=key x))]) mm)
  (u0:∀mm:M,Ext m mm->∃v' m',C X (.func fC) [v] mm mm.n v' m'/\Ext mm m'/\lT mm.n m' l v')
  (k0:∀mm:M,aO TE mm T 1 [(0,xv)]=some (RZ mm.n 0 1 1,mm.push (.cells (cells xv) (aQ.ty α) none)))
  (y0:∀{mm:M} {n1 i bx:Nat} {w:Φ},lT n1 mm l w->i<=l.length->mm.get bx=.cells (cells xv) (aQ.ty α) none->n1<=mm.n->
   ∃F m' b,C X (.func fI) [w,Ω i,RZ bx 0 1 1] mm b F m'/\n1<=b/\Ow n1 m' (l.take i++x::l.drop i) F/\mm.n<=m'.n/\(∀c,c<mm.n->(∀a n k,w=.slice (some a) n k->c≠a.block)->m'.get c=mm.get c)):
  ∃F m',C X (.func f) [v,xv,g] m m.n F m'/\Ext m m'/\Ow m.n m' (jq key l x) F/\D.bN F=false:=by have l0:=Cl.Hj (E:=TE) (X:=X) (f:=f) (args:=[v,xv,g]) (m:=m) (R:=λF m' b=>b=m.n/\Ext m m'/\Ow m.n m' (jq key l x) F/\D.bN F=false) r0 hf hn ?_;obtain⟨F,m',b,hc,rfl,h⟩:=l0;exact⟨F,m',hc,h⟩;have n0:jq key l x≠ []:=(by unfold jq;simp);have o0:∀{n1:Nat} {m':M} {F:Φ},Ow n1 m' (jq key l x) F->D.bN F=false:=λh=>(by rcases h with⟨-,h⟩|⟨b,cs,rfl, -⟩;grind;rfl);rw[hF];dsimp only[VA,aG];refine ah λm1 c1 h0 A0=>?_;have x1:Ext m m1:=⟨ac,A0⟩;rw[g0 m1 _ h0,ae];apply aw (s0 m1 x1);rw[aD,aD];simp only[Lf,S5,ae];rw[ag];have⟨w,m9,c9,x9,p9⟩:=u0 m1 x1;have n9:=x9.n;refine af (λc=>?_) (λc=>?_);have⟨B0,p0⟩:=uI e0 c;have O0:Ow m1.n m9 l w:=(by rcases p9 with h|⟨h, -⟩;exact h;grind);have⟨b,e1,e2,e3,⟨d1,g',e4⟩,e5,e6⟩:=J0 q0 O0 B0 hT;apply aw c9;rw[g0 m9 _ (x9.cells h0),ae,e1,ae];have⟨ti,te,t1,⟨e,t2⟩,t3,t4,t5,t6⟩:=hT;refine e6 x xv te t4 t6 (j0 m9) _ λm13 g1 b0 P0=>?_;rw[p0]at b0;refine .inr ⟨.inl (b0.flat n0),ac,⟨ac,λc hc=>by rw[P0 c ac,x9.get c ac,x1.get c hc]⟩,b0.mono ac,o0 b0⟩;refine aw c9 ⟨ID _,?_⟩;rw[g0 m9 _ (x9.cells h0),ae,k0,ak];obtain⟨m20,H⟩:∃q,q=m9.push (.cells (cells xv) (aQ.ty α) none):=⟨_,rfl⟩;have i0:Ext m9 m20:=H ▸ Ext.refl.push;have g20:m20.get m9.n=.cells (cells xv) (aQ.ty α) none:=(by rw[H];exact M.aU);have n20:=i0.n;rw[<-H];obtain⟨F,m22,b,Q0,b1,d0,n22,a1⟩:=y0 (n1:=m1.n) (p9.an i0) (EO (id:=key x)) g20 ac;apply aw Q0;rw[Mx e0 c]at d0;refine .inr ⟨.inl (d0.flat n0),ac,⟨ac,λc hc=>?_⟩,d0.mono ac,o0 d0⟩;rw[a1 c ac λa n k ev=>?_,i0.get c ac,x9.get c ac,x1.get c hc];rcases p9 with(⟨rfl, -⟩|⟨b,cs,rfl, -,h3, -⟩)|⟨-,b,rfl,h3, -⟩;cases ev;cases ev;show c≠b;omega;cases ev;show c≠b;omega
end
structure Ep(X:aF):Prop where
 kp:∀args m,X (.func 82) args m=lz ⟨82,7,69⟩ (.func 82) args m
 fc:∀args m,X (.func 85) args m=lz ⟨85,2,52⟩ (.func 85) args m
 mo:∀args m,X (.func 88) args m=lz ⟨88,3,95⟩ (.func 88) args m
def acn:ZB 34 f82:=⟨_,λ_ _ _ _ _ _=>F82⟩
def Ug:ZB 35 f85:=⟨_,λ_ _ _ _ _ _=>F85⟩
def Ud:ZB 36 f88:=⟨_,λ_ _ _ _ _ _=>F88⟩
def aeo{W:Words}{x0:Φ}{m:M}{R:ν->M->Nat->Prop}:dB TE W f81 [x0] m R=VL 34 W x0 m R:=bv
def Zc{W:Words}{x0:Φ}{m:M}{R:ν->M->Nat->Prop}:dB TE W f27 [x0] m R=VL 35 W x0 m R:=bv
def Y9{W:Words}{x0:Φ}{m:M}{R:ν->M->Nat->Prop}:dB TE W f28 [x0] m R=VL 36 W x0 m R:=bv
def ady(F:cp X){l:List KW}{v:Φ}(H:Sl m l v)(hs:l.length<=1000000):∃v' m',C X (.func 81) [v] m m.n v' m'/\Ext m m'/\lT m.n m' l v':=
 pS yP (F.no _ rfl) (MZ func81) rfl aeo bv (λ_ _ _=>bv) (λ_=>bv) H hs
def Ef(F:cp X){l:List Fc}{v:Φ}(H:Sl m l v)(hs:l.length<=1000000):∃v' m',C X (.func 27) [v] m m.n v' m'/\Ext m m'/\lT m.n m' l v':=
 pS FM (F.no _ rfl) (MZ func27) rfl Zc bv (λ_ _ _=>bv) (λ_=>bv) H hs
def Ee(F:cp X){l:List Mo}{v:Φ}(H:Sl m l v)(hs:l.length<=1000000):∃v' m',C X (.func 28) [v] m m.n v' m'/\Ext m m'/\lT m.n m' l v':=
 pS JB (F.no _ rfl) (MZ func28) rfl Y9 bv (λ_ _ _=>bv) (λ_=>bv) H hs
def Lc(hX:cp X)(x y:KW):C X (.func 32) [x.v,y.v] m m.n (Ω (dq x.u.id y.u.id)) m:=by apply Cl.fG hX (MZ func32);rw[F32];dsimp only[aG];refine ah λm1 d0 F e0=>?_;refine ah λm2 g0 H b0=>?_;have g1:m2.get m.n=.cells x.c 69 none:=(by rw[b0 _ ac];exact F);have g2:m2.get m1.n=.cells y.c 69 none:=H;unfold ptrTo;rw[cf,ae,aW,ae,(CW g1).1,ae,cf,ae,aW,ae,(CW g2).1,ae];apply aw (gh hX _ _);exact⟨rfl,ac⟩
abbrev Ht(f:Fc):Int:=f.un*16+f.side
abbrev Qe(x:Mo):Int:=x.a*128+x.b
def KS{a b c d k:Int}(H: -k<b-d)(h2:b-d<k)(hk:0<k):Mj [dq a c,dq b d]=dq (a*k+b) (c*k+d):=by rw[Z5];rcases Int.lt_trichotomy a c with h|h|h;have:(a+1)*k<=c*k:=FO ac ac;rw[Int.add_mul,Int.one_mul]at this;have e:dq a c= -1:=(by unfold dq;rw[F6 h]);have F:dq (a*k+b) (c*k+d)= -1:=(by unfold dq;rw[F6 ac]);grind;subst h;have e:dq a a=0:=(by unfold dq;rw[Od ac,Od ac]);rw[e,F6 rfl];unfold dq;grind;have:(c+1)*k<=a*k:=FO ac ac;rw[Int.add_mul,Int.one_mul]at this;have e:dq a c=1:=(by unfold dq;rw[Od ac,F6 h]);have F:dq (a*k+b) (c*k+d)=1:=(by unfold dq;rw[Od ac,F6 ac]);grind
def Qy{b:Nat}{x:KW}{g:Option Nat}(h:m.get b=.cells x.c 69 g):aC TE m 69 (Ψ b 0)=some x.v:=(CW h).2.2.2
def QD(hX:cp X)(hI:Ep X){l:List KW}{v:Φ}{x:KW}(hl:Sl m l v)(hb:l.length<400)(F:l.Pairwise λa b=>a.u.id<b.u.id)(h1:one x.w)(h2:one x.mv):
  ∃rv m',C X (.func 31) [v,x.v,.func (.func 32) #[] #[]] m m.n rv m'/\Ext m m'/\Ow m.n m' (jq (λx:KW=>x.u.id) l x) rv/\D.bN rv=false:=
 Ff ff rfl (hX.no _ rfl) (MZ func31) rfl F31 (key:=λx:KW=>x.u.id) F hb (λ_=>⟨rfl,h1,h2⟩) (λH b h=>Qy (x:=x) h)
  (λH hx=>Js ff (hX.no _ rfl) (MZ func80) rfl F80 (key:=λx:KW=>x.u.id) hb (hl.an hx) F (λH b h=>Qy (x:=x) h) λH _ y _ cs hr=>by
   obtain⟨rfl, -⟩:cs=y.c/\_:=hr;exact Lc hX y x)
  (λH hx=>ady hX (hl.an hx) ac) (λH=>bv)
  λhc hi hg hn=>pL (N:=⟨82,7,69⟩) ff yP rfl (MZ func82) rfl acn (λ_=>bv) rfl rfl hI.kp hc hi ac hg ⟨rfl,h1,h2⟩ hn
def QE(hX:cp X)(hI:Ep X){l:List Fc}{v:Φ}{x:Fc}(hl:Sl m l v)(hb:l.length<400)(H:∀f∈x::l, -2<=f.side/\f.side<=7)(F:l.Pairwise λa b=>Ht a<Ht b):
  ∃rv m',C X (.func 33) [v,x.v,.func (.func 34) #[] #[]] m m.n rv m'/\Ext m m'/\Ow m.n m' (jq Ht l x) rv/\D.bN rv=false:=
 Ff eV rfl (hX.no _ rfl) (MZ func33) rfl F33 (key:=Ht) F hb (λ_=>rfl) (λmm b h=>(FZ (x:=x) h).2.2)
  (λmm hx=>Js eV (hX.no _ rfl) (MZ func84) rfl F84 (key:=Ht) hb (hl.an hx) F (λmm b h=>(FZ (x:=x) h).2.2) λmm _ y hy cs hr=>by
   obtain rfl:cs=y.c:=hr;have h1:=H x F3;have h2:=H y (Wm _ hy);rw[show Ht y=y.un*16+y.side from rfl,show Ht x=x.un*16+x.side from rfl,<-KS ac ac ac];exact AI hX y x)
  (λmm hx=>Ef hX (hl.an hx) ac) (λmm=>bv)
  λhc hi hg hn=>pL (N:=⟨85,2,52⟩) eV FM rfl (MZ func85) rfl Ug (λ_=>bv) rfl rfl hI.fc hc hi ac hg rfl hn
def QC(hX:cp X)(hI:Ep X){l:List Mo}{v:Φ}{x:Mo}(hl:Sl m l v)(hb:l.length<400)(H:∀f∈x::l,0<=f.b/\f.b<=99)(F:l.Pairwise λa b=>Qe a<Qe b):
  ∃rv m',C X (.func 35) [v,x.v,.func (.func 36) #[] #[]] m m.n rv m'/\Ext m m'/\Ow m.n m' (jq Qe l x) rv/\D.bN rv=false:=
 Ff kf rfl (hX.no _ rfl) (MZ func35) rfl F35 (key:=Qe) F hb (λ_=>rfl) (λmm b h=>(IQ (x:=x) h).2.2.2)
  (λmm hx=>Js kf (hX.no _ rfl) (MZ func87) rfl F87 (key:=Qe) hb (hl.an hx) F (λmm b h=>(IQ (x:=x) h).2.2.2) λmm _ y hy cs hr=>by
   obtain rfl:cs=y.c:=hr;have h1:=H x F3;have h2:=H y (Wm _ hy);rw[show Qe y=y.a*128+y.b from rfl,show Qe x=x.a*128+x.b from rfl,<-KS ac ac ac];exact yS hX y x)
  (λmm hx=>Ee hX (hl.an hx) ac) (λmm=>bv)
  λhc hi hg hn=>pL (N:=⟨88,3,95⟩) kf JB rfl (MZ func88) rfl Ud (λ_=>bv) rfl rfl hI.mo hc hi ac hg rfl hn
def Al{a b:Fc}(F: -2<=a.side/\a.side<=7)(H: -2<=b.side/\b.side<=7):jW a b↔Ht a<Ht b:=by unfold jW Ht;omega
def E2{a b:Mo}(F:0<=a.b/\a.b<=99)(H:0<=b.b/\b.b<=99):nh a b↔Qe a<Qe b:=by unfold nh Qe;omega
def aaf{y:Yd}(H:sU y)(hs: -2<=t.side/\t.side<=7)(hk:t.kind=8):vz y t=jq Ht y.rc ⟨t.id,t.side⟩:=by have F:y.rc.Pairwise λa b=>Ht a<Ht b:=(by refine H.zf.imp_of_mem λha hb h=>?_;exact(Al (H.zK _ ha).2 (H.zK _ hb).2).1 h);unfold vz;by_cases hm:(⟨t.id,t.side⟩:Fc)∈y.rc;rw[Od λh=>h.2 hm];have b0:(y.rc.any λz=>decide (Ht z=Ht ⟨t.id,t.side⟩)):=Zj.2 ⟨_,hm,co⟩;have⟨h1,h2⟩:=uI F b0;rw[<-h2];have⟨k,d0⟩:=Mf hm;have e0:fh Ht y.rc (Ht ⟨t.id,t.side⟩)=k:=(by have g0:=(Zv.1 d0).1;rw[TF]at F;refine JX ac (λi z hi hz=>?_) λi z hi hz=>?_;grind;grind);rw[e0];apply Mh;grind;rw[F6 ⟨hk,hm⟩];unfold jq;congr 1;exact Ir λz hz=>ge.2 (Al (H.zK _ hz).2 hs);congr 1;exact Ir λz hz=>ge.2 (Al hs (H.zK _ hz).2)
def aeO{y:Yd}(hP:sU y)(H:0<=t.other/\t.other<=99)(hk:t.kind=9):C1 y t=jq Qe y.mo ⟨t.id,t.other,t.dE⟩:=by unfold C1;rw[F6 hk];unfold jq;have ok:∀z∈y.mo,0<=z.b/\z.b<=99:=λz F=>(by have:=hP.IN z F;omega);congr 1;exact Ir λz F=>ge.2 (E2 (ok z F) H);congr 1;exact Ir λz F=>ge.2 (E2 H (ok z F))
def ada(l:List KW)(x:KW):xJ (jq (λx:KW=>x.u.id) l x)=jq (λk:Kp=>k.un.id) (xJ l) x.k:=by unfold jq xJ;rw[R6,Tz,Ue,Ue];rfl
def uz(hX:cp X){x:KW}(h1:Sl m x.u.shape x.w)(h2:Sl m x.ms x.mv)(l1:x.u.shape.length<=1000000)(l2:x.ms.length<=1000000):
  ∃v m',C X (.func 29) [x.v] m m.n v m'/\Ext m m'/\∃k:KW,v=k.v/\k.u=x.u/\k.ms=x.ms/\Sl m' k.u.shape k.w/\Sl m' k.ms k.mv:=by apply Cl.H0 hX (MZ func29);rw[F29];dsimp only[aG];refine ah λm1 O0 n0 P0=>?_;refine ah λm2 Q0 o0 p0=>?_;have x2:Ext m m2:=⟨ac,be⟩;have g1:m2.get m.n=.cells x.c 69 none:=(p0 _ ac).trans n0;have g2:m2.get m1.n=.cells (KW.c ⟨⟨0,0,0,[],0,0⟩,U7,[],U7⟩) 69 none:=o0;have ln:∀{mm:M} {y:KW} {b:Nat} {g:Option Nat},mm.get b=.cells y.c 69 g->aC TE mm 42 (Ψ b (0+0+3))=some y.w:=λh=>(by rw[qy,aH h];rfl);unfold ptrTo;simp only[cf,dM,bA,ae];rw[ln g1,ae];have⟨w',m7,c7,x7,p7⟩:=Ed (m:=m2) hX (h1.an x2) l1;apply aw c7;have n7:=x7.n;have hw:=O7 p7.sl;have G1:=x7.cells g1;refine bW ua G1 (by rw[hw.1];rfl) be be λm11 s0 u0 H=>?_;have g11:m11.get m.n=.cells (KW.c ⟨x.u,w',x.ms,x.mv⟩) 69 none:=be;have h0:∀c cs t g,m7.get c=.cells cs t g->t≠69->m11.get c=.cells cs t g:=λc cs t g hc ht=>(H c λe=>be).trans hc;have ht:∀{α:Type} [aQ α] {l:List α} {v:Φ} {ma mb:M},(∀c cs t g,ma.get c=.cells cs t g->t≠69->mb.get c=.cells cs t g)->(∀t,t∈aQ.ty α::aQ.dQ α->t≠69)->Sl ma l v->Sl mb l v:=λhk ht h=>h.aY λc cs t g hc hm=>hk c cs t g hc (ht t hm);have tp:∀t,t∈aQ.ty Pl::aQ.dQ Pl->t≠69:=λt h=>(by simp only[aQ.ty,aQ.dQ,Qk,Uf,or_false]at h;subst h;decide);have tm:∀t,t∈aQ.ty Mk::aQ.dQ Mk->t≠69:=λt h=>(by simp only[aQ.ty,aQ.dQ,Qk,Uf,or_false]at h;subst h;decide);rw[(CW g11).2.2.1,ae];have⟨F,m16,q0,b0,i0⟩:=Cv (m:=m11) hX (ht h0 tm ((h2.an x2).an x7)) l2;apply aw q0;have n16:=b0.n;have hm:=O7 i0.sl;have r0:=b0.cells g11;refine bW Dx r0 (by rw[hm.1];rfl) be be λm19 y0 A0 d0=>?_;have g19:m19.get m.n=.cells (KW.c ⟨x.u,w',x.ms,F⟩) 69 none:=be;have j0:∀c cs t g,m16.get c=.cells cs t g->t≠69->m19.get c=.cells cs t g:=λc cs t g hc ht=>(d0 c λe=>be).trans hc;have G2:=(d0 m1.n ac).trans (b0.cells ((H m1.n ac).trans (x7.cells g2)));rw[(CW g19).2.2.2,ae];refine aj Gg G2 rfl rfl (KW.dz (x:=⟨x.u,w',x.ms,F⟩) hw.2 hm.2) λm22 B0 k0 e0=>?_;have g22:m22.get m1.n=.cells (KW.c ⟨x.u,w',x.ms,F⟩) 69 none:=k0;have l0:∀c cs t g,m19.get c=.cells cs t g->t≠69->m22.get c=.cells cs t g:=λc cs t g hc ht=>(e0 c λe=>be).trans hc;rw[(CW g22).2.2.2,ae];have xm:Ext m m22:=⟨ac,λc hc=>by rw[e0 c ac,d0 c ac,b0.get c ac,H c ac,x7.get c ac,x2.get c hc]⟩;have s1:Sl m22 x.u.shape w':=ht l0 tp (ht j0 tp ((ht h0 tp p7.sl).an b0));have s2:Sl m22 x.ms F:=ht l0 tm (ht j0 tm i0.sl);refine KC (m:=m) (vs:=[KW.v ⟨x.u,w',x.ms,F⟩]) (Q:=λv m'=>∃k:KW,v=k.v/\k.u=x.u/\k.ms=x.ms/\Sl m' k.u.shape k.w/\Sl m' k.ms k.mv) ac xm ⟨_,rfl,rfl,rfl,s1,s2⟩ λhf=>?_;have g0:(true && (true && (true && (D.bN w' && (true && (true && (D.bN F && true))))))):=hf;simp only[Rl,VZ,De]at g0;exact⟨⟨x.u,w',x.ms,F⟩,rfl,rfl,rfl,(nG s1 g0.1 m).2,(nG s2 g0.2 m).2⟩
structure Dm(m0:M)(O:Nat)(m:M)(r r2 rc mo:Φ)(acc:List KW)(st:Φ):Prop where
 cell:m.get O=.cells (yc r r2 st rc mo) 38 none
 st:Ow m0.n m acc st
 kv:∀k∈acc,Sl m k.u.shape k.w/\Sl m k.ms k.mv/\k.u.shape.length < 1000000/\k.ms.length < 1000000
 n:m0.n<=m.n
 fr:∀c,c < m0.n->c≠O->m.get c=m0.get c
variable{m0:M}{O:Nat}{r r2 rc mo st:Φ}{acc:List KW}
def Dm.an(h:Dm m0 O m r r2 rc mo acc st)(F:Ext m m'):Dm m0 O m' r r2 rc mo acc st:=
 ⟨F.cells h.cell,h.st.an F,λk H=>⟨(h.kv k H).1.an F,(h.kv k H).2.1.an F,(h.kv k H).2.2⟩,WA h.n F.n,λc h1 h2=>(F.get c (F7 h1 h.n)).trans (h.fr c h1 h2)⟩
def Dm.push(h:Dm m0 O m r r2 rc mo acc st)(hO:O<m0.n){k:KW}(hk:Sl m k.u.shape k.w/\Sl m k.ms k.mv/\k.u.shape.length<1000000/\k.ms.length<1000000)(hl:acc.length<1000000):
  ∃a m1 r' m2 m3,aO TE m 34 1 [(0,k.v)]=some (a,m1)/\aR TE (M.wl m1 (M.n m1)) .append [34,34] [st,a]=some (r',m2)/\bw TE m2 34 (Ψ O (0+2)) r'=some (m3,O)/\m0.n<=m2.low/\Dm m0 O m3 r r2 rc mo (acc++ [k]) r':=by obtain⟨m1,H⟩:∃q,q=m.push (.cells k.c 69 none):=⟨_,rfl⟩;have b0:Ext m m1:=H ▸ Ext.refl.push;have e0:m1.get m.n=.cells k.c 69 none:=(by rw[H];exact M.aU);have hn:=h.n;have h0:=b0.n;obtain⟨r',m2,m3, -,p1,p2,p3,p4,p5,p6,p7,p8⟩:=Bl (n1:=m0.n) (o:=2) yP rfl JM rfl h.cell (by rfl) hO hn h.st b0 (kY (x:=k) e0 ⟨rfl,hk.1.one,hk.2.1.one⟩) hl;have ks:∀{α:Type} [aQ α] {l:List α} {v:Φ},(∀t,t∈aQ.ty α::aQ.dQ α->t≠69/\t≠38)->Sl m l v->Sl m3 l v:=λht hs=>hs.aY λc cs t g hc hm=>(by have d0:=b0.cells hc;rw[p8 c (M.aP d0) (λe=>by subst e;rw[h.cell]at hc;cases hc;exact(ht _ hm).2 rfl) λi0 g' e=>by rw[d0]at e;cases e;exact(ht _ hm).1 rfl,d0]);have g0:∀z:KW,Sl m z.u.shape z.w/\Sl m z.ms z.mv/\z.u.shape.length<1000000/\z.ms.length<1000000->Sl m3 z.u.shape z.w/\Sl m3 z.ms z.mv/\z.u.shape.length<1000000/\z.ms.length<1000000:=λz F=>⟨ks (λt h=>by simp only[aQ.ty,aQ.dQ,Qk,Uf,or_false]at h;subst h;decide) F.1,ks (λt h=>by simp only[aQ.ty,aQ.dQ,Qk,Uf,or_false]at h;subst h;decide) F.2.1,F.2.2⟩;refine⟨_,m1,r',m2,m3,H ▸ PX,p1,p2,p3,⟨p4,p5,λz F=>?_,ac,λc h1 h2=>(p7 c h1 h2).trans (h.fr c h1 h2)⟩⟩;rcases HN.1 F with F|F;exact g0 z (h.kv z F);grind
def Dm.kev{y:List Kp}(h:Dm m0 O m r r2 rc mo acc st)(he:xJ acc=y){m':M}(H:∀c cs t g,m.get c=.cells cs t g->t≠38->m'.get c=.cells cs t g):∃k,xJ k=y/\F1 m' k st:=
 ⟨acc,he,F1.aY ⟨h.st.sl,h.st.sln,λx F=>(h.kv x F).1,λx F=>(h.kv x F).2.1,λx F=>(h.kv x F).2.2.1,λx F=>(h.kv x F).2.2.2⟩ λc cs t g hc ht=>H c cs t g hc be⟩
def U0{r r2 a b:Φ}(F:cells a=[a])(H:cells b=[b]):bz TE 38 [(0,.agg #[r,r2]),(2,a),(3,b)]=some (yv r r2 U7 a b):=by rw[CA rfl be be,F,H];rfl
def aak{b:Nat}{p q:Φ}{g:Option Nat}(h:m.get b=.cells [p,q] 33 g):aC TE m 33 (Ψ b 0)=some (.agg #[p,q]):=(jY h).2.2.2
def tZ(y:Yd)(t:Tk):Option Yd:=if eA t=true then AT rj cg bQ y t else none
def F2{y:Yd}:tZ y t=(eF rj cg bQ y t).map λp=>⟨p.1,p.2,CV y t,vz y t,C1 y t⟩:=by unfold tZ eF AT;grind
def adk{y:Yd}{p:List Un×List Mk}(h:eF rj cg bQ y t=some p)(k:t.kind=2):(cy y.us t.id).isSome:=by unfold eF at h;split at h;obtain⟨l,F, -⟩:=YZ.1 h;unfold fK at F;grind;cases h
def adQ{y:Yd}{p:List Un×List Mk}(h:eF rj cg bQ y t=some p):eA t:=by unfold eF at h;grind
def stays(t:Tk)(k:Kp):Bool:= !decide (t.kind=3) || !decide (k.un.id=t.id)
def ac6{y:Yd}(h:t.kind≠2):CV y t=y.st.filter (stays t):=by unfold CV stays;rw[Od h];split;grind;rename_i e;rw[Lw.2];grind
def Te(h:t.kind=2)(l:List Kp):l.filter (stays t)=l:=by rw[Lw];intro k _;unfold stays;grind
structure EndK(m0:M)(O:Nat)(m:M)(p q:Φ)(st:List Kp)(rl:List Fc)(ml:List Mo):Prop where
 ex:∃a b c,m.get O=.cells (yc p q a b c) 38 none/\(∃k,xJ k=st/\F1 m k a)/\Sl m rl b/\Sl m ml c
 n:m0.n<=m.n
 fr:∀c,c < m0.n->c≠O->m.get c=m0.get c
set_option maxHeartbeats 4000000 in
theorem Lb(hX:cp X)(h6:CK X)(hI:qU X)(hY:Ep X)(i6:Nr X)(hU:gC m){y:Yd}{r r2 st rc mo:Φ}{t:Tk}{w:Φ}(hV:sS m y r r2 st rc mo)(hP:sU y)(hw:Sl m t.un.shape w)(j6:t.un.shape.length < 100000):
  ∃rv m',C X (.func 7) [yv r r2 st rc mo,t.v w] m m.n rv m'/\Ext m m'/\lI (tZ y t) m' rv:=by
 apply Cl.H0 hX (MZ func7);have k6:=hV;have⟨⟨l4,l2,hF⟩,l6,⟨kl,m4,hK⟩,m6,n6⟩:=hV;have n4:cq (bI l4):=(by rw[l2];exact hP.xK);have b8:kl.length<=12:=(by have:=hP.SH;rw[<-m4,lQ]at this;exact this);rw[ado];dsimp only[aG];refine ah λm1 e9 o4 o6=>?_;refine ah λm2 f9 r4 u4=>?_;refine ah λm3 g9 w4 i3=>?_;have x3:Ext m m3:=⟨ac,be⟩;have g1:m3.get m.n=.cells (yc r r2 st rc mo) 38 none:=(i3 m.n ac).trans ((u4 _ ac).trans o4);have g2:m3.get m1.n=.cells (t.c w) 46 none:=(i3 _ ac).trans r4;have g3:m3.get m2.n=.cells (yc U7 U7 U7 U7 U7) 38 none:=w4;clear o4 o6 r4 u4 w4 i3;unfold ptrTo;simp only[dm,dN,eK,fy,bJ,dC,cU,cT,dh,cS,cf,dM,aW,ae];rw[(eS g1).2.2.2.2,ae,kQ g2,ae];have⟨rv,m7,c7,x7,d7⟩:=abP (m:=m3) hX h6 hI i6 (hU.an x3) (k6.an x3) hP (hw.an x3) j6;apply aw c7;have n7:=x7.n;obtain⟨v7,p,q,ok,rfl,o1,o2,k0⟩:∃v7 p q ok,rv=.tuple #[v7,.agg #[p,q],.bool ok]/\one p=true/\one q=true/\(match eF rj cg bQ y t with |some (vs,ns)=>ok=true/\gV vs ns m7 (.agg #[p,q]) |none=>ok=false):=(by have a7:=d7.1;unfold zW at a7;cases hs:eF rj cg bQ y t with|none=>grind|some d=>have⟨vs,ns⟩:=d;rw[hs]at a7;obtain⟨v,p,q,rfl,h1⟩:=a7;have⟨_,_,_,e,_,h2,h3⟩:=id h1;cases e;exact⟨_,_,_,_,rfl,h2.sl.one,h3.one,rfl,h1⟩);have o7:([p,q]:ν).all one=true:=(by show(one p && (one q && true))=true;rw[o1,o2];rfl);rw[aD,aD,aD];simp only[Lf,S5,ae];refine ah λm12 c8 y4 d8=>?_;refine aj eE y4 rfl rfl o7 λm13 f8 A4 g8=>?_;have g13:m13.get m7.n=.cells [p,q] 33 none:=A4;have B4:Ext m7 m13:=⟨ac,be⟩;have o0:=x7.trans B4;rw[bC,ae,ag];refine af (λc=>?_) (λc=>?_);rw[MK]at c;have r6:tZ y t=none:=(by rw[F2];cases hs:eF rj cg bQ y t with|none=>rfl|some d=>have⟨vs,ns⟩:=d;rw[hs]at k0;rw[k0.1]at c;cases c);rw[show bz TE 38 []=some (yv U7 U7 U7 U7 U7) by kernel_rfl,ae];refine aj oj (o0.cells g3) rfl rfl rfl λm17 h8 O4 i8=>?_;rw[(eS (show m17.get m2.n=.cells (yc U7 U7 U7 U7 U7) 38 none from O4)).2.2.2.2,ae];exact .inl ⟨rfl,ac,by first |rfl |trivial,.refl,by unfold lI;rw[r6];rfl⟩;rw[MI]at c;subst c;obtain⟨⟨vs,ns⟩,hs⟩:∃d,eF rj cg bQ y t=some d:=(by cases hs:eF rj cg bQ y t with|none=>rw[hs]at k0;cases k0|some d=>exact⟨d,rfl⟩);rw[hs]at k0;have⟨us,p',q',e,s6,u6,v6⟩:=k0.2;cases e;have d1:=adQ hs;have hD:tZ y t=some ⟨vs,ns,CV y t,vz y t,C1 y t⟩:=(by rw[F2,hs];rfl);rw[aak g13,ae,(eS (o0.cells g1)).2.2.1,ae];have j8:=hP.Wp;have l8:=hP.TN;have m8:=hP.C2.len;obtain⟨p0,m20,w6,R4,y6⟩:=Ef (m:=m13) hX ((m6.an x3).an o0) ac;refine aw w6 ⟨ID _,?_⟩;have A0:=o0.trans R4;rw[(eS (A0.cells g1)).2.2.2.1,ae];obtain⟨d0,i1,z6,j3,k3⟩:=Ee (m:=m20) hX ((n6.an x3).an A0) ac;refine aw z6 ⟨ID _,?_⟩;have u2:=A0.trans j3;have l3:=y6.sl.an j3;rw[U0 l3.cells k3.sl.cells,ae];refine ah λh9 n8 W4 o8=>?_;refine aj oj W4 rfl rfl (by show(one p && (one q && (true && (one p0 && (one d0 && true)))))=true;rw[o1,o2,l3.one,k3.sl.one];rfl) λs0 p8 a5 r8=>?_;have gO:s0.get i1.n=.cells (yc p q U7 p0 d0) 38 none:=a5;have K1:Ext i1 s0:=⟨ac,be⟩;have i0:=u2.trans K1;have n329:=i0.n;have n325:=u2.n;have n320:=A0.n;have n313:=o0.n;have v2:=(hK.an x3).an i0
 rw[(eS (i0.cells g1)).2.1,ae,v2.sl.len ff,ak];refine Lp.intro (γ:=Nat) (λi=>kl.length-i) (λi vs mm lo=>∃acc sv,vs=[.int .i64 i]/\i<=kl.length/\m.n<=lo/\Dm s0 i1.n mm p q p0 d0 acc sv/\xJ acc=((xJ kl).take i).filter (stays t)) 0 ⟨[],_,rfl,PS _,ac,⟨gO,.nil,λk hk=>(by cases hk),ID _,λ_ _ _=>rfl⟩,rfl⟩ ?_;rintro i j9 mm lo ⟨acc,sv,rfl,hi,A6,hO,l0⟩;have nO:=hO.n;have l9:acc.length<=i:=(by have:=congrArg List.length l0;have h2:=Wf (stays t) ((xJ kl).take i);rw[lQ]at this;rw[Zu]at h2;omega);have j1:∀c,c < m3.n->mm.get c=m3.get c:=λc F=>(hO.fr c ac ac).trans (i0.get c F);have G1:mm.get m.n=_:=(j1 _ ac).trans g1;have G2:mm.get m1.n=_:=(j1 _ ac).trans g2;have iE:∀c cs t g,s0.get c=.cells cs t g->t≠38->mm.get c=.cells cs t g:=λc cs t g F ht=>(hO.fr c (M.aP F) λe=>be).trans F;rw[av,aK,ae,ag];refine af (λa1=>?_) (λn3=>?_);have a1:i < kl.length:=be;obtain⟨k,hk⟩:∃k,kl[i]?=some k:=⟨_,Iy a1⟩;have O1:=Vb hk;have k1:F1 mm kl st:=v2.aY λc cs t g F ht=>iE c cs t g F be;have⟨a,cs,e1,e2,e3⟩:=k1.sl.index ff (k:=.i64) hk;obtain⟨rfl,B6,b7⟩:cs=k.c/\one k.w=true/\one k.mv=true:=e3;have e2:aC TE mm 69 a=some k.v:=e2;have b5:(xJ kl)[i]?=some k.k:=(by unfold xJ;rw[OB,hk];rfl);refine aX (λvs m' n0=>vs=[]/\m.n<=n0/\∃acc sv,Dm s0 i1.n m' p q p0 d0 acc sv/\xJ acc=((xJ kl).take (i+1)).filter (stays t)) (λQ hQ=>?_) ?_;rw[e1,ae,e2,ae];refine ah λm9 s8 c5 u8=>?_;refine aj Gg c5 rfl rfl (KW.dz B6 b7) λT1 v8 d5 w8=>?_;have f5:T1.get mm.n=.cells k.c 69 none:=d5;have q0:Ext mm T1:=⟨ac,be⟩;have n9:=q0.n;refine aX (λvs m' n0=>vs=[.bool (stays t k.k)]/\T1=m'/\m.n<=n0) (λQ2 a2=>?_) ?_;unfold stays at a2;rw[(kR (q0.cells G2)).1,ae,bY,ae,ag];refine af (λc=>a2 _ _ _ ⟨by rw[c];rfl,rfl,ac⟩) (λc=>?_);rw[c,Wv]at a2;rw[(CW f5).1,ae,(kR (q0.cells G2)).2.1,ae,bY,ae];exact a2 _ _ _ ⟨rfl,rfl,ac⟩;rintro _ _ iT ⟨rfl,rfl,w2⟩;rw[av,ag];refine af (λc=>?_) (λc=>?_);rw[(eS (q0.cells hO.cell)).2.1,ae,(CW f5).2.2.2,ae];have o9:=k1.ln k O1;have p9:=k1.lm k O1;obtain⟨v',r9,f7,g5,k',rfl,o3,r3,s1,s2⟩:=uz (m:=T1) hX ((k1.sh k O1).an q0) ((k1.mv k O1).an q0) ac ac;refine aw f7 ⟨ID _,?_⟩;obtain⟨a',s9,r',u9,v9,b1,b2,b3,b4,u3⟩:=((hO.an q0).an g5).push ac (k:=k') ⟨s1,s2,be,be⟩ ac;rw[b1,ak,b2,ak,b3,ak];have w9:=g5.n;refine hQ _ _ _ ⟨rfl,ac,_,_,u3,?_⟩;have i5:k'.k=k.k:=(by unfold KW.k;rw[o3,r3]);rw[QM,b5,NO,<-l0];simp only[UJ,Oh,c,Ot,QS];rw[<-i5];exact R6;refine hQ _ _ _ ⟨rfl,w2,_,_,hO.an q0,?_⟩;rw[QM,b5,NO,<-l0];simp only[UJ,Oh,c,QS,Y4];simp;rintro _ _ n0 ⟨rfl,j5,k5,g7,u3,h7⟩;rw[aL,ae,wrap64];exact⟨i+1,ac,k5,g7,rfl,a1,j5,u3,h7⟩;have n3:i=kl.length:=be;subst n3;have l0:xJ acc=y.st.filter (stays t):=(by rw[l0,<-m4,OO (by rw[lQ];omega)]);have nY:∀{α:Type} [aQ α] {l:List α} {v:Φ} {ma mb:M},(∀c cs t g,ma.get c=.cells cs t g->t≠38->mb.get c=.cells cs t g)->(∀t,t∈aQ.ty α::aQ.dQ α->t≠38)->Sl ma l v->Sl mb l v:=λhk ht h=>h.aY λc cs t g F hm=>hk c cs t g F (ht t hm);have tf:∀t,t∈aQ.ty Fc::aQ.dQ Fc->t≠38:=λt h=>(by simp only[aQ.ty,aQ.dQ,Qk,Uf,or_false]at h;subst h;decide)
 have tm:∀t,t∈aQ.ty Mk::aQ.dQ Mk->t≠38:=λt h=>(by simp only[aQ.ty,aQ.dQ,Qk,Uf,or_false]at h;subst h;decide);have to:∀t,t∈aQ.ty Mo::aQ.dQ Mo->t≠38:=λt h=>(by simp only[aQ.ty,aQ.dQ,Qk,Uf,or_false]at h;subst h;decide);have sR:Sl mm y.rc p0:=nY iE tf (l3.an K1);have sM:Sl mm y.mo d0:=nY iE to (k3.sl.an K1);have xm:Ext m mm:=⟨ac,λc F=>by rw[j1 c ac,x3.get c F]⟩;refine aX (λvs m' n0=>vs=[]/\m.n<=n0/\EndK s0 i1.n m' p q (CV y t) (vz y t) (C1 y t)) (λQ hQ=>?_) ?_;rw[(kR G2).1,ae,aJ,ae,ag];refine af (λk2=>?_) (λk2=>?_);have k2:=R7 k2;have y2:xJ acc=y.st:=l0.trans (Te k2 y.st);have y8:acc.length<=12:=be;have l5:cC mm l4 r:=((hF.an x3).an i0).aY λc cs t g F ht=>iE c cs t g F be;have w3:Sl mm y.ms r2:=nY iE tm ((l6.an x3).an i0);rw[(eS G1).1,ae,(kR G2).2.1,ae];obtain⟨fv,m5,i7,n5,f95⟩:=vB (m:=mm) hX l5 (by have:=n4.len;unfold bI at this;rw[OG]at this;omega) ⟨l5.sl.one,w3.one⟩ t.id;apply aw i7;obtain⟨u,wu,is,rfl,fu⟩:=f95.WY n4;have y9:=n5.n;rw[aD,aD];simp only[Lf,S5,ae];refine ah λz9 z8 z2 o5=>?_;refine aj dV z2 rfl rfl (Un.dz fu.sl.one) λH j7 l1 y3=>?_;have gu:H.get m5.n=.cells (u.c wu) 44 none:=l1;have r1:Ext m5 H:=⟨ac,λc F=>be⟩;rw[bR gu,ae,Sm,ae];refine ah λA8 k7 u1 A3=>?_;refine aj Gg u1 rfl rfl (KW.dz (x:=⟨u,wu,[],U7⟩) fu.sl.one rfl) λA2 l7 v1 B3=>?_;have gK:A2.get H.n=.cells (KW.c ⟨u,wu,[],U7⟩) 69 none:=v1;have B0:Ext H A2:=⟨ac,λc F=>be⟩;have n100:=r1.n;have n105:=B0.n;have O3:=n5.trans r1;clear z2 o5 l1 y3 u1 A3 v1 B3;have fe:=fu.eq;rw[l2]at fe;have p7:is=true:=(by have:=adk hs k2;rw[fe]at this;cases is;cases this;rfl);subst p7;have r7:cy y.us t.id=some u:=fe;rw[(yR ((O3.trans B0).cells G1)).2.2,ae,(w3.an (O3.trans B0)).len cO,ak];refine Lp.intro (γ:=Nat) (λj=>y.ms.length-j) (λj vs mq lo=>∃mv,vs=[.int .i64 j]/\j<=y.ms.length/\Ext H mq/\m.n<=lo/\mq.get H.n=.cells (KW.c ⟨u,wu,[],mv⟩) 69 none/\Ow (H.n+1) mq ((y.ms.take j).filter λx=>decide (x.un=t.id)) mv/\H.n < mq.n) 0 ⟨_,rfl,PS _,B0,ac,gK,.nil,ac⟩ ?_;rintro j vs mq A9 ⟨mv,rfl,hj,c2,a9,gk,w1,b9⟩;have xq:=O3.trans c2;have s7:=w3.an xq;rw[av,aK,ae,ag];have r5:((y.ms.take j).filter λx=>decide (x.un=t.id)).length<=y.ms.length:=(by grind);refine af (λa1=>?_) (λn3=>?_);have a1:j < y.ms.length:=be;obtain⟨x,hx⟩:∃x,y.ms[j]?=some x:=⟨_,Iy a1⟩;have⟨a',cs,p1,p2,p3⟩:=s7.index cO (k:=.i64) hx;have p2:aC TE mq 71 a'=some x.v:=(by rw[show x.v=.agg cs.toArray from by rw[show cs=x.c from p3]];exact p2);refine aX (λvs m' n0=>∃d0,vs=[]/\Ext H m'/\m.n<=n0/\m'.get H.n=.cells (KW.c ⟨u,wu,[],d0⟩) 69 none/\Ow (H.n+1) m' ((y.ms.take (j+1)).filter λx=>decide (x.un=t.id)) d0/\H.n < m'.n) (λQ' u5=>?_) ?_;rw[p1,ae,p2,ae];refine ah λc9 u7 y1 c4=>?_;refine aj qV y1 rfl rfl rfl λB2 w7 A1 d4=>?_;have M2:B2.get mq.n=.cells x.c 71 none:=A1;have b0:Ext mq B2:=⟨ac,λc F=>be⟩;have n125:=b0.n;clear y1 c4 A1 d4;rw[cZ,ae,(wz M2).2.1,ae,(kR ((xq.trans b0).cells G2)).2.1,ae,aJ,ae,ag];refine af (λc=>?_) (λc=>?_);obtain⟨a,b',r',d',d2,e1,e2,e3,e4,e5,e6,e7,e8⟩:=Kv (x:=x) (b0.cells gk) (w1.an b0) ac
 rw[(CW (b0.cells gk)).2.2.1,ae,(wz M2).2.2.2.2,ae,e1,ak,e2,ak,e3,ak];refine u5 _ _ _ ⟨r',rfl,⟨ac,λc F=>by rw[e8 c F,b0.get c ac,c2.get c F]⟩,ac,e5,?_,ac⟩;rw[QM,hx,NO];simp only[UJ,Oh,c,Ot,QS];exact e6;refine u5 _ _ _ ⟨mv,rfl,c2.trans b0,ac,b0.cells gk,?_,ac⟩;rw[QM,hx,NO];simp only[UJ,Oh,c,QS,Y4];simpa using w1.an b0;rintro _ m' n0 ⟨d0,rfl,h1,h2,h3,h4,h5⟩;rw[aL,ae,wrap64];exact⟨j+1,ac,d0,rfl,ac,h1,h2,h3,h4,h5⟩;obtain rfl:j=y.ms.length:=(by grind);rw[Jg]at w1 r5;obtain⟨L,hL⟩:∃L,L=y.ms.filter λx=>decide (x.un=t.id):=⟨_,rfl⟩;rw[<-hL]at w1 r5;have v5:=hO.an xq;rw[(eS v5.cell).2.1,ae,(CW gk).2.2.2,ae];have e':=fu.ln;have f':=xq.n;obtain⟨v',w5,y5,B1,k',rfl,o3,r3,s1,s2⟩:=uz (m:=mq) (x:=⟨u,wu,L,mv⟩) hX (fu.sl.an (r1.trans c2)) w1.sl (by show u.shape.length<=1000000;omega) (by show L.length<=1000000;omega);refine aw y5 ⟨ID _,?_⟩;have n151:=B1.n;have u0:=v5.an B1;obtain⟨nv,O2,z5,g0,O0,f156⟩:=QD (m:=w5) (x:=k') hX hY u0.st.sl ac (by have:=hP.zA;rw[<-y2]at this;unfold xJ at this;have:=UR.1 this;exact this) s1.one s2.one;apply aw z5;have n156:=g0.n;have cn:=O0.sl.cells;refine bW JM (g0.cells u0.cell) (by rw[cn];rfl) (by rw[cn];show 0+2+1<=5;decide) (by rw[cn];simp[O0.sl.one]) λH1 P2 r0 h0=>?_;have j0:∀c cs t g,O2.get c=.cells cs t g->t≠38->H1.get c=.cells cs t g:=λc cs t g F ht=>(h0 c λe=>by subst e;rw[g0.cells u0.cell]at F;cases F;exact ht rfl).trans F;have A5:k'.u=u:=o3;have B5:k'.ms=L:=r3;have P0:vz y t=y.rc:=(by unfold vz;rw[Od λh=>ac]);have O5:C1 y t=y.mo:=(by unfold C1;rw[Od ac]);have f4:=xq.trans (B1.trans g0);have Q0:∀z∈jq (λx:KW=>x.u.id) acc k',z=k'\/z∈acc:=λz hz=>(by unfold jq at hz;grind);have tq:∀t,t∈aQ.ty Pl::aQ.dQ Pl->t≠38:=λt h=>(by simp only[aQ.ty,aQ.dQ,Qk,Uf,or_false]at h;subst h;decide);have tk:∀t,t∈aQ.ty KW::aQ.dQ KW->t≠38:=λt h=>(by simp only[aQ.ty,aQ.dQ,Qk,Uf,or_false]at h;subst h;decide);refine hQ _ _ _ ⟨rfl,ac,⟨nv,p0,d0,by rw[r0,cn];rfl,⟨jq (λx:KW=>x.u.id) acc k',?_,?_⟩,by rw[P0];exact nY j0 tf (sR.an f4),by rw[O5];exact nY j0 to (sM.an f4)⟩,ac,λc h1 h2=>by rw[h0 c h2,f4.get c ac,hO.fr c h1 h2]⟩;rw[ada,y2];unfold CV;rw[F6 k2,r7];show _=jq _ y.st ⟨u,_⟩;rw[<-hL,<-A5,<-B5];refine F1.aY (m:=O2) ⟨O0.sl,O0.sln,λz hz=>?_,λz hz=>?_,λz hz=>?_,λz hz=>?_⟩ λc cs t g F ht=>j0 c cs t g F be;rcases Q0 z hz with rfl |hz;exact s1.an g0;exact(u0.kv z hz).1.an g0;rcases Q0 z hz with rfl |hz;exact s2.an g0;exact(u0.kv z hz).2.1.an g0;rcases Q0 z hz with rfl |hz;rw[A5];omega;exact(u0.kv z hz).2.2.1;rcases Q0 z hz with rfl |hz;rw[B5];omega;exact(u0.kv z hz).2.2.2;have k2:=QB k2;have g4:=ac6 (y:=y) k2;rw[aJ,ae,ag];refine af (λk8=>?_) (λk8=>?_);have k8:=R7 k8;have a6: -2<=t.side/\t.side<=7:=tP.1 (KE d1 ac).2.2.2.1;rw[(eS hO.cell).2.2.1,ae,(kR G2).2.1,ae,(kR G2).2.2.2.1,ae,yL,ae];obtain⟨nv,j4,k4,e0,y0,f91⟩:=QE (x:=⟨t.id,t.side⟩) hX hY sR ac (λf hf=>by rcases Qk.1 hf with rfl |hf;exact a6;exact(hP.zK f hf).2) (hP.zf.imp_of_mem λha hb h=>(Al (hP.zK _ ha).2 (hP.zK _ hb).2).1 h);apply aw k4;have y7:=e0.n;have cn:=y0.sl.cells
 refine bW OJ (e0.cells hO.cell) (by rw[cn];rfl) (by rw[cn];show 0+3+1<=5;decide) (by rw[cn];simp[y0.sl.one]) λH1 P2 r0 h0=>?_;have j0:∀c cs t g,j4.get c=.cells cs t g->t≠38->H1.get c=.cells cs t g:=λc cs t g F ht=>(h0 c λe=>by subst e;rw[e0.cells hO.cell]at F;cases F;exact ht rfl).trans F;refine hQ _ _ _ ⟨rfl,ac,⟨sv,nv,d0,by rw[r0,cn];rfl,?_,nY j0 tf (by rw[aaf hP a6 k8];exact y0.sl),?_⟩,ac,λc h1 h2=>by rw[h0 c h2,e0.get c ac,hO.fr c h1 h2]⟩;exact hO.kev (l0.trans g4.symm) λc cs t g F ht=>j0 c cs t g (e0.cells F) ht;have:C1 y t=y.mo:=(by unfold C1;rw[Od ac]);rw[this];exact nY j0 to (sM.an e0);have k8:=QB k8;have P0:vz y t=y.rc:=(by unfold vz;rw[Od λh=>k8 h.1]);rw[aJ,ae,ag];refine af (λk9=>?_) (λk9=>?_);have k9:=R7 k9;have z7:0<=t.other/\t.other<=99:=tP.1 (KE d1 ac).2.2.1;rw[(eS hO.cell).2.2.2.1,ae,(kR G2).2.1,ae,(kR G2).2.2.1,ae,(kR G2).2.2.2.2,ae,Sj,ae];have ok:∀z∈y.mo,0<=z.b/\z.b<=99:=λz hz=>(by have:=hP.IN z hz;omega);obtain⟨nv,j4,k4,e0,y0,f91⟩:=QC (x:=⟨t.id,t.other,t.dE⟩) hX hY sM ac (λf hf=>by grind) (hP.DS.imp_of_mem λha hb h=>(E2 (ok _ ha) (ok _ hb)).1 h);apply aw k4;have y7:=e0.n;have cn:=y0.sl.cells;refine bW Vn (e0.cells hO.cell) (by rw[cn];rfl) (by rw[cn];show 0+4+1<=5;decide) (by rw[cn];simp[y0.sl.one]) λH1 P2 r0 h0=>?_;have j0:∀c cs t g,j4.get c=.cells cs t g->t≠38->H1.get c=.cells cs t g:=λc cs t g F ht=>(h0 c λe=>by subst e;rw[e0.cells hO.cell]at F;cases F;exact ht rfl).trans F;refine hQ _ _ _ ⟨rfl,ac,⟨sv,p0,nv,by rw[r0,cn];rfl,?_,?_,nY j0 to (by rw[aeO hP z7 k9];exact y0.sl)⟩,ac,λc h1 h2=>by rw[h0 c h2,e0.get c ac,hO.fr c h1 h2]⟩;exact hO.kev (l0.trans g4.symm) λc cs t g F ht=>j0 c cs t g (e0.cells F) ht;rw[P0];exact nY j0 tf (sR.an e0);have k9:=QB k9;refine hQ _ _ _ ⟨rfl,A6,⟨sv,p0,d0,hO.cell,hO.kev (l0.trans g4.symm) λc cs t g F _=>F,by rw[P0];exact sR,?_⟩,nO,hO.fr⟩;have:C1 y t=y.mo:=(by unfold C1;rw[Od k9]);rw[this];exact sM;rintro _ d2 iT ⟨rfl,w2,⟨a,b,c,gE,⟨ke,A7,b6⟩,sb,sc⟩,nE,c6⟩;have T2:∀c,c < m3.n->d2.get c=m3.get c:=λc F=>(c6 c ac ac).trans (i0.get c F);rw[(eS gE).2.2.2.2,ae];have G3:d2.get m2.n=_:=(T2 m2.n ac).trans g3;have oE:(yc p q a b c).all one=true:=(by show(one p && (one q && (one a && (one b && (one c && true)))))=true;rw[o1,o2,b6.sl.one,sb.one,sc.one];rfl);refine aj oj G3 rfl rfl oE λi2 d9 d6 c3=>?_;have a8:i2.get m2.n=.cells (yc p q a b c) 38 none:=d6;rw[(eS a8).2.2.2.2,ae];have j2:∀c cs t g,d2.get c=.cells cs t g->t≠38->i2.get c=.cells cs t g:=λc cs t g F ht=>(c3 c λe=>by subst e;rw[G3]at F;cases F;exact ht rfl).trans F;have f6:∀c cs t g,s0.get c=.cells cs t g->t≠38->i2.get c=.cells cs t g:=λc cs t g F ht=>j2 c cs t g ((c6 c (M.aP F) λe=>by subst e;rw[gO]at F;cases F;exact ht rfl).trans F) ht;have d3:=B4.trans (R4.trans (j3.trans K1));have g6:sS i2 ⟨vs,ns,CV y t,vz y t,C1 y t⟩ p q a b c:=⟨⟨us,s6,(u6.an d3).aY λc cs t g F ht=>f6 c cs t g F be⟩,nY f6 tm (v6.an d3),⟨ke,A7,b6.aY λc cs t g F ht=>j2 c cs t g F be⟩,nY j2 tf sb,nY j2 to sc⟩
 refine KC (m:=m) (vs:=[yv p q a b c,.int .i64 0]) (Q:=λrv m'=>lI (tZ y t) m' rv) ac ⟨ac,λc F=>by rw[c3 c ac,T2 c ac,x3.get c F]⟩ (by rw[hD];exact⟨_,_,_,_,_,rfl,g6⟩) λhf=>?_;rw[hD];refine⟨_,_,_,_,_,rfl,?_⟩;have c1:((D.bN p && (D.bN q && (D.bN a && (D.bN b && (D.bN c && true))))) && (true && true))=true:=hf;simp only[De]at c1;exact g6.flat ⟨c1.1.1,c1.1.2.1,c1.1.2.2.1,c1.1.2.2.2.1,c1.1.2.2.2.2.1⟩ m
end
section
set_option maxRecDepth 100000
set_option maxHeartbeats 0
abbrev acq{W:Words}{x0 x1 x2:Φ}{m:M}{R:ν->M->Nat->Prop}:=cL (P:=fP TE W Tryz.f3 [x0,x1,x2] m R)
end
variable{im:Un->Un->Bool}{suits softer:Int->Int->Bool}{y:Yd}{t:Tk}
def gR.clear{us:List Un}{ms:List Mk}(h:gR us ms)(id:Int):gR (oU us id) (eL ms id):=by have F:(eL ms id).Sublist ms:=(by unfold eL;exact LF);refine⟨WA F.length_le h.len,h.zA.sublist F,λx H=>h.ok x (F.mem H),λx H=>?_⟩;have⟨u,hu,h1,h2⟩:=h.un x (F.mem H);refine⟨u,S7.2 ⟨hu,?_⟩,h1,h2⟩;have:=(S7.1 H).2;grind
def gR.more{us vs:List Un}{ms:List Mk}(h:gR us ms)(F:∀u∈us,u∈vs):gR vs ms:=
 ⟨h.len,h.zA,h.ok,λx H=>by have⟨u,hu,h1⟩:=h.un x H;exact⟨u,F u hu,h1⟩⟩
def Pv{l:List Ac}(hy:sU y)(ha:fK im suits softer y t=some l):(vz y t=y.rc/\(t.kind=8->(⟨t.id,t.side⟩:Fc)∈y.rc))\/(t.kind=8/\∃p q,y.rc=p++q/\vz y t=p++⟨t.id,t.side⟩::q/\(⟨t.id,t.side⟩:Fc)∉y.rc):=by unfold vz;by_cases e:t.kind=8/\(⟨t.id,t.side⟩:Fc)∉y.rc;rw[F6 e];refine .inr ⟨e.1,_,_,?_,rfl,e.2⟩;have key:∀l:List Fc,l.Pairwise jW->(⟨t.id,t.side⟩:Fc)∉l->l=(l.filter λf=>decide (jW f ⟨t.id,t.side⟩))++l.filter λf=>decide (jW ⟨t.id,t.side⟩ f):=(by intro l;induction l with|nil=>intro _ _;rfl|cons a r ih=>intro hp hn;have⟨h1,h2⟩:=T0.1 hp;have hr:=ih h2 λh=>hn (Wm _ h);have b0:a≠⟨t.id,t.side⟩:=λh=>hn (by rw[h];exact F3);rw[Oh,Oh];by_cases c:jW a ⟨t.id,t.side⟩;have c':¬jW ⟨t.id,t.side⟩ a:=(by unfold jW at c⊢;simp only[]at c⊢;omega);rw[F6 (Dk c),Od (by simpa using c'),GC,<-hr];have c':jW ⟨t.id,t.side⟩ a:=(by rcases a with⟨au,d0⟩;unfold jW at c⊢;simp only[ne_eq,Fc.mk.injEq]at c b0⊢;omega);have H:(r.filter λf=>decide (jW f ⟨t.id,t.side⟩))=[]:=(by rw[TU];intro f hf;have:=h1 f hf;have:¬jW f ⟨t.id,t.side⟩:=(by unfold jW at this c c'⊢;simp only[]at this c c'⊢;omega);simpa using this);have F:(r.filter λf=>decide (jW ⟨t.id,t.side⟩ f))=r:=(by rw[Lw];intro f hf;have:=h1 f hf;have:jW ⟨t.id,t.side⟩ f:=(by unfold jW at this c c'⊢;simp only[]at this c c'⊢;omega);simpa using this);rw[Od (by simpa using c),F6 (Dk c'),H,F];rfl);exact key y.rc hy.zf e.2;grind
def ab9{l:List Ac}(F:fK im suits softer y t=some l)(H:t.kind=8):mh y.us t.id t.side:=by unfold fK at F;grind
variable{X:aF}{m:M}
structure RecD(y:Yd)(t:Tk)(R:List Fc)(d:Nat):Prop where
 lo:∀i x,R[i]?=some x->i < d->y.rc[i]?=some x
 hi:∀i x,R[i]?=some x->d < i->y.rc[i-1]?=some x
 at_:∀x,R[d]?=some x->t.kind=8/\x=⟨t.id,t.side⟩/\(⟨t.id,t.side⟩:Fc)∉y.rc
 len:(R.length=y.rc.length/\R.length<=d)\/(R.length=y.rc.length+1/\d < R.length)
 has:t.kind=8->(⟨t.id,t.side⟩:Fc)∈R
def recD{y:Yd}{t:Tk}{l:List Ac}(H:sU y)(ha:fK rj cg bQ y t=some l):∃d,RecD y t (vz y t) d:=by rcases Pv H ha with⟨F,h2⟩|⟨k,p,q,F,h2,h3⟩;refine⟨y.rc.length,λi x h _=>be,λi x h hi=>?_,λx h=>?_,.inl ⟨by rw[F],be⟩,λk=>be⟩;grind;grind;refine⟨p.length,λi x h hi=>?_,λi x h hi=>?_,λx h=>?_,.inr ⟨be,be⟩,λ_=>be⟩;grind;grind;grind
def nD(d i:Nat):Nat:=if i<=d then i else i-1
def ae3{d i:Nat}:nD d i<=i:=by unfold nD;split <;>omega
def acS{a b:Fc}:bE TE .neq 52 a.v b.v=some (.bool (!decide (a=b))):=by have h:bE TE .neq 52 a.v b.v=some (.bool (!((a.un==b.un) && ((a.side==b.side) && true)))):=bv;rw[h];have⟨F,a2⟩:=a;have⟨H,b2⟩:=b;congr 2;grind
def H4{y z:Yd}{t:Tk}(h:tZ y t=some z):(∃l,fK rj cg bQ y t=some l)/\z.rc=vz y t:=by unfold tZ at h;split at h;unfold AT at h;split at h;cases h;rename_i l e;refine⟨⟨l,e⟩,?_⟩;obtain⟨p, -,rfl⟩:=Qp.1 h;rfl;cases h
def RI{us:List Un}(F:cq us){id side:Int}(h:mh us id side):∃u∈us,(⟨id,side⟩:Fc)∈fO u:=by rw[D6 F]at h;split at h;rename_i u e;exact⟨u,(fq e).1,R7 h⟩;cases h
set_option maxHeartbeats 4000000 in
theorem zE(hX:cp X)(A2:CK X)(hI:qU X)(hY:Ep X)(B2:Nr X)(hU:gC m)(o1:∀m1:M,Ext m m1->C X (.func 4) [] m1 m1.n HT m1){xs:List I6}{ks:List I4}{vb vk va:Φ}(hv:NB m xs vb)(G2:∀x∈xs,x.ok)(hlen:xs.length < 9223372036854775808)(hk:vt m ks vk)(y1:∀x∈ks,x.ok)(p1:ks.length < 9223372036854775808)(M2:one va=true)
  {ws:List I6} {vw:Φ} (hw:vt m ws vw) (A1:∀x∈ws,x.ok) (r1:ws.length < 9223372036854775808) {i0 i1 i2 i3 i4 i5:Int} (h0:nA i0) (h1:nA i1) (h2:nA i2) (h3:nA i3) (h4:nA i4) (h5:nA i5):
  C X (.func 3) [.agg #[vb,vk,va],vw,.agg #[.int .i64 i0,.int .i64 i1,.int .i64 i2,.int .i64 i3,.int .i64 i4,.int .i64 i5]] m m.n HT m:=by
 refine Cl.fG hX (MZ func3) ?_;rw[acq];dsimp only[aG];refine ah λm1 B3 B1 O2=>?_;refine ah λm2 G3 G1 H1=>?_;have x2:Ext m m2:=⟨ac,be⟩
 have g1:m2.get m.n=.cells [vb,vk,va] 25 none:=(H1 _ ac).trans B1;have g2:m2.get m1.n=.cells [.int .i64 i0,.int .i64 i1,.int .i64 i2,.int .i64 i3,.int .i64 i4,.int .i64 i5] 26 none:=G1;clear B1 O2 G1 H1;unfold ptrTo;refine aw (o1 m2 x2) ?_;rw[bC,ae,ag];show lR false _ _;rw[aT,show aC TE m2 25 (.pointer (some ⟨m.n,0,none⟩))=some (.agg #[vb,vk,va]) by rw[Km,aI (n:=3) g1 be];rfl,ae];obtain⟨y,r,r2,st,rc,mo,l,v,m9,c9,x9,hP,hV, -, -,O3,b4⟩:=aeQ (m:=m2) hX (hv.an x2) G2 hlen (hk.an x2) y1 p1 M2 (hw.an x2) A1 r1;refine aw c9 ?_;have n9:=x9.n;rw[aD,aD];simp only[Lf,S5,ae];refine ah λm13 l3 s0 K1=>?_;refine aj oj s0 rfl rfl hV.iH λm14 m3 u0 O1=>?_;have gY:m14.get m9.n=.cells (yc r r2 st rc mo) 38 none:=u0
 have l0:Ext m9 m14:=⟨ac,be⟩
 clear s0 K1 u0 O1;have T1:=hV.an l0;rw[(eS gY).2.2.2.2,ae,show aC TE m14 26 (.pointer (some ⟨m1.n,0,none⟩))=some (.agg #[.int .i64 i0,.int .i64 i1,.int .i64 i2,.int .i64 i3,.int .i64 i4,.int .i64 i5]) by rw[acX,aI (n:=6) ((x9.trans l0).cells g2) be];rfl,ae];have⟨t,w,m19,P2,u1,y0,c4⟩:=GL (m:=m14) hX T1 hP h0 h1 h2 h3 h4 h5;refine aw P2 ?_;have d4:=l0.n;have n19:=u1.n;refine ah λm21 n3 A0 a2=>?_;refine aj vE A0 rfl rfl (Tk.dz y0.one) λm22 o3 B0 b2=>?_;have gT:m22.get m19.n=.cells (t.c w) 46 none:=B0;have n0:Ext m19 m22:=⟨ac,be⟩
 clear A0 a2 B0 b2;have n22:=n0.n;have O0:=l0.trans (u1.trans n0);have P0:=(u1.trans n0).cells gY;rw[(eS P0).2.2.2.2,ae,kQ gT,ae];have c2:=x2.trans (x9.trans O0);have Q0:=hV.an O0;obtain⟨rv,d2,T2,o0,hR⟩:=Lb (m:=m22) hX A2 hI hY B2 (hU.an c2) Q0 hP (y0.an n0) ac;refine aw T2 ?_;have n27:=o0.n;obtain⟨a,b,c,d,e,k,rfl,ho,hS,hN⟩:=NF hR;rw[aD,aD];simp only[Lf,S5,ae];refine ah λe4 r3 a1 j2=>?_;refine aj oj a1 rfl rfl ho λm32 u3 b1 k2=>?_;have gN:m32.get d2.n=.cells (yc a b c d e) 38 none:=b1;have j0:Ext d2 m32:=⟨ac,be⟩
 clear a1 j2 b1 k2;have n32:=j0.n;have k0:=(o0.trans j0).cells P0;have d0:=(o0.trans j0).cells gT;have c1:=Q0.an (o0.trans j0);have f4:m.n<=m32.n:=ac
 rw[bY,ae,ag];refine af (λhk=>⟨rfl,ac⟩) (λhk=>?_)
 obtain⟨z,hz⟩:∃z,tZ y t=some z:=by
  cases hz:tZ y t with
  |none=>rw[hN hz]at hk;cases hk
  |some z=>exact⟨z,rfl⟩
 have b3:=(hS z hz).2.an j0;have⟨⟨al,l2⟩,c3⟩:=H4 hz;have⟨dd,hD⟩:=recD hP l2;rw[<-c3]at hD;obtain⟨R,d3⟩:∃R,R=z.rc:=⟨_,rfl⟩
 have sR:=b3.rc;rw[<-d3]at hD sR;have sC:=c1.rc;simp only[eK,dm,bO,bh,dC,cU,dh,ae];refine Lp.intro (γ:=Nat) (λi=>R.length-i) (λi vs H lo=>vs=[.int .i64 (nD dd i:Nat),IA,.int .i64 i]/\i<=R.length/\m32=H/\m.n<=lo) 0 ⟨by rw[show nD dd 0=0 from by unfold nD;simp];rfl,PS _,rfl,ac⟩ ?_;rintro i _ _ lo ⟨rfl,hi,rfl,w3⟩;rw[av,av,av,(eS gN).2.2.1,ae,sR.len eV,ak,aK,ae,ag];have y3:R.length<=10:=by have:=hD.len;omega
 have g3:=ae3 (d:=dd) (i:=i);refine af (λF=>?_) (λv1=>?_)
 ·have F:i < R.length:=be
  obtain⟨x,hx⟩:∃x,R[i]?=some x:=⟨_,Iy F⟩
  have⟨p,cs,e1,e2,e3⟩:=sR.index eV (k:=.i64) hx;obtain rfl:cs=x.c:=e3;have e2:aC TE m32 52 p=some x.v:=e2;refine aX (λvs H e0=>vs=[.int .i64 (nD dd (i+1):Nat),IA]/\m32=H/\m.n<=e0) (λQ hQ=>?_) ?_
  ·refine aX (λvs H e0=>vs=[.bool (!decide (i=dd))]/\m32=H/\m.n<=e0) (λQ2 p0=>?_) ?_
   ·rw[(eS k0).2.2.1,ae,sC.len eV,ak,aK,ae,ag];refine af (λc=>?_) (λc=>?_)
    ·have c:nD dd i < y.rc.length:=be
     obtain⟨x2,q0⟩:∃x2,y.rc[nD dd i]?=some x2:=⟨_,Iy c⟩
     have⟨p2,cs,f1,f2,f3⟩:=sC.index eV (k:=.i64) q0
     obtain rfl:cs=x2.c:=f3
     have f2:aC TE m32 52 p2=some x2.v:=f2
     rw[ae,e1,ae,e2,ae,ae,f1,ae,f2,ae,Hv,ae]
     refine p0 _ _ _ ⟨?_,rfl,ac⟩
     congr 2
     by_cases h:i=dd
     ·subst h;obtain⟨-,h2,h3⟩:=hD.at_ x hx;have:x2∈y.rc:=Vb q0;have:x≠x2:=λh=>h3 be;simp[this]
     ·have:x=x2:=by
       unfold nD at q0;split at q0;·have:=hD.lo i x hx ac;grind
       have:=hD.hi i x hx ac;grind
      simp[this,h]
    have c:¬nD dd i < y.rc.length:=be
    have:i=dd:=by
     refine Decidable.byContradiction λh=>c ?_;unfold nD;split;·exact(Zv.1 (hD.lo i x hx ac)).1
     exact(Zv.1 (hD.hi i x hx ac)).1
    exact p0 _ _ _ ⟨be,rfl,ac⟩
   rintro _ _ iT ⟨rfl,rfl,d1⟩;rw[av,ag];refine af (λc=>?_) (λc=>?_)
   ·rw[aL,ae,wrap64];have c:i≠dd:=be
    exact hQ _ _ _ ⟨by rw[show nD dd (i+1)=nD dd i+1 from by unfold nD;split <;>split <;>omega];rfl,rfl,ac⟩
   have c:i=dd:=be
   obtain⟨h8,g4, -⟩:=hD.at_ x (c ▸ hx);refine aX (λvs H e0=>vs=[IA]/\m32=H/\m.n<=e0) (λQ2 p0=>?_) ?_
   ·rw[(kR d0).1,ae,bY,ae,ag,h8];show lR false _ _;rw[aT,(eS gN).2.2.1,ae,e1,ae,e2,ae,(kR d0).2.1,ae,(kR d0).2.2.2.1,ae,yL,ae,acS,ae];exact p0 _ _ _ ⟨be,rfl,ac⟩
   rintro _ _ j4 ⟨rfl,rfl,o2⟩;rw[av,ag];show lR false _ _;rw[aT];exact hQ _ _ _ ⟨by rw[show nD dd (i+1)=nD dd i from by unfold nD;split <;>split <;>omega],rfl,ac⟩
  rintro _ _ iT ⟨rfl,rfl,d1⟩;rw[av,av,aL,ae,wrap64];exact⟨i+1,ac,rfl,ac,rfl,ac⟩
 obtain rfl:i=R.length:=be
 have j3:nD dd R.length=y.rc.length:=by
  have:=hD.len
  unfold nD
  grind
 rw[j3]at g3⊢;refine aX (λvs H e0=>vs=[IA]/\m32=H/\m.n<=e0) (λQ hQ=>?_) ?_
 ·rw[(eS k0).2.2.1,ae,sC.len eV,ak,bY,ae,ag]
  refine af (λc=>be) (λc=>?_)
  rw[ae,sR.len eV,ak,aL,ae,wrap64,cx,ae]
  refine hQ _ _ _ ⟨?_,rfl,ac⟩
  congr 2
  have:=hD.len
  exact QY ac
 rintro _ _ iT ⟨rfl,rfl,d1⟩;rw[av,ag];show lR false _ _;rw[aT,(kR d0).1,ae,bY,ae,ag];refine af (λc=>?_) (λc=>?_)
 ·have c:t.kind≠8:=be
  rw[(eS gN).2.2.1,ae,sR.len eV,ak,aJ,ae];refine⟨?_,ac⟩
  have:R.length=y.rc.length:=by
   rcases hD.len with h |h
   ·grind
   exact absurd (hD.at_ _ (Iy h.2)).1 c
  rw[this];show Value.bool (decide _)=_;rw[Dk rfl]
 have h8:t.kind=8:=be
 have⟨b0,j1,hF⟩:=c1.xK;have u2:cq (bI b0):=by rw[j1];exact hP.xK
 have k4:b0.length<=12:=by have:=u2.len;unfold bI at this;rwa[OG]at this
 obtain⟨f,hf⟩:∃f:Fc,f=⟨t.id,t.side⟩:=⟨_,rfl⟩
 have fT:∀{H:M},Ext m32 H->aC TE H 3 (.pointer (some ⟨m19.n,0+7,none⟩))=some (.int .i64 f.un)/\aC TE H 3 (.pointer (some ⟨m19.n,0+9,none⟩))=some (.int .i64 f.side):=λhx=>by subst hf;exact⟨(kR (hx.cells d0)).2.1,(kR (hx.cells d0)).2.2.2.1⟩
 have bF:bz TE 52 [(0,.int .i64 f.un),(1,.int .i64 f.side)]=some f.v:=yL;refine Lp.intro (γ:=Nat) (λi=>b0.length-i) (λi vs H lo=>vs=[.bool ((b0.take i).any λu=>decide (f∈fO u.u)),.int .i64 i]/\i<=b0.length/\Ext m32 H/\m.n<=lo) 0 ⟨rfl,PS _,.refl,ac⟩ ?_;rintro i _ H l4 ⟨rfl,hi,xm,o2⟩;have nm:=xm.n;have r0:=hF.an xm;rw[av,av,(yR (xm.cells k0)).2.1,ae,r0.sl.len cX,ak,aK,ae,ag];refine af (λF=>?_) (λv1=>?_)
 ·have F:i < b0.length:=be
  obtain⟨x,hx⟩:∃x,b0[i]?=some x:=⟨_,Iy F⟩
  have w1:=Vb hx;obtain⟨p,cs,e1,e2,rfl,e3⟩:=r0.sl.index cX (k:=.i64) hx;have e2:aC TE H 44 p=some x.v:=e2;rw[ae,e1,ae,e2,ae];have⟨k1,fv,v2,g0,l1⟩:=Hu (m:=H) hX (r0.sh x w1) (r0.ln x w1);refine aw v2 ?_;have n140:=g0.n
  have fl:(fO x.u).length<=10:=by
   have:=kc (u2.val x.u (FJ w1))
   unfold fO
   grind
  refine Lp.intro (γ:=Nat) (λk=>(fO x.u).length-k) (λk vs m' lo=>vs=[.bool (((b0.take i).any λu=>decide (f∈fO u.u)) ||decide (f∈(fO x.u).take k)),.int .i64 k]/\k<=(fO x.u).length/\k1=m'/\m.n<=lo) 0 ⟨co,PS _,rfl,ac⟩ ?_;rintro k _ _ k3 ⟨rfl,hk,rfl,w2⟩;rw[av,av,l1.sl.len eV,ak,aK,ae,ag];refine af (λF=>?_) (λv1=>?_)
  ·have F:k < (fO x.u).length:=be
   obtain⟨g,hg⟩:∃g,(fO x.u)[k]?=some g:=⟨_,Iy F⟩
   rw[ag];refine af (λc=>?_) (λc=>?_)
   ·rw[aL,ae,wrap64]
    refine⟨k+1,ac,?_,ac,rfl,ac⟩
    rw[QM,hg]
    simp only[Q9,FG]at c
    congr 2
    simp only[UJ,HN]
    grind
   ·have⟨q,cs,f1,f2,f3⟩:=l1.sl.index eV (k:=.i64) hg
    obtain rfl:cs=g.c:=f3
    have f2:aC TE k1 52 q=some g.v:=f2
    rw[f1,ae,f2,ae,(fT (xm.trans g0)).1,ae,(fT (xm.trans g0)).2,ae,bF,ae,Hv,ae,aL,ae,wrap64]
    refine⟨k+1,ac,?_,ac,rfl,ac⟩
    rw[QM,hg]
    congr 2
    simp only[UJ,HN,MV]
    grind
  obtain rfl:k=(fO x.u).length:=be
  rw[aL,ae,wrap64];refine⟨i+1,ac,?_,ac,xm.trans g0,ac⟩;rw[Jg,QM,hx];simp
 have y2:(b0.any λu=>decide (f∈fO u.u))=true:=by
  have⟨u,hu,h⟩:=RI hP.xK (ab9 l2 h8)
  rw[<-j1]at hu
  obtain⟨v,hv,rfl⟩:=Dc.1 hu
  grind
 obtain rfl:i=b0.length:=be
 rw[Jg,y2];have z2:=sR.an xm;refine Lp.intro (γ:=Nat) (λi=>R.length-i) (λi vs m' lo=>vs=[.bool (decide (f∈R.take i)),.int .i64 i]/\i<=R.length/\H=m'/\m.n<=lo) 0 ⟨co,PS _,rfl,ac⟩ ?_;rintro k _ _ k3 ⟨rfl,hk,rfl,w2⟩;rw[av,av,(eS (xm.cells gN)).2.2.1,ae,z2.len eV,ak,aK,ae,ag];refine af (λF=>?_) (λv1=>?_)
 ·have F:k < R.length:=be
  obtain⟨g,hg⟩:∃g,R[k]?=some g:=⟨_,Iy F⟩
  rw[ag];refine af (λc=>?_) (λc=>?_)
  ·rw[aL,ae,wrap64]
   refine⟨k+1,ac,?_,ac,rfl,ac⟩
   rw[QM,hg]
   simp only[FG]at c
   congr 2
   simp only[UJ,HN]
   grind
  ·have⟨q,cs,f1,f2,f3⟩:=z2.index eV (k:=.i64) hg
   obtain rfl:cs=g.c:=f3
   have f2:aC TE H 52 q=some g.v:=f2
   rw[ae,f1,ae,f2,ae,(fT xm).1,ae,(fT xm).2,ae,bF,ae,Hv,ae,aL,ae,wrap64]
   refine⟨k+1,ac,?_,ac,rfl,ac⟩
   rw[QM,hg]
   congr 2
   simp only[UJ,HN,MV]
   grind
 obtain rfl:k=R.length:=be
 rw[Jg,Dk (hf ▸ hD.has h8)];refine aX (λvs m' e0=>vs=[HT]/\H=m'/\m.n<=e0) (λQ hQ=>?_) ?_
 ·rw[ag];show lR true _ _;rw[bM];exact hQ _ _ _ ⟨rfl,rfl,ac⟩
 rintro _ _ m4 ⟨rfl,rfl,A3⟩;rw[av];exact⟨rfl,ac⟩
end Go.Proofs.YtjpegplpgihmdaaGreatDoor
namespace Go.D
open Go
variable{args:ν}
section
variable{E:Env}{call:aF}{n:Nat}
def flat:Code->List Code
 |.seq a b=>flat a++flat b
 |c=> [c]
def kV(f:Code->Fr->Option (Ex×Fr)):List Code->Fr->Option (Ex×Fr)
 |[],fr=>some (.normal,fr)
 |c::r,fr=>match f c fr with
  |some (.normal,fr)=>kV f r fr
  |r=>r
theorem yA(f:Code->Fr->Option (Ex×Fr)):∀(a b:List Code) (fr:Fr),kV f (a++b) fr=match kV f a fr with|some (.normal,fr)=>kV f b fr|r=>r
 |[],b,fr=>rfl
 |c::a,b,fr=>by(show(match f c fr with|some (.normal,fr)=>kV f (a++b) fr|r=>r)=match(match f c fr with|some (.normal,fr)=>kV f a fr|r=>r)with|some (.normal,fr)=>kV f b fr|r=>r);cases h:f c fr with|none=>rfl|some p=>have⟨e,F⟩:=p;cases e with|normal=>exact yA f a b F|exit id=>rfl|ret=>rfl
theorem yB:∀(c:Code) (fr:Fr),bH E call n c fr=kV (bH E call n) (flat c) fr
 |.seq a b,fr=>by
  rw[flat,yA,<-yB a fr];show(match bH E call n a fr with|some (.normal,fr)=>bH E call n b fr|r=>r)=_;cases h:bH E call n a fr with
  |none=>rfl
  |some p=>
   have⟨e,F⟩:=p;cases e with
   |normal=>exact yB b F
   |exit id=>rfl
   |ret=>rfl
 |.skip,fr=>iy _ fr
 |.region _ _ _,fr=>iy _ fr
 |.cond _ _ _,fr=>iy _ fr
 |.block _ _,fr=>iy _ fr
 |.loop _,fr=>iy _ fr
 |.exit _,fr=>iy _ fr
 |.ret,fr=>iy _ fr
 |.label _,fr=>iy _ fr
 |.goto _,fr=>iy _ fr
 |.rangeFunc _ _ _ _,fr=>iy _ fr
 |.scope _,fr=>iy _ fr
 |.refuse _,fr=>iy _ fr
where
 iy (c:Code) (fr:Fr):bH E call n c fr=kV (bH E call n) [c] fr:=by
  unfold kV;cases h:bH E call n c fr with
  |none=>rfl
  |some p=>
   have⟨e,F⟩:=p;cases e <;>rfl
def adg{f:Code->Fr->Option (Ex×Fr)}{l:List Code}{fr F:Fr}(a k:Nat)(h:kV f ((l.drop a).take k) fr=some (.normal,F)):kV f (l.drop a) fr=kV f (l.drop (a+k)) F:=by have e:l.drop a=(l.drop a).take k++l.drop (a+k):=(by rw[<-zP,Zd]);rw[e,yA,h]
def aeM{X:aF}{f:FuncId}{fn:Func}{c:Code}{m:M}{fr:Fr}{v:Φ}(F:X (.func f) args m=none)(H:E.fn.get f=some fn)(hb:fn.body=some c)(hle:Nat.ble args.length fn.ntmps)
  (he:bH E (bU E X n) n c {T:=enter args 0,m:={m with low:=m.n}}=some (.ret,fr)) (hr:result? E fn fr.T fr.m=some v) (hv:aZ v) (hl:Nat.ble m.n fr.m.low):bU E X (n+1) (.func f) args m=some (v,m):=by unfold bU;grind
end
section
variable{P:Program}
def Bw(X Y:aF):aF:=λf args m=>match X f args m with |some r=>some r |none=>Y f args m
def tB{X Y:aF}{f:Fn}{m:M}{r:Φ×M}(h:Bw X Y f args m=some r):X f args m=some r\/Y f args m=some r:=by unfold Bw at h;cases F:X f args m with|none=>rw[F]at h;exact .inr h|some H=>rw[F]at h;exact .inl h
def my{X Y:aF}(F:cM P X)(H:cM P Y):cM P (Bw X Y):=
 ⟨λf args m v m' h=>(tB h).elim (F.func f args m v m') (H.func f args m v m'),
  λl args m v m' h=>(tB h).elim (F.yield l args m v m') (H.yield l args m v m'),
  λf args m v m' h=>(tB h).elim (F.aY f args m v m') (H.aY f args m v m'),
  λa m v m' b h=>(tB h).elim (F.Nw a m v m' b) (H.Nw a m v m' b)⟩
def gH{X Y:aF}{f:Fn}{m:M}(F:X f args m=none)(H:Y f args m=none):Bw X Y f args m=none:=by unfold Bw;rw[F];exact H
end
end Go.D
namespace Go.Proofs.YtjpegplpgihmdaaGreatDoor
open Go Go.D Go.Proofs.Tryz
variable{m:M}
def wg:Nat->ν->Option (List Pl)
 |0,_=>some []
 |n+1,.int .i64 x::.int .i64 y::r=>match wg n r with |some l=>some (⟨x,y⟩::l) |none=>none
 |_+1,_=>none
def PH(m:M)(v:Φ):Option (List Pl):=
 match v with
 |.slice none 0 0=>some []
 |.slice (some a) n _=>match a.spot,m.get a.block with
  |none,.cells cs e _=>bif Nat.beq e 85 && Nat.ble (a.off+n*2) cs.length then wg n (cs.drop a.off)else none
  |_,_=>none
 |_=>none
theorem Bq:∀{n:Nat} {cs:ν} {l:List Pl},wg n cs=some l->l.length=n/\∀i p,l[i]?=some p->(cs.drop (i*2)).take 2=p.c
 |0,_,l,h=>by cases h;exact⟨rfl,λi p hi=>by cases hi⟩
 |n+1,cs,l,h=>by unfold wg at h;split at h;omega;rename_i n' x y r H;(cases H;cases F:wg n r with|none=>rw[F]at h;cases h|some l'=>rw[F]at h;cases h;have⟨h1,h2⟩:=Bq F;refine⟨be,λi p hi=>?_⟩;match i with|0=>cases hi;rfl|i+1=>grind);cases h
def acZ{v:Φ}{l:List Pl}(h:PH m v=some l):Sl m l v:=by unfold PH at h;split at h;cases h;exact .inl ⟨rfl,rfl⟩;rename_i a n c;split at h;rename_i cs e g F hg;(cases H:(Nat.beq e 85 && Nat.ble (a.off+n*2) cs.length)with|false=>rw[H]at h;cases h|true=>rw[H,gc]at h;rw[De]at H;obtain rfl:=NN H.1;have hle:=IG H.2;have⟨h1,h2⟩:=Bq h;have⟨ab,ao,sp⟩:=a;have F:sp=none:=F;subst F;refine .inr ⟨ab,ao,c,cs,g,by rw[h1],hg,by rw[h1];exact hle,λi p hi=>?_⟩;have:=h2 i p hi;rw[zP]at this;exact this);cases h;cases h
def J7:cp Wy:=⟨λ_ _ _ _=>rfl⟩
def uL(m:M):ν->Option (List (List Pl))
 |[]=>some []
 |v::r=>match PH m v,uL m r with
  |some l,some ls=>bif Nat.ble l.length 1000 then some (l::ls)else none
  |_,_=>none
def Z4(k:Nat)(g:List (List Pl)->Option Bool):aF:=λfn args m=>
 match fn with
 |.func f=>bif Nat.beq f k then(match uL m args with
  |some ls=>(match g ls with |some b=>some (.bool b,m) |none=>none)
  |none=>none)else none
 |_=>none
def tA{k:Nat}{g:List (List Pl)->Option Bool}{fn:Fn}{args:ν}{r:Φ×M}(h:Z4 k g fn args m=some r):fn=.func k/\∃ls b,uL m args=some ls/\g ls=some b/\r=(.bool b,m):=by unfold Z4 at h;split at h;rename_i f;(cases F:Nat.beq f k with|true=>obtain rfl:=NN F;grind|false=>rw[F]at h;cases h);cases h
def PJ{k:Nat}{g:List (List Pl)->Option Bool}(hg:∀(m:M) args ls b,uL m args=some ls->g ls=some b->C Wy (.func k) args m m.n (.bool b) m)(hk:Nat.beq CU k=false):cM Tryz.prog (Z4 k g):=by refine⟨λf args m v m' F σ w H hs hl=>?_,λl args m v m' F=>(by cases (tA F).1),λf args m v m' F=>?_,λa m v m' b F=>by have:=(tA F).1;simp_all⟩;have⟨e,ls,b,h1,h2,h3⟩:=tA F;cases e;cases h3;have hc:=Cl.calls ai.ok Wx (hg m args ls b h1 h2) hs hl;exact⟨hc.1.mono λe w' h=>h.flat hs rfl,hc.2⟩;obtain⟨-,ls,b, -, -,h3⟩:=tA F;cases h3;exact LK.refl
abbrev PI:aF:=Bw (Z4 90 λ|[l]=>some (bP l) |_=>none) (Z4 192 λ|[a,b]=>some (hH a b) |_=>none)
def kj{v:Φ}{r:ν}{ls:List (List Pl)}(h:uL m (v::r)=some ls):∃l F,ls=l::F/\Sl m l v/\l.length<=1000/\uL m r=some F:=by unfold uL at h;split at h;rename_i l F h1 h2;(cases H:Nat.ble l.length 1000 with|false=>rw[H]at h;cases h|true=>rw[H]at h;cases h;exact⟨_,_,rfl,acZ h1,IG H,h2⟩);cases h
def Me:cM Tryz.prog PI:=my
 (PJ (λm args ls b h hb=>by
  match args with
  |[]=>cases h;cases hb
  |[v]=>
   obtain⟨l,ks,rfl,H,h2,F⟩:=kj h;cases F;cases hb;exact lV J7 H ac
  |_::_::_=>
   obtain⟨l,ks,rfl,H,h2,F⟩:=kj h;obtain⟨l,ks,rfl,H,h2,F⟩:=kj F;cases hb) rfl)
 (PJ (λm args ls b h hb=>by
  match args with
  |[]=>cases h;cases hb
  |[v]=>
   obtain⟨l,ks,rfl,H,h2,F⟩:=kj h;cases F;cases hb
  |[v,w]=>
   obtain⟨l,ks,rfl,H,h2,F⟩:=kj h;obtain⟨k,kt,rfl,h4,h5,h6⟩:=kj F;cases h6;cases hb;exact rL J7 H h4 ac ac
  |_::_::_::_=>
   obtain⟨l,ks,rfl,H,h2,F⟩:=kj h;obtain⟨l,ks,rfl,H,h2,F⟩:=kj F;obtain⟨l,ks,rfl,H,h2,F⟩:=kj F;cases hb) rfl)
end Go.Proofs.YtjpegplpgihmdaaGreatDoor
namespace Go.D
open Go
variable{a b:Φ}{args':Array Φ}
variable{P:Program}{σ:Sg}{m m':M}{w w':World}
def bytes?:ν->Option (List UInt8)
 |[]=>some []
 |.int .u8 x::r=>bif decide (0<=x) && decide (x<=255)then match bytes? r with |some l=>some (UInt8.ofNat x.toNat::l) |none=>none else none
 |_=>none
theorem Cy:∀{vs:ν} {l:List UInt8},bytes? vs=some l->vs=Lib.byteCells l
 |[],l,h=>by cases h;rfl
 |v::r,l,h=>by unfold bytes? at h;split at h;grind;rename_i x r' H;(cases H;cases F:(decide (0<=x) && decide (x<=255))with|false=>rw[F]at h;cases h|true=>rw[F,gc]at h;rw[De,FG,FG]at F;split at h;rename_i l' hl;cases h;have hx:((UInt8.ofNat x.toNat).toNat:Int)=x:=(by rw[UInt8.toNat_ofNat'];grind);rw[Cy hl];simp only[Lib.byteCells,Tz,hx];cases h);cases h
def ccX(T:Nat)(args:ν)(m:M):Option (Φ×M):=
 match args with
 |[.pointer (some a)]=>
  match m.get a.block with
  |.cells [.pointer none,s] e none=>bif Nat.beq e T && Nat.beq a.off 0 && a.spot.isNone then some (.tuple #[],m.set a.block (.cells [.pointer (some a),s] e none))else none
  |.cells [.pointer (some F),_] e none=>bif Nat.beq e T && Nat.beq a.off 0 && a.spot.isNone && Nat.beq F.block a.block && Nat.beq F.off 0 && F.spot.isNone then some (.tuple #[],m)else none
  |_=>none
 |_=>none
def Ih(T U:Nat)(args:ν)(m:M):Option (Φ×M):=
 match args with
 |[.pointer (some a)]=>
  match m.get a.block with
  |.cells [_,.slice none 0 0] e none=>bif Nat.beq e T && Nat.beq a.off 0 && a.spot.isNone then some (.string ⟨#[]⟩,m)else none
  |.cells [_,.slice (some r) n c] e none=>
   bif Nat.beq e T && Nat.beq a.off 0 && a.spot.isNone && Nat.beq r.off 0 && r.spot.isNone && Nat.ble 1 n && Nat.ble n c then
    match m.get r.block with
    |.cells cs F _=>
     bif Nat.beq F U && Nat.ble n cs.length && Nat.ble n 1048576 then
      match bytes? (cs.take n)with
      |some l=>some (.string ⟨l.toArray⟩,m.set r.block .dead)
      |none=>none
     else none
    |_=>none
   else none
  |_=>none
 |_=>none
structure HW where
 cc:Nat
 st:Nat
 T:Nat
 U:Nat
variable{N:HW}
def Ju(N:HW):aF:=λfn args m=>
 match fn with
 |.func f=>bif Nat.beq f N.cc then ccX N.T args m else bif Nat.beq f N.st then Ih N.T N.U args m else none
 |_=>none
def rK(b:Nat):Φ:=.pointer (some ⟨b,0,none⟩)
structure HV(P:Program)(N:HW):Prop where
 Fv:∀f,(f=N.cc\/f=N.st)->∀args w,(callFunc f args).run P w=.ok (.enter f args) w
 fresh:∀(b:Nat) (w:World),w.cell? ⟨b,0,none⟩=some (.pointer none)->w.shape? b=some (N.T,2)->w.frozen? ⟨b,0,none⟩=false->
  Calls P N.cc #[rK b] w λe w'=>e=.returned (.tuple #[])/\w'=w.setCell ⟨b,0,none⟩ (rK b)
 used:∀(b:Nat) (w:World),w.cell? ⟨b,0,none⟩=some (rK b)->Calls P N.cc #[rK b] w λe w'=>e=.returned (.tuple #[])/\w'=w
 Vq:∀(b:Nat) (p:Φ) (w:World),w.heap[b]?=some (.cells #[p,.slice none 0 0] N.T (0,0))->Calls P N.st #[rK b] w λe w'=>e=.returned (.string ⟨#[]⟩)/\w'.heap=w.heap/\w'.os=w.os/\w'.tape=w.tape/\w'.output=w.output
 str:∀(b g c:Nat) (p:Φ) (cur:Array Φ) (l:List UInt8) (w:World),w.heap[b]?=some (.cells #[p,.slice (some ⟨g,0,none⟩) l.length c] N.T (0,0))->w.heap[g]?=some (.cells cur N.U (0,0))->l≠ []->l.length<=c->l.length<=cur.size->l.length<=1048576->
  cur.toList.take l.length=Lib.byteCells l->Calls P N.st #[rK b] w λe w'=>e=.returned (.string ⟨l.toArray⟩)/\(∀B,B≠g->w'.heap[B]?=w.heap[B]?)/\w'.heap.size=w.heap.size/\w'.os=w.os/\w'.tape=w.tape/\w'.output=w.output
def EV(hl:bL σ [a] args'.toList):∃F,args'= #[F]/\bs σ a F:=by have⟨F,l1,h1,ha,H⟩:=hl.cases;have:=H.nil_eq;grind
def OM(hl:bL σ [a,b] args'.toList):∃F H,args'= #[F,H]/\bs σ a F/\bs σ b H:=by have⟨F,l1,h1,ha,b0⟩:=hl.cases;have⟨H,l2,h2,hb,d0⟩:=b0.cases;have:=d0.nil_eq;grind
def sZ{row:Array Φ}(h:bL σ [a,b] (row.toList.take 2))(hs:row.size=2):∃F H,row= #[F,H]/\bs σ a F/\bs σ b H:=by have e:row.toList.take 2=row.toList:=OO be;rw[e]at h;exact OM h
def Af{v:Φ}(F:bs σ v v)(H:eU P σ m w)(h:Ev P σ m w σ m' w'):dP P σ m w v m' (.returned v) w':=⟨v,σ,rfl,F,h⟩
def cc_ok(K:HV P N){args:ν}{v:Φ}(h:ccX N.T args m=some (v,m'))(hs:eU P σ m w){args':Array Φ}(hl:bL σ args args'.toList):Calls P N.cc args' w (dP P σ m w v m'):=by unfold ccX at h;split at h;rename_i a;obtain⟨x',rfl,hx⟩:=EV hl;obtain⟨i,hi,h0,rfl⟩:=hx.fW;split at h;rename_i s e hg;(cases H:(Nat.beq e N.T && Nat.beq a.off 0 && a.spot.isNone)with|false=>rw[H]at h;cases h|true=>rw[H,gc]at h;cases h;simp only[De]at H;have⟨⟨c1,c2⟩,_⟩:=H;obtain rfl:=NN c1;have c2:=NN c2;rw[c2];have⟨row,F,i0,b0,e0,d0⟩:=hs.cells hi hg;obtain⟨p',s',rfl,hp,j0⟩:=sZ b0 d0;have:=hp.bK rfl;subst this;refine(K.fresh i.dK w (by simp[World.cell?,F]) (by simp[World.shape?,F]) (by simp[World.frozen?,F])).mono ?_;rintro en w2 ⟨rfl,rfl⟩;have k0:∀B,(w.setCell ⟨i.dK,0,none⟩ (rK i.dK)).heap[B]?=if B=i.dK then some (.cells #[rK i.dK,s'] N.T (0,0))else w.heap[B]?:=(by intro B;simp only[World.setCell,Hg];grind);refine Af .undef hs (Ev.write hs hi be ?_ (λB hB=>be) dg rfl rfl rfl);refine⟨#[rK i.dK,s'],be,co,⟨rfl,λj u u' hu l0=>?_⟩,e0,rfl⟩;match j with|0=>cases hu;have:rK i.dK=u':=be;rw[<-this];have:=bs.ptr a i hi h0;rw[c2]at this;exact this|1=>grind|j+2=>simp at hu);rename_i a' s e hg;(cases H:(Nat.beq e N.T && Nat.beq a.off 0 && a.spot.isNone && Nat.beq a'.block a.block && Nat.beq a'.off 0 && a'.spot.isNone)with|false=>rw[H]at h;cases h|true=>rw[H,gc]at h;cases h;simp only[De]at H;have⟨⟨⟨⟨⟨c1,c2⟩,_⟩,c4⟩,c5⟩,_⟩:=H;have c2:=NN c2;have c4:=NN c4;have c5:=NN c5;rw[c2];have⟨row,F,i0,b0,e0,d0⟩:=hs.cells hi hg;obtain⟨p',s',rfl,hp,j0⟩:=sZ b0 d0;obtain⟨i',g0,_,rfl⟩:=hp.fW;rw[c4,hi]at g0;cases g0;refine(K.used i.dK w (by simp[World.cell?,F,c5,rK])).mono ?_;rintro en w2 ⟨rfl,rfl⟩;exact Af .undef hs (.refl hs));cases h;cases h
def OW(K:HV P N){a:Addr}{v:Φ}{b:Nat}(h:Ih N.T N.U [.pointer (some a)] m=some (v,m'))(hb:uD m a=some b):
  m.get b≠.dead/\m'=m.set b .dead/\∀σ w (args':Array Φ),eU P σ m w->bL σ [.pointer (some a)] args'.toList->
   ∃i,σ b=some i/\Calls P N.st args' w λe w'=>dP P σ m w v m' e w'/\∀B,B≠i.dK->w'.heap[B]?=w.heap[B]?:=by unfold Ih at h;dsimp only at h;unfold uD at hb;split at h;grind;rename_i p r n c e hg;rw[hg]at hb;cases hb;rw[cond_eq_ite]at h;split at h;rename_i hc;simp only[De]at hc;have⟨⟨⟨⟨⟨⟨c1,c2⟩,_⟩,c4⟩,c5⟩,c6⟩,c7⟩:=hc;have c7:=IG c7;obtain rfl:=NN c1;have c2:=NN c2;have c4:=NN c4;have c6:=IG c6;split at h;rename_i cs e' g d0;rw[cond_eq_ite]at h;split at h;rename_i hd;simp only[De]at hd;have⟨⟨d1,d2⟩,d3⟩:=hd;obtain rfl:=NN d1;have d2:=IG d2;have d3:=IG d3;split at h;rename_i l e0;cases h;have H:=Cy e0;have hlen:l.length=n:=(by have:=congrArg List.length H;rw[Lib.byteCells_length,Zu]at this;omega);refine⟨be,rfl,λσ w args' hs hl=>?_⟩;obtain⟨x',rfl,hx⟩:=EV hl;obtain⟨i,hi,q0,rfl⟩:=hx.fW;rw[c2];have⟨row,r0,s0,g0,u0,h0⟩:=hs.cells hi hg;obtain⟨p',s',rfl,hp,i0⟩:=sZ g0 h0;obtain⟨j,a',c',hj,rfl,j0⟩:=i0.ee;have k0:a'=⟨j.dK,r.off,none⟩/\c<=c':=(by grind);obtain⟨rfl,y0⟩:=k0;have⟨cur,l0,A0,n0,B0⟩:=hs.cells hj d0;have b0:cur.toList.take l.length=Lib.byteCells l:=(by rw[<-H,hlen];have e1:(cur.toList.take cs.length).take n=cs.take n:=(by apply Mh;intro k;by_cases hk:k<n;rw[Ph hk,Ph hk];have F:k<cs.length:=ac;have⟨u,o0,p0⟩:=n0.get (Iy F);rw[o0,Iy F];have:bN cs[k]:=(by have e2:cs[k]?=(Lib.byteCells l)[k]?:=be;rw[Iy F]at e2;unfold Lib.byteCells at e2;rw[OB,Iy ac]at e2;simp only[O6,T7]at e2;rw[e2];rfl);rw[p0.bK this];grind);grind);refine⟨j,hj,(K.str i.dK j.dK c' p' cur l w be l0 (λq=>be) ac ac ac b0).mono ?_⟩;rintro en w2 ⟨rfl,h1,h2,h3,h4,h5⟩;exact⟨Af (.flat _ rfl) hs (Ev.write hs hj be trivial h1 h2 h3 h4 h5),h1⟩;cases h;cases h;cases h;cases h;cases h
def ZZ(K:HV P N){args:ν}{v:Φ}(h:Ih N.T N.U args m=some (v,m'))(F:eU P σ m w){args':Array Φ}(hl:bL σ args args'.toList):Calls P N.st args' w (dP P σ m w v m'):=by have h0:=h;unfold Ih at h;split at h;rename_i a;split at h;rename_i p e hg;rw[cond_eq_ite]at h;split at h;rename_i H;cases h;simp only[De]at H;have⟨⟨c1,c2⟩,_⟩:=H;obtain⟨x',rfl,hx⟩:=EV hl;obtain⟨i,hi,i0,rfl⟩:=hx.fW;obtain rfl:=NN c1;have c2:=NN c2;rw[c2];have⟨row,b0,j0,d0,k0,e0⟩:=F.cells hi hg;obtain⟨p',s',rfl,hp,g0⟩:=sZ d0 e0;have:=g0.bK rfl;subst this;refine(K.Vq i.dK p' w b0).mono ?_;rintro en w2 ⟨rfl,h1,h2,h3,h4⟩;exact Af (.flat _ rfl) F (.of_heap F h1 h2 h3 h4);cases h;rename_i p r n c e hg;obtain⟨_,_,h3⟩:=OW K h0 (b:=r.block) (by unfold uD;rw[hg]);have⟨i,_,H⟩:=h3 σ w args' F hl;exact H.mono λe w' q=>q.1;cases h;cases h
def abo{T:Nat}{args:ν}{v:Φ}(h:ccX T args m=some (v,m')):LK m m':=by unfold ccX at h;split at h;split at h;rename_i F;rw[cond_eq_ite]at h;split at h;cases h;exact LK.set (λr q=>be);cases h;rw[cond_eq_ite]at h;split at h;cases h;exact LK.refl;cases h;cases h;cases h
def LO{T U:Nat}{args:ν}{v:Φ}(h:Ih T U args m=some (v,m')):LK m m':=by unfold Ih at h;split at h;split at h;rw[cond_eq_ite]at h;split at h;cases h;exact LK.refl;cases h;rw[cond_eq_ite]at h;split at h;split at h;rename_i F;rw[cond_eq_ite]at h;split at h;split at h;cases h;exact LK.set (λr q=>be);cases h;cases h;cases h;cases h;cases h;cases h
def Nn(N:HW):iJ (Ju N):=by intro f args m v m' h;unfold Ju at h;cases f with|func f=>dsimp only at h;simp only[cond_eq_ite]at h;split at h;exact abo h;split at h;exact LO h;cases h|_=>cases h
def U2(K:HV P N)(b0:N.st=CU)(d0:Nat.beq CU N.cc=false):cM P (Ju N):=by refine⟨λf args m v m' H σ w F hs hl=>?_,λl args m v m' H=>by simp[Ju]at H,Nn N,λa m v m' b H hb=>?_⟩;rotate_left;have h2:Nat.beq CU N.st:=dg;simp only[Ju,d0,h2,sI,gc]at H;have⟨q1,q2,q3⟩:=OW K H hb;refine⟨q1,q2,λσ w F hs hl=>?_⟩;have⟨i,hi,hc⟩:=q3 σ w F hs hl;rw[b0]at hc;exact⟨i,hi,callsIn_wide.2 hc,by have:=K.Fv N.st (.inr rfl) F w;rw[b0]at this;exact this⟩;unfold Ju at H;dsimp only at H;cases h1:Nat.beq f N.cc with|true=>obtain rfl:=NN h1;rw[h1,gc]at H;exact⟨callsIn_wide.2 (cc_ok K H hs hl),K.Fv _ (.inl rfl) _ _⟩|false=>rw[h1,sI]at H;cases h2:Nat.beq f N.st with|true=>obtain rfl:=NN h2;rw[h2,gc]at H;exact⟨callsIn_wide.2 (ZZ K H hs hl),K.Fv _ (.inr rfl) _ _⟩|false=>rw[h2]at H;cases H
inductive JF
 |val (v:Φ)
 |row (l:ν) (t:Nat)
def Hk(k:Nat)(g:ν->Option JF):aF:=λfn args m=>
 match fn with
 |.func f=>bif Nat.beq f k then(match g args with
  |some (.val v)=>some (v,m)
  |some (.row l t)=>some (.slice (some ⟨m.n,0,none⟩) l.length l.length,m.push (.cells l t none))
  |none=>none)else none
 |_=>none
def ZE(w:World)(e:Ending)(w':World):JF->Prop
 |.val v=>aZ v=true/\e=.returned v/\(∀B,B < w.heap.size->w'.heap[B]?=w.heap[B]?)/\w.heap.size<=w'.heap.size/\w'.os=w.os/\w'.tape=w.tape/\w'.output=w.output
 |.row l t=>l.all bN=true/\e=.returned (.slice (some ⟨w.heap.size,0,none⟩) l.length l.length)/\w'=w.alloc (.cells l.toArray t)
structure K7(P:Program)(k:Nat)(g:ν->Option JF):Prop where
 Fv:∀args w,(callFunc k args).run P w=.ok (.enter k args) w
 flat:∀args r,g args=some r->args.all bN=true
 go:∀args r w,g args=some r->Calls P k args.toArray w λe w'=>ZE w e w' r
theorem bL.Ci:∀{l H:ν},bL σ l H->l.all bN->H=l
 |[],_,h,_=>h.nil_eq
 |v::r,_,h,F=>by obtain⟨v',l1,rfl,hv,hl⟩:=h.cases;rw[H7,De]at F;rw[hv.bK F.1,hl.Ci F.2]
def Fm{k:Nat}{g:ν->Option JF}(K:K7 P k g)(hk:Nat.beq CU k=false):cM P (Hk k g):=by
 refine⟨λf args m v m' F σ w H hs hl=>?_,λl args m v m' F=>by simp[Hk]at F,λf args m v m' F=>?_,λa m v m' b F=>by simp only[Hk,hk,sI]at F;cases F⟩;unfold Hk at F;dsimp only at F;(cases h1:Nat.beq f k with|false=>rw[h1]at F;cases F|true=>obtain rfl:=NN h1;rw[h1,gc]at F;refine⟨callsIn_wide.2 ?_,K.Fv H w⟩;cases hg:g args with|none=>rw[hg]at F;cases F|some r=>rw[hg]at F;obtain rfl:H=args.toArray:=UF (hl.Ci (K.flat _ _ hg));refine(K.go args r w hg).mono λe w2 hr=>?_;cases r with|val u=>cases F;obtain⟨hf,rfl,h2,h3,h4,h5,h6⟩:=hr;exact⟨v,σ,rfl,.gI hf,Ev.kept hs h2 h3 h4 h5 h6⟩|row l t=>cases F;obtain⟨hf,rfl,rfl⟩:=hr;have d0:=Ev.tI (ob:=.cells l t none) (o:=.cells l.toArray t) (gr:=none) hs ⟨_,heap_alloc_new w _,co,⟨co,λj u u' hu b0=>by rw[OO co]at b0;simp only at b0;rw[hu]at b0;cases b0;exact .flat _ (Jo.1 hf u (Vb hu))⟩,rfl,co⟩;exact⟨_,_,rfl,.slice ⟨m.n,0,none⟩ ⟨w.heap.size,none⟩ _ _ (by unfold Sg.add;rw[F6 rfl]) rfl rfl,d0⟩);unfold Hk at F;cases f with|func f=>dsimp only at F;rw[cond_eq_ite]at F;split at F;split at F;cases F;exact LK.refl;cases F;exact LK.push;cases F;cases F|_=>cases F
