/- works.putBack, come: what a .. -/
import Derived.Test.YthffgohpkjpkbaaGreatDoorG10J
import Derived.Lib.UnsafeStr
set_option maxHeartbeats 1000000
set_option linter.defProp false
set_option maxRecDepth 100000
noncomputable section
namespace Go.Proofs.YthffgohpkjpkbaaGreatDoor
open Go Go.D Go.Proofs.Tryz
variable{m m':M}{t:Tk}{T:TypeId}{F H b i:Nat}
section
variable {X:aF} {m:M}
def Gw{D:Option (List Ac)}{v t:O}{lo:Nat}{Q:Prop}(H:Q)(h:oD D m' (.tuple #[v,t]))(F:m.n<=lo)(hx:Ext m m'):
  (aZ (aP [v,t])/\m.n<=lo/\(Q/\Ext m m/\oD D m (aP [v,t])))\/((aZ (aP [v,t])=false\/lo<m.n)/\(min m.n lo=m.n/\Ext m m'/\oD D m' (aP [v,t]))):=by show(aZ (.tuple #[v,t])/\m.n<=lo/\(Q/\Ext m m/\oD _ m (.tuple #[v,t])))\/((aZ (.tuple #[v,t])=false\/lo<m.n)/\(min m.n lo=m.n/\Ext m m'/\oD _ m' (.tuple #[v,t])));cases hf:aZ (.tuple #[v,t]);grind;exact .inl ⟨rfl,F,H,.refl,h.flat hf m⟩
def LH(st:List Kp)(id:Int):Option (List Ac):=(st.find? λk=>decide (k.un.id=id)).map λk=>eE k.un::k.ms.map iK
def EN(F:cp X){l:List Pl}{v:O}(H:Sl m l v)(hs:l.length<=1000000):∃v' m',xw X 53 [v] m v' m'/\Ext m m'/\mc m.n m' l v':=
 qm zu (F.no _ rfl) (U5 func53) rfl Z2 bv (λ_ _ _=>bv) (λ_=>bv) H hs
def PT{α:Type}[aL α]{l:List α}{v:O}(h:Sl m l v):cells v=[v]/\one v:=⟨h.cells,h.one⟩
set_option maxHeartbeats 2000000 in
theorem Jc(hX:cp X){y:Yd}{r r2 st rc mo:O}(hV:rR m y r r2 st rc mo)(hP:mS y)(id:Int):
  ∃rv m',xw X 132 [yv r r2 st rc mo,.int .i64 id] m rv m'/\Ext m m'/\oD (LH y.st id) m' rv:=by
 have r1:=hV.iy;obtain⟨-, -,⟨kl,s0,hK⟩, -, -⟩:=hV;have a2:kl.length<=12:=(by have:=hP.PH;rwa[<-s0,kE]at this);apply Cl.Iz hX (U5 func132);obtain⟨D,hD⟩:∃D,D=LH y.st id:=⟨_,rfl⟩;rw[<-hD];unfold LH at hD;rw[F132];dsimp only[aH];refine ah λm13 k2 u1 v1=>?_;have H:Ext m m13:=⟨Z,v1⟩;have g1:m13.get m.n=.cells (yc r r2 st rc mo) 37 none:=u1;unfold ptrTo;rw[(eU g1).2.2.2.2,Y];have F:=hK.ak H;apply aw (Bi (y:=y) hX F.sl Z r1 _);have e0:∀p:KW->Bool,(∀x,p x=decide (x.u.id=id))->(y.st.find? λk=>decide (k.un.id=id))=(kl.find? p).map KW.k:=λp hp=>(by rw[<-s0];unfold vP;rw[List.find?_map];congr 2;funext x;exact(hp x).symm);rcases iG (λx:KW=>decide (x.u.id=id)) kl with⟨e1,e2⟩ |⟨i,x,e1,e2,e3,e4⟩;rw[e1,aK,Y,ag,RO ce,bN];have:kl.find? (λx:KW=>decide (x.u.id=id))=none:=Io.2 λx hx=>J;rw[e0 _ λ_=>rfl,this]at hD;exact Gw (by first |rfl |trivial) (by rw[hD];exact⟨_,rfl⟩) Z H;rw[e0 _ λ_=>rfl,xT e2 e3 e4]at hD;have hD:D=some (eE x.u::x.ms.map iK):=hD;have l0:=QP e2;simp only[dF,bW,dC,bA,Y];rw[e1,aK,Y,ag,CX,aT,(eU g1).2.1,Y];have⟨b0,o0,bc,g0,cs,q1,q2,q3,q4,q5⟩:=F.sl.iI eR (k:=.i64) e2;obtain⟨rfl,o1,o2⟩:cs=x.c/\one x.w=true/\one x.mv=true:=q3;have l2:=M.aM q2;rw[q1,Y,bW,Y];have q4:o0+7<=bc.length:=q4;have lu:aC TE m13 43 (.pointer (some ⟨b0,o0+0,none⟩))=some (x.u.v x.w):=(by rw[oO,aI (n:=6) q2 Z];have:(bc.drop (o0+0)).take 6=x.u.c x.w:=(by apply Xx;intro j;rw[Rz];split;rename_i hj;rw[Sa,OX,q5 j (by show j < 7;omega)];(match j,hj with|0,_=>rfl|1,_=>rfl|2,_=>rfl|3,_=>rfl|4,_=>rfl|5,_=>rfl|j+6,hj=>omega);rename_i hj;exact(JQ J).symm);rw[this];rfl);rw[lu,Y];refine ah λm12 b2 u0 w1=>?_;refine aj dO u0 rfl rfl (Un.dp o1) λm14 c2 y0 d2=>?_;have gu:m14.get m13.n=.cells (x.u.c x.w) 43 none:=y0;have n0:Ext m13 m14:=⟨Z,J⟩;rw[(kS gu).2.2.2.1,Y];have A0:=F.ln x l0;obtain⟨w',m18,y1,p0,B0⟩:=EN (m:=m14) hX ((F.sh x l0).ak n0) Z;apply aw y1;have hw:=PT B0.sl;have G1:=p0.cells gu;refine bS uN G1 (by rw[hw.1];rfl) J (by rw[hw.1];simp[hw.2]) λm21 g2 O0 j0=>?_;have g21:m21.get m13.n=.cells (x.u.c w') 43 none:=(by rw[O0,hw.1];rfl);have u2:=n0.n;have n18:=p0.n;have A1:Ext m13 m21:=⟨Z,λc hc=>by rw[j0 c Z,p0.get c Z,n0.get c hc]⟩;have k0:Sl m21 x.u.shape w':=B0.sl.aX λc cs t g hc ht=>(by rw[j0 c (λe=>by subst e;rw[G1]at hc;cases hc;simp[aL.ty,aL.dN]at ht),hc]);rw[bQ g21,Y,zr,Y];refine pz (x:=⟨eE x.u,w'⟩) hw.2 k0 A0 HJ λm64 P0 v2 B1 H1=>?_;have xk:=A1.trans P0;have nk:=xk.n;have lm:aC TE m64 30 (.pointer (some ⟨b0,o0+6,none⟩))=some x.mv:=(by rw[jC,aG (xk.cells q2)];exact q5 6 (by show 6 < 7;decide));have Q0:Sl m64 x.ms x.mv:=(F.mv x l0).ak xk;have h2:x.ms.length<=20:=(by have hm:x.k∈y.st:=J;exact(hP.DF _ hm).len);rw[(eU (xk.cells g1)).2.1,Y,q1,Y,dC,Y,lm,Y,Q0.len cJ,an];refine Lp.intro (γ:=Nat) (λj=>x.ms.length-j) (λj vs mm lo=>∃v,vs=[v,.int .i64 j]/\j<=x.ms.length/\Ext m64 mm/\m.n<=lo/\Ap m64.n mm (⟨eE x.u,w'⟩::(x.ms.take j).map λk=>(⟨iK k,Z9⟩:AW)) v) 0 ⟨_,rfl,Vw _,.refl,Z,.inr ⟨_,_,_,rfl,B1,H1.sl⟩⟩ ?_;rintro j vs mm lo ⟨v,rfl,hj,d0,a1,q0⟩;have nm:=d0.n;have K1:=Q0.ak d0
 rw[av,av,aK,Y,ag];refine af (λb1=>?_) (λL1=>?_);have b1:j < x.ms.length:=J;obtain⟨z,hz⟩:∃z,x.ms[j]?=some z:=⟨_,QC b1⟩;have⟨p,p1,p2⟩:=K1.qp (k:=.i64) hz;rw[p1,Y,p2,Y];refine ah λw2 i2 c1 d1=>?_;refine aj nL c1 rfl rfl rfl λh0 j2 h1 i1=>?_;have O1:h0.get mm.n=.cells z.c 68 none:=h1;have Q1:Ext mm h0:=⟨Z,λc hc=>by rw[i1 c Z,d1 c hc]⟩;rw[Rg O1,Y,S8,Y,Cg,an];obtain⟨j1,i0⟩:∃q,q=h0.push (.cells (AW.c ⟨iK z,Z9⟩) 87 none):=⟨_,rfl⟩;rw[<-i0];have k1:Ext h0 j1:=i0 ▸ Ext.refl.push;have l1:j1.get h0.n=.cells (AW.c ⟨iK z,Z9⟩) 87 none:=(by rw[i0];exact M.aU);have r0:=Q1.trans k1;have y2:=r0.n;obtain⟨v',z2,s1,s2,s3,s4,s5⟩:=(q0.ak r0).append Gr rfl (lz (x:=(⟨iK z,Z9⟩:AW)) l1 ⟨rfl,rfl⟩) co Z J;rw[s1,an,aO,Y,wrap64];refine⟨j+1,Z,v',J,Z,⟨Z,λc hc=>by rw[s5 c hc,r0.get c Z,d0.get c hc]⟩,Z,.inl ?_⟩;rw[Z8,hz,MN];exact s2;obtain rfl:j=x.ms.length:=(by have:¬(j:Int)< (x.ms.length:Int):=Z0 L1;omega);rw[W8]at q0;refine Gw (by first |rfl |trivial) ?_ a1 (H.trans (xk.trans d0));rw[hD];have T1:=(k0.ak P0).ak d0;refine⟨_,_,rfl,dg,q0.sl,λa ha=>?_,λa ha=>?_,λa ha=>?_⟩;rcases VM.1 ha with rfl |ha;exact T1;obtain⟨k,_,rfl⟩:=Ja.1 ha;exact .nil;rcases VM.1 ha with rfl |ha;exact A0;obtain⟨k,_,rfl⟩:=Ja.1 ha;exact As;rcases VM.1 ha with rfl |ha;exact HJ;obtain⟨k,_,rfl⟩:=Ja.1 ha;exact kd_m
set_option maxHeartbeats 4000000 in
theorem adb(hX:cp X)(hS:Di X)(T1:gD m){y:Yd}{r r2 st rc mo:O}{t:Tk}{w:O}(hV:rR m y r r2 st rc mo)(hP:mS y)(hw:Sl m t.un.shape w)(j4:t.un.shape.length < 100000)(l4:1<=t.kind/\t.kind<=9):
  ∃rv m',xw X 85 [yv r r2 st rc mo,t.v w] m rv m'/\Ext m m'/\oD (fO rS cg bU y t) m' rv:=by
 apply Cl.Iz hX (U5 func85);have U2:=hV.iy;have b2:=hV;have⟨⟨l,g0,hF⟩,d2,⟨kl,e2,hK⟩,i2,m4⟩:=hV;have n0:one r=true/\one r2=true:=⟨hF.sl.one,d2.one⟩;have w1:cq (bH l):=(by rw[g0];exact hP.xU);have B3:l.length<=12:=(by have:=hP.xU.len;rwa[<-g0,cx]at this);have P0:kl.length<=12:=(by have:=hP.PH;rwa[<-e2,kE]at this);have G3:=hP.Xn;have O3:=hP.UE;have d3:=hP.Du.len
 have H:∀R:ν->M->Nat->Prop,(∀(v:O) (b:Bool) (m':M) (lo:Nat),m.n<=lo->Ext m m'->oD (fO rS cg bU y t) m' (.tuple #[v,.bool b])->R [v,.bool b] m' lo)->fQ TE (aH TE X) f85 [yv r r2 st rc mo,t.v w] m R:=(by intro R hR;rw[F85];dsimp only[aH];refine ah λm1 n4 j2 e3=>?_;refine ah λm2 o4 o2 u2=>?_;have v2:Ext m m2:=⟨Z,J⟩;have g1:m2.get m.n=.cells (yc r r2 st rc mo) 37 none:=(by rw[u2 _ Z];exact j2);have g2:m2.get m1.n=.cells (t.c w) 58 none:=o2;clear j2 e3 o2 u2;unfold ptrTo;simp only[dn,dF,fE,fD,bM,bI,bk,dE,dP,cU,cT,dD,cL,aW,Y];rw[(eU g1).1,Y,(kX g2).2.1,Y];obtain⟨rv,m8,c8,x8,f8⟩:=wz (m:=m2) hX (hF.ak v2) Z n0 t.id;apply aw c8;obtain⟨u,wu,is,rfl,fu⟩:=f8.XZ w1;have n8:=x8.n;rw[aE,aE];simp only[XW,Q7,Y];refine ah λm11 b4 Q0 y1=>?_;refine aj dO Q0 rfl rfl (Un.dp fu.sl.one) λm12 d4 d1 P0=>?_;have gu:m12.get m8.n=.cells (u.c wu) 43 none:=d1;have e1:Ext m8 m12:=⟨Z,J⟩;have G2:=e1.cells (x8.cells g2);rw[(kX G2).2.1,Y,(kX G2).2.2.2.1,Y,Gm,Y];refine ah λm20 e4 i1 y2=>?_;refine aj Bw i1 rfl rfl rfl λm13 f4 j1 z2=>?_;have gf:m13.get m12.n=.cells (Fc.c ⟨t.id,t.side⟩) 103 none:=j1;have o0:Ext m12 m13:=⟨Z,J⟩;have p0:Ext m8 m13:=e1.trans o0;have gu:=o0.cells gu;have h0:=x8.trans p0;have F:=v2.trans h0;have g1:=h0.cells g1;have g2:=h0.cells g2;have fu:=fu.ak p0;have r4:=p0.n;clear Q0 y1 d1 P0 j1 z2 i1 y2;have⟨tk,tid,Kl,u4,w4⟩:=kX g2;rw[g0]at fu;have y0:m.n<=min (min (min m.n m2.n) m8.n) m12.n:=Z;generalize min (min (min m.n m2.n) m8.n) m12.n=y4 at y0;obtain⟨D,hD⟩:∃D,D=fO rS cg bU y t:=⟨_,rfl⟩;rw[<-hD]at hR;unfold fO at hD;have g3:(cz y.us t.id).isSome=is:=(by rw[fu.eq];cases is <;>rfl);rw[tk,Y,aJ,Y,ag];refine af (λk1=>?_) (λk1=>?_);rw[UG (Mv k1)]at hD;rw[qA g2,Y,zr,Y];refine pz (x:=⟨eE t.un,w⟩) hw.one (hw.ak F) (by show t.un.shape.length < 1000000;omega) HJ λm22 d0 n22 _ a22=>?_;rw[(eU (d0.cells g1)).2.2.2.2,Y,(uO (d0.cells g2)).1,Y];refine aw (Bi (y:=y) hX (hK.ak (F.trans d0)).sl Z U2 _) ⟨R8 _,?_⟩;rw[aK,Y,Lg];have e:(y.st.any λk=>decide (k.un.id=t.un.id))=kl.any λx=>decide (x.u.id=t.un.id):=(by rw[<-e2];unfold vP;rw[Q3];rfl);rw[e]at hD;apply hR _ _ _ _ Z (F.trans d0);cases hc:kl.any λx=>decide (x.u.id=t.un.id);rw[ND J]at hD;rw[hD];exact⟨_,_,rfl,rfl,a22⟩;rw[UG hc]at hD;rw[hD];exact⟨_,rfl⟩;rw[ND (Z0 k1)]at hD;rw[aJ,Y,ag];refine af (λk2=>?_) (λk2=>?_);rw[UG (Mv k2),g3]at hD;refine aY (λvs mm lo=>∃v b,vs=[v,.bool b]/\m.n<=lo/\Ext m mm/\oD D mm (.tuple #[v,.bool b])) (λQ hQ=>?_) ?_;rw[tid,Y,pF,Y];refine pz (x:=⟨jv 2 t.id,Z9⟩) rfl .nil As (DG ce) λm22 d0 n22 _ a22=>?_;rw[ag];refine af (λc=>?_) (λc=>hQ _ _ _ ⟨_,_,rfl,Z,F.trans d0,by rw[ND J]at hD;rw[hD];exact⟨_,rfl⟩⟩);rw[(eU (d0.cells g1)).2.1,Y,(hK.ak (F.trans d0)).sl.len eR,an,aK,Y];refine hQ _ _ _ ⟨_,_,rfl,Z,F.trans d0,?_⟩;rw[c,DO]at hD;have e:y.st.length=kl.length:=J;by_cases A1:kl.length < 12;rw[UG J]at hD;rw[hD,RO (show(kl.length:Int)< 12 by omega)];exact⟨_,_,rfl,rfl,a22⟩;rw[ND J]at hD;rw[hD,C8 (show¬(kl.length:Int)< 12 by omega)];exact⟨_,rfl⟩;rintro _ mm lo ⟨v,b,rfl,h1,h2,h3⟩;rw[av,av];grind;rw[ND (Z0 k2)]at hD;rw[aJ,Y,ag];refine af (λk3=>?_) (λk3=>?_);rw[UG (Mv k3)]at hD;rw[(eU g1).2.2.2.2,Y,tid,Y];have⟨rv,A4,i3,A2,q0⟩:=Jc (m:=m13) hX (b2.ak F) hP t.id;have hD:D=LH y.st t.id:=hD;rw[<-hD]at q0;have B4:=A2.n;apply aw i3;obtain⟨v,b,rfl⟩:∃v b,rv=.tuple #[v,.bool b]:=(by unfold oD at q0;cases D with|none=>have⟨v,h⟩:=q0;exact⟨v,_,h⟩|some L=>obtain⟨al,v,h, -⟩:=q0;exact⟨v,_,h⟩);rw[aE,aE];simp only[XW,Q7,Y];exact hR _ _ _ _ Z (F.trans A2) q0;rw[ND (Z0 k3)]at hD;rw[aJ,Y,ag];refine af (λk4=>?_) (λk4=>?_);rw[UG (Mv k4),fu.eq]at hD;have B2:=hF.ak F;refine aY (λvs mm lo=>vs=[.bool (!is || !((bH l).all λv=> !rS u v ||cg t.du v.du))]/\Ext m13 mm/\m.n<=lo) (λQ hQ=>?_) ?_;rw[bB,Y,ag];refine af (λc=>hQ _ _ _ ⟨by rw[c];rfl,.refl,Z⟩) (λc=>?_);rw[HO]at c;rw[(eU g1).1,Y,bQ gu,Y];obtain⟨tv,O4,j3,A0,l3⟩:=GS (m:=m13) hX hS B2 Z n0 fu.sl fu.ln;apply aw j3;have R4:=A0.n;have L2:(l.filter λx=>rS u x.u).length < 1000000:=(by have:=X0 (λx:UW=>rS u x.u) l;omega);apply aw (IG hX ((T1.ak F).ak A0) (A0.cells g2) l3.sl L2);refine hQ _ _ _ ⟨?_,A0,Z⟩;rw[c,No,NG];congr 2;unfold bH;rw[List.all_map,List.any_filter,List.not_all_eq_any_not];congr 1;funext x;simp only[Function.comp_apply];(cases rS u x.u <;>simp;rintro _ mm lo ⟨rfl,b0,l1⟩;have nm:=b0.n;rw[av,ag];refine af (λc=>?_) (λc=>?_);apply hR _ _ _ _ l1 (F.trans b0);have:D=none:=(by rw[hD];cases hi:is with|false=>rfl|true=>rw[hi]at c;rw[UG rfl,RM,ND (λe=>by rw[<-g0]at e;rw[e]at c;cases c)]);rw[this];exact⟨_,rfl⟩;rw[UP,HO,HO]at c;have⟨c1,c2⟩:=c;rw[c1,UG rfl,RM,UG (by rw[<-g0];exact c2)]at hD;rw[(kX (b0.cells g2)).2.2.2.2,Y,ck,Y];have M2:=b0.cells gu;refine bS yy M2 rfl (by show 0+2+1<=6;decide) rfl λe0 m3 B1 i0=>?_;have O2:e0.get m8.n=.cells (Un.c {u with du:=t.du} wu) 43 none:=B1;have P2:m1.n≠m8.n:=Z;have Q2:=(fu.ak b0).sl;have B0:Sl e0 u.shape wu:=Q2.aX λc cs t g hc ht=>(by rw[i0 c (λe=>by subst e;rw[M2]at hc;cases hc;simp[aL.ty,aL.dN]at ht),hc]);rw[(kX ((i0 _ P2).trans (b0.cells g2))).2.1,Y,pF,Y,bQ O2,Y,zr,Y,PB,an];obtain⟨o1,j0⟩:∃q,q=e0.push (.cells (AW.c ⟨jv 2 t.id,Z9⟩++AW.c ⟨eE {u with du:=t.du},wu⟩) 87 none):=⟨_,rfl⟩;rw[<-j0];have k0:Ext e0 o1:=j0 ▸ Ext.refl.push;have G1:o1.get e0.n=.cells (AW.c ⟨jv 2 t.id,Z9⟩++AW.c ⟨eE {u with du:=t.du},wu⟩) 87 none:=(by rw[j0];exact M.aU);have n155:=k0.n;apply hR _ _ _ _ Z ⟨Z,λc hc=>by rw[k0.get c Z,i0 c Z,b0.get c Z,F.get c hc]⟩;rw[hD];refine⟨_,_,rfl,rfl,PX G1 rfl Q2.one,λa ha=>?_,λa ha=>?_,λa ha=>?_⟩;rcases VM.1 ha with rfl |ha;exact .nil;rw[RV.1 ha];exact B0.ak k0;rcases VM.1 ha with rfl |ha;exact As;rw[RV.1 ha];exact fu.ln;rcases VM.1 ha with rfl |ha;exact DG ce;rw[RV.1 ha];exact HJ);rw[ND (Z0 k4)]at hD;rw[aJ,Y,ag];refine af (λk5=>?_) (λk5=>?_);rw[UG (Mv k5)]at hD;have r1:=d2.ak F;rw[(uM g1).2.2,Y,r1.len cJ,an];refine Lp.intro (γ:=Nat) (λj=>y.ms.length-j) (λj vs mm lo=>∃v,vs=[v,.int .i64 j]/\j<=y.ms.length/\Ext m13 mm/\m.n<=lo/\Ow m13.n mm (((y.ms.take j).filter (lL t)).map λx=>(⟨jv 6 x.id,Z9⟩:AW)) v) 0 ⟨_,rfl,Vw _,.refl,Z,Ow.nil⟩ ?_;rintro j vs mm lo ⟨v,rfl,hj,b0,l1,H1⟩;have nm:=b0.n;have n3:=r1.ak b0;rw[av,av,aK,Y,ag];refine af (λA1=>?_) (λo3=>?_);have A1:j < y.ms.length:=J;obtain⟨x,hx⟩:∃x,y.ms[j]?=some x:=⟨_,QC A1⟩;have⟨p,p1,p2⟩:=n3.qp (k:=.i64) hx;refine aY (λvs m' O0=>∃v',vs=[v']/\Ext m13 m'/\m.n<=O0/\Ow m13.n m' (((y.ms.take (j+1)).filter (lL t)).map λx=>(⟨jv 6 x.id,Z9⟩:AW)) v') (λQ hQ=>?_) ?_;rw[p1,Y,p2,Y];refine ah λg4 r3 K1 u3=>?_;refine aj nL K1 rfl rfl rfl λr0 w3 L1 y3=>?_;have u1:r0.get mm.n=.cells x.c 68 none:=L1;have s0:Ext mm r0:=⟨Z,λc hc=>J⟩;have O1:=b0.trans s0;obtain⟨a0,a1,a2,a3, -⟩:=wm u1;have a4:=QW u1;obtain⟨-,b1, -,b3, -⟩:=kX (O1.cells g2);have v1:=H1.ak s0;refine aY (λvs m' O0=>vs=[.bool (lL t x)]/\r0=m'/\m.n<=O0) (λQ' l0=>?_) ?_;rw[cS,Y,a1,Y,b1,Y,aJ,Y,ag];unfold lL at l0;refine af (λc1=>?_) (λc1=>l0 _ _ _ ⟨J,rfl,Z⟩);rw[eK,Y,a2,Y,b3,Y,aJ,Y,ag];refine af (λc2=>?_) (λc2=>l0 _ _ _ ⟨J,rfl,Z⟩);rw[eJ,Y,a4,Y,ag];refine af (λc3=>?_) (λc3=>l0 _ _ _ ⟨J,rfl,Z⟩);rw[ja,Y,a3,Y,aJ,Y,ag];refine af (λc4=>l0 _ _ _ ⟨J,rfl,Z⟩) (λc4=>?_);rw[Y,a3,Y,aJ,Y,ag];refine af (λc5=>l0 _ _ _ ⟨J,rfl,Z⟩) (λc5=>?_);rw[Y,a3,Y,aJ,Y];exact l0 _ _ _ ⟨J,rfl,Z⟩;rintro _ _ iH ⟨rfl,rfl,T2⟩;rw[av,ag];refine af (λc=>?_) (λc=>?_);rw[bR,Y,a0,Y,pF,Y];have L2:((y.ms.take j).filter (lL t)).length<=j:=(by have:=X0 (lL t) (y.ms.take j);rw[ZO]at this;omega);refine jy (T:=78) (x:=(⟨jv 6 x.id,Z9⟩:AW)) Gr rfl v1 Z J Cg (λ_=>⟨rfl,rfl⟩) λr' h4 w2 n2 k2 W4 l2=>?_;refine hQ _ _ _ ⟨r',rfl,⟨Z,λc hc=>by rw[k2 c hc,O1.get c hc]⟩,Z,?_⟩;rw[Z8,hx,IT,MN];simp only[My,SV,c,R3,Gj,UM,T5];exact w2;refine hQ _ _ _ ⟨v,rfl,O1,T2,?_⟩;rw[Z8,hx,IT,MN];simp only[My,SV,c,Gj,T5,NC];simpa using v1;rintro _ m' O0 ⟨v',rfl,h1,h2,h3⟩;rw[av,aO,Y,wrap64];exact⟨j+1,Z,v',J,Z,h1,h2,h3⟩;have A3:j=y.ms.length:=(by have:¬(j:Int)< (y.ms.length:Int):=Z0 o3;omega);subst A3;rw[W8]at H1;rw[(eU (b0.cells g1)).1,Y,(GB (b0.cells gf)).2.2,Y];apply aw (zS hX (hF.ak (F.trans b0)) w1 n0 ⟨t.id,t.side⟩);rw[g0];apply hR _ _ _ _ Z (F.trans b0);cases hf:oj y.us t.id t.side;rw[ND J]at hD;rw[hD];exact⟨_,rfl⟩;rw[UG hf]at hD;rw[hD];refine⟨_,_,rfl,dg,H1.sl,λa ha=>?_,λa ha=>?_,λa ha=>?_⟩;obtain⟨k,_,rfl⟩:=Ja.1 ha;exact .nil;obtain⟨k,_,rfl⟩:=Ja.1 ha;exact As;obtain⟨k,_,rfl⟩:=Ja.1 ha;exact DG ce;rw[ND (Z0 k5)]at hD;rw[aJ,Y,ag];refine af (λk6=>?_) (λk6=>?_);rw[UG (Mv k6)]at hD;rw[tid,Y,pF,Y];refine pz (x:=⟨jv 7 t.id,Z9⟩) rfl .nil As (DG ce) λm22 d0 n22 _ a22=>?_;exact hR _ _ _ _ Z (F.trans d0) (by rw[hD];exact⟨_,_,rfl,rfl,a22⟩);rw[ND (Z0 k6)]at hD;rw[aJ,Y,ag];refine af (λk7=>?_) (λk7=>?_);rw[UG (Mv k7)]at hD;rw[tid,Y,pF,Y];refine pz (x:=⟨jv 6 t.id,Z9⟩) rfl .nil As (DG ce) λm22 d0 n22 _ a22=>?_;exact hR _ _ _ _ Z (F.trans d0) (by rw[hD];exact⟨_,_,rfl,rfl,a22⟩);rw[ND (Z0 k7)]at hD;rw[aJ,Y,ag];have fin:∀{b:Bool} {m':M} {lo:Nat},m.n<=lo->Ext m m'->D=(if b=true then some []else none)->R [Z9,.bool b] m' lo:=λ{b m' lo} h1 h2 h3=>(by apply hR _ _ _ _ h1 h2;rw[h3];cases b;exact⟨_,rfl⟩;exact⟨[],_,rfl,rfl,.nil⟩);refine af (λk8=>?_) (λk8=>?_);rw[UG (Mv k8)]at hD;refine aY (λvs mm lo=>∃b,vs=[Z9,.bool b]/\m13=mm/\m.n<=lo/\D=if b=true then some []else none) (λQ hQ=>?_) ?_;rw[(eU g1).1,Y,(GB gf).2.2,Y];apply aw (zS hX (hF.ak F) w1 n0 ⟨t.id,t.side⟩);rw[g0,ag];refine af (λc=>?_) (λc=>hQ _ _ _ ⟨false,rfl,rfl,Z,by rw[hD,show oj y.us t.id t.side=false from c];rfl⟩);rw[show oj y.us t.id t.side=true from c,DO]at hD;rw[(eU g1).2.2.1,Y,(i2.ak F).len lv,an,aK,Y,ag];refine af (λd=>hQ _ _ _ ⟨true,rfl,rfl,Z,?_⟩) (λd=>?_);have d:=Mv d;rw[hD,RO (show y.rc.length < 60 by omega)];rfl;have d:=Z0 d;rw[Y,(GB gf).2.2,Y];apply aw (vi hX (i2.ak F) Z ⟨t.id,t.side⟩);refine hQ _ _ _ ⟨_,rfl,rfl,Z,?_⟩;rw[hD,C8 (show¬y.rc.length < 60 by omega),NG];rintro _ _ lo ⟨b,rfl,rfl,u0,Q1⟩;rw[av,av];exact fin u0 F Q1;rw[ND (Z0 k8),fu.eq]at hD;refine aY (λvs mm lo=>∃b,vs=[Z9,.bool b]/\m13=mm/\m.n<=lo/\D=if b=true then some []else none) (λQ hQ=>?_) ?_;rw[ag];refine af (λc=>?_) (λc=>hQ _ _ _ ⟨false,rfl,rfl,y0,by rw[hD,c];rfl⟩);rw[c,UG rfl,RM]at hD;rw[(eU g1).2.2.2.2,Y,bQ gu,Y,kW g2,Y];apply aw (H8 hX hS (T1.ak F) (b2.ak F) hP fu.sl fu.ln hw.one);refine hQ _ _ _ ⟨_,rfl,rfl,Z,?_⟩;rw[hD];unfold BW;(cases cz y.us t.other with|none=>rfl|some v=>rfl);rintro _ _ lo ⟨b,rfl,rfl,u0,Q1⟩;rw[av,av];exact fin u0 F Q1)
 refine H _ λv b m' lo y0 hx hs=>?_;exact Gw (by first |rfl |trivial) hs y0 hx
def DZ(y:Yd)(t:Tk)(m':M)(F:O):Prop:=AA (eG rS cg bU y t) m' F/\∀d,eG rS cg bU y t=some d->∃v s H,F=.tuple #[v,s,.bool true]/\wk m' H v/\fO rS cg bU y t=some (H.map AW.a)
def DZ.no{y:Yd}{v r r2:O}(e:eG rS cg bU y t=none)(F:one r)(H:one r2):DZ y t m' (.tuple #[v,.agg #[r,r2],P6]):=
 ⟨by rw[e];exact⟨v,r,r2,rfl,F,H⟩,λd h=>J⟩
def DZ.flat{y:Yd}{v u w:O}(h:DZ y t m' (.tuple #[v,u,w]))(H:aZ (.tuple #[v,u,w]))(m:M):DZ y t m (.tuple #[v,u,w]):=by refine⟨h.1.flat H m,λd hd=>?_⟩;have⟨v',s,al,e,ha,hA⟩:=h.2 d hd;cases e;have h1:oD (some (al.map AW.a)) m' (.tuple #[v,VT]):=⟨al,v,rfl,rfl,ha⟩;have F:(D.ep v && (D.ep u && (true && true))):=H;rw[G4]at F;obtain⟨b0,v',e,e1,d0⟩:=h1.flat (show(D.ep v && (true && true))=true by grind) m;grind
set_option maxHeartbeats 1000000 in
theorem Oy(hX:cp X)(e1:Di X)(hI:rC X)(i1:N6 X)(hU:gD m){y:Yd}{r r2 st rc mo:O}{t:Tk}{w:O}(hV:rR m y r r2 st rc mo)(hP:mS y)(hw:Sl m t.un.shape w)(A0:t.un.shape.length < 100000):
  ∃rv m',xw X 31 [yv r r2 st rc mo,t.v w] m rv m'/\Ext m m'/\DZ y t m' rv:=by
 apply Cl.Iz hX (U5 func31)
 have H:∀R:ν->M->Nat->Prop,(∀(v t' u:O) (m':M) (lo:Nat),m.n<=lo->Ext m m'->DZ y t m' (.tuple #[v,t',u])->R [v,t',u] m' lo)->fQ TE (aH TE X) f31 [yv r r2 st rc mo,t.v w] m R:=by
  intro R hR
  rw[F31];dsimp only[aH]
  refine ah λm1 a2 B0 j1=>?_
  refine ah λm2 b2 O0 P0=>?_
  refine ah λm3 c2 Q0 s0=>?_
  have e0:Ext m m3:=⟨Z,J⟩
  have g1:m3.get m.n=.cells (yc r r2 st rc mo) 37 none:=by rw[s0 _ Z,P0 _ Z];exact B0
  have g2:m3.get m1.n=.cells (t.c w) 58 none:=by rw[s0 _ Z];exact O0
  have gz:m3.get m2.n=.cells [Z9,Z9] 32 none:=Q0
  clear B0 j1 O0 P0 Q0 s0
  unfold ptrTo
  have u0:=hV.ak e0
  have a1:=hw.ak e0
  have bad:∀{mm:M} {lo:Nat},mm.get m2.n=.cells [Z9,Z9] 32 none->m.n<=lo->(∀c,c < m.n->mm.get c=m.get c)->m.n<=mm.n->eG rS cg bU y t=none->
    aS (bz TE 32 []) λv20=>dh (bh TE mm 32 (.pointer (some ⟨m2.n,0,none⟩)) v20) λm21 k1=>aS (aC TE m21 32 (.pointer (some ⟨m2.n,0,none⟩))) λl1=>R [Z9,l1,P6] m21 (min lo k1):=by
   intro mm lo g k0 hk hn e
   rw[jZ,Y]
   refine aj eF g rfl rfl rfl λm' d2 p1 e2=>?_
   rw[(kb p1).2.2.2,Y]
   apply hR _ _ _ _ _ Z ⟨Z,J⟩
   exact .no e rfl rfl
  refine xr (λvs mm lo=>vs=[.bool (!eB t)]/\m3=mm/\m.n<=lo) (λQ hQ=>?_) ?_
  ·rw[(eU g1).2.2.2.2,Y]
   apply aw (LP hX u0 hP)
   rw[bB,Y,ag]
   show lY false _ _
   rw[aT,kW g2,Y]
   apply aw (GL hX a1 A0)
   rw[bB,Y]
   grind
  rintro _ _ lo ⟨rfl,rfl,k0⟩
  rw[av,ag]
  refine af (λc=>?_) (λc=>?_)
  ·rw[yC]at c;exact bad gz k0 (λc hc=>e0.get c hc) Z (by unfold eG;rw[ND J])
  rw[HO]at c
  have hS:eG rS cg bU y t=(fO rS cg bU y t).bind λl=>eX y.us y.ms l:=by unfold eG;rw[UG c]
  rw[(eU g1).2.2.2.2,Y,kW g2,Y]
  have⟨rv,r1,u1,b0,h0⟩:=adb (m:=m3) hX e1 (hU.ak e0) u0 hP a1 A0 (qV c)
  apply aw u1
  have n27:=b0.n
  unfold oD at h0
  cases hA:fO rS cg bU y t with
  |none=>rw[hA]at h0 hS;obtain⟨v,rfl⟩:=h0;rw[aE,aE];simp only[XW,Q7,Y];rw[bB,Y,ag,ME,bN];exact bad (b0.cells gz) Z (λc hc=>by rw[b0.get c Z,e0.get c hc]) Z hS
  |some L=>
   rw[hA]at h0 hS
   obtain⟨al,v,rfl,hL,p0⟩:=h0
   have v1:al.length<=40:=by have:=It hP hA;rwa[<-hL,Xh]at this
   rw[aE,aE]
   simp only[XW,Q7,Y]
   rw[bB,Y,ag,No,aT,dn,Y,(eU (b0.cells g1)).1,Y]
   obtain⟨⟨l,y0,hF⟩,w1, -⟩:=u0.ak b0
   obtain⟨y1,l0,A1,n0,g0⟩:=VY (m:=r1) hX hI i1 hF (by rw[y0];exact hP.xU) w1 (by rw[y0];exact hP.Du) p0 v1
   apply aw A1
   rw[y0,hL]at g0
   have hS:eG rS cg bU y t=eX y.us y.ms L:=hS
   have n39:=n0.n
   have q0:=(b0.trans n0).cells gz
   have H1:∀c,c < m.n->l0.get c=m.get c:=λc hc=>by rw[n0.get c Z,b0.get c Z,e0.get c hc]
   obtain⟨q,q2,n,e,rfl,o1,o2,F⟩:∃q q2 n e,y1=.tuple #[.agg #[q,q2],.int .i64 n,.int .i64 e]/\one q=true/\one q2=true/\(match eX y.us y.ms L with |some (vs,ns)=>e=0/\gW vs ns l0 (.agg #[q,q2]) |none=>e=170):=by
    unfold rz at g0
    cases hr:eX y.us y.ms L with
    |none=>rw[hr]at g0;obtain⟨n,rfl⟩:=g0;exact⟨_,_,n,170,rfl,rfl,rfl,rfl⟩
    |some d=>have⟨vs,ns⟩:=d;rw[hr]at g0;obtain⟨q,q2,n,rfl,hs⟩:=g0;have⟨_,_,_,e,_,h1,h2⟩:=id hs;cases e;exact⟨q,q2,n,0,rfl,h1.sl.one,h2.one,rfl,hs⟩
   rw[aE,aE,aE]
   simp only[XW,Q7,Y]
   refine ah λi2 K1 b1 L1=>?_
   refine aj eF b1 rfl rfl (by show(one q && (one q2 && true))=true;rw[o1,o2];rfl) λc1 O1 i0 Q1=>?_
   have i0:c1.get l0.n=.cells [q,q2] 32 none:=i0
   rw[(kb i0).2.2.2,Y,aJ,Y]
   have d0:Ext l0 c1:=⟨Z,J⟩
   refine aj eF (d0.cells q0) rfl rfl J λo0 T1 j0 r0=>?_
   have j0:o0.get m2.n=.cells [q,q2] 32 none:=j0
   rw[(kb j0).2.2.2,Y]
   apply hR _ _ _ _ _ Z ⟨Z,J⟩
   cases hr:eX y.us y.ms L with
   |none=>rw[hr]at F;have F:e=170:=F;subst F;show DZ y t o0 (.tuple #[v,.agg #[q,q2],P6]);exact .no (hS.trans hr) o1 o2
   |some d=>
    have⟨vs,ns⟩:=d;rw[hr]at F;obtain⟨rfl,hs⟩:=F
    have d1:gW vs ns o0 (.agg #[q,q2]):=hs.aX λc cs t g hc ht=>by have B1:=d0.cells hc;rw[r0 c J,B1]
    have G1:wk o0 al v:=((p0.ak n0).ak d0).aX λc cs t g hc ht=>by rw[r0 c (λe=>by subst e;rw[d0.cells q0]at hc;cases hc;rcases ht with h |h <;>cases h),hc]
    exact⟨by rw[hS,hr];exact⟨v,q,q2,rfl,d1⟩,λd hd=>⟨v,_,al,rfl,G1,by rw[hA,hL]⟩⟩
 refine H _ λv t' u m' lo k0 hx hs=>?_;show(aZ (.tuple #[v,t',u])=true/\m.n<=lo/\(m.n=m.n/\Ext m m/\DZ _ _ m (.tuple #[v,t',u])))\/((aZ (.tuple #[v,t',u])=false\/lo < m.n)/\(min m.n lo=m.n/\Ext m m'/\DZ _ _ m' (.tuple #[v,t',u])));cases hf:aZ (.tuple #[v,t',u]);·exact .inr ⟨.inl rfl,Z,hx,hs⟩
 exact .inl ⟨rfl,k0,rfl,.refl,hs.flat hf m⟩
section
variable {α:Type}
def abz{key:α->Int}{l:List α}{x:α}(h:l.Pairwise λa b=>key a<key b)(F:(l.any λy=>decide (key y=key x))=false):
  l.take (fo key l (key x))++x::l.drop (fo key l (key x))=iZ key l x:=by have⟨H,h2⟩:=vz (id:=key x) h;rw[H,h2];unfold iZ;congr 2;apply Vx;grind
theorem vu{key:α->Int}{x:α}:∀{l:List α},(l.Pairwise λa b=>key a<key b)->(l.any λy=>decide (key y=key x))->fo key l (key x)< l.length/\l.set (fo key l (key x)) x=iZ key l x
 |[],_,h=>J
 |a::r,H,h=>by have⟨h1,h2⟩:=ZV.1 H;by_cases e:key a<key x;have hr:(r.any λy=>decide (key y=key x)):=(by grind);have⟨i1,i2⟩:=vu h2 hr;have F:fo key (a::r) (key x)=fo key r (key x)+1:=(by unfold fo;grind);rw[F,Dx,i2];refine⟨J,?_⟩;unfold iZ;grind;have F:fo key (a::r) (key x)=0:=(by unfold fo;rw[SV,ND J,XA.2];rfl;grind);have b0:key a=key x:=(by grind);rw[F];refine⟨co,?_⟩;unfold iZ;rw[SV,ND J,SV,ND J,XA.2,Uc.2];rfl;grind;grind
variable [aL α]
def JY(hT:qs TE T (aL.ty α) α){f:Nat}{fn:Func}(hX:GC X f)(hf:TE.fn.get f=some fn)(hn:Nat.ble 3 fn.ntmps)
  (hF:∀{W:Words} {x0 x1 x2:O} {m:M} {R:ν->M->Nat->Prop},dB TE W fn [x0,x1,x2] m R=(W.nW (M.push m (.cells (cells x1) (aL.ty α) none)) λm1=>bsG T (aL.ty α) (λmm k=>W.aS (aC TE mm (aL.ty α) (ptrTo (M.n m))) k) W x0 x2 m1 (M.n m) R))
  {key:α->Int} {l:List α} {v xv:O} {g:Fn} {fi ca:Array O} {id:Int} (hb:l.length<400) (hl:Sl m l v) (F:l.Pairwise λa b=>key a<key b)
  (H:∀(mm:M) (b:Nat),mm.get b=.cells (cells xv) (aL.ty α) none->aC TE mm (aL.ty α) (ptrTo b)=some xv)
  (hs:∀mm:M,Ext m mm->∀x∈l,∀cs,aL.rep mm x cs->C X g (fi.toList++([aL.val α cs,xv]++ca.toList)) mm mm.n (I (dt (key x) id)) mm):
  C X (.func f) [v,xv,.func g fi ca] m m.n (.tuple #[I (fo key l id:Nat),.bool (l.any λx=>decide (key x=id))]) m:=by refine Cl.flat hX hf hn rfl ?_;rw[hF];dsimp only[aH];refine ah λm1 e0 b0 d0=>?_;have x1:Ext m m1:=⟨Z,d0⟩;exact S2 hT Z (λk hk=>by rw[H m1 _ b0,Y];exact hk) key hb (hl.ak x1) F (hs m1 x1) λlo h=>⟨rfl,h⟩
abbrev Wu(T t fB fC fI:Nat)(W:Words)(x0 x1 x2:O)(m:M)(R:ν->M->Nat->Prop):Prop:=
(W.nW (M.push m (.cells (cells x1) t none)) λm1=>(W.aS (aC TE m1 t (ptrTo (M.n m))) λv2=>(W.lU (.func fB) [x0,v2,x2] m1 λv3 m4 b5=>(W.aS (mz v3 0) λv6=>(W.aS (mz v3 1) λv7=>(iS v7
(W.lU (.func fC) [x0] m4 λv8 m9 H=>(W.aS (aC TE m9 t (ptrTo (M.n m))) λv11=>(W.aS (aD TE T v8 v6) λv12=>(W.dh (bh TE m9 t v12 v11) λm13 b0=>(R [v8] m13 (min (min (min (M.n m) b5) H) b0))))))
(W.lU (.func fC) [x0] m4 λd0 m16 F=>((M.n m4<=F)/\(W.aS (aC TE m16 t (ptrTo (M.n m))) λe0=>(W.dh (aQ TE m16 T 1 [(0,e0)]) λg0 m20=>(W.lU (.func fI) [d0,v6,g0] m20 λv21 m22 h0=>(R [v21] m22 (min (min (min (M.n m) b5) F) h0)))))))))))))
def FQ(hT:qs TE T (aL.ty α) α)(q0:aL.dN α=[]){f fB fC fI:Nat}{fn:Func}(r0:GC X f)(hf:TE.fn.get f=some fn)(hn:Nat.ble 3 fn.ntmps)
  (hF:∀{W:Words} {x0 x1 x2:O} {m:M} {R:ν->M->Nat->Prop},fQ TE W fn [x0,x1,x2] m R=Wu T (aL.ty α) fB fC fI W x0 x1 x2 m R)
  {key:α->Int} {l:List α} {v xv g:O} {x:α} (e0:l.Pairwise λa b=>key a<key b) (hl:l.length<400)
  (j0:∀m':M,aL.rep m' x (cells xv))
  (g0:∀(mm:M) (b:Nat),mm.get b=.cells (cells xv) (aL.ty α) none->aC TE mm (aL.ty α) (ptrTo b)=some xv)
  (s0:∀mm:M,Ext m mm->C X (.func fB) [v,xv,g] mm mm.n (.tuple #[I (fo key l (key x):Nat),.bool (l.any λy=>decide (key y=key x))]) mm)
  (u0:∀mm:M,Ext m mm->∃v' m',C X (.func fC) [v] mm mm.n v' m'/\Ext mm m'/\mc mm.n m' l v')
  (k0:∀mm:M,aQ TE mm T 1 [(0,xv)]=some (Hr mm.n 0 1 1,mm.push (.cells (cells xv) (aL.ty α) none)))
  (y0:∀{mm:M} {n1 i bx:Nat} {w:O},mc n1 mm l w->i<=l.length->mm.get bx=.cells (cells xv) (aL.ty α) none->n1<=mm.n->
   ∃F m' b,C X (.func fI) [w,I i,Hr bx 0 1 1] mm b F m'/\n1<=b/\Ow n1 m' (l.take i++x::l.drop i) F/\mm.n<=m'.n/\(∀c,c<mm.n->(∀a n k,w=.slice (some a) n k->c≠a.block)->m'.get c=mm.get c)):
  ∃F m',C X (.func f) [v,xv,g] m m.n F m'/\Ext m m'/\Ow m.n m' (iZ key l x) F/\D.bL F=false:=by have l0:=Cl.HR (E:=TE) (X:=X) (f:=f) (args:=[v,xv,g]) (m:=m) (R:=λF m' b=>b=m.n/\Ext m m'/\Ow m.n m' (iZ key l x) F/\D.bL F=false) r0 hf hn ?_;obtain⟨F,m',b,hc,rfl,h⟩:=l0;exact⟨F,m',hc,h⟩;have n0:iZ key l x≠ []:=(by unfold iZ;simp);have o0:∀{n1:Nat} {m':M} {F:O},Ow n1 m' (iZ key l x) F->D.bL F=false:=λh=>(by rcases h with⟨-,h⟩|⟨b,cs,rfl, -⟩;grind;rfl);rw[hF];dsimp only[Wu,aH];refine ah λm1 c1 h0 A0=>?_;have x1:Ext m m1:=⟨Z,A0⟩;rw[g0 m1 _ h0,Y];apply aw (s0 m1 x1);rw[aE,aE];simp only[XW,Q7,Y];rw[ag];have⟨w,m9,c9,x9,p9⟩:=u0 m1 x1;have n9:=x9.n;refine af (λc=>?_) (λc=>?_);have⟨B0,p0⟩:=vu e0 c;have O0:Ow m1.n m9 l w:=(by rcases p9 with h|⟨h, -⟩;exact h;grind);have⟨b,e1,e2,e3,⟨d1,g',e4⟩,e5,e6⟩:=KD q0 O0 B0 hT;apply aw c9;rw[g0 m9 _ (x9.cells h0),Y,e1,Y];have⟨ti,te,t1,⟨e,t2⟩,t3,t4,t5,t6⟩:=hT;refine e6 x xv te t4 t6 (j0 m9) _ λm13 g1 b0 P0=>?_;rw[p0]at b0;refine .inr ⟨.inl (b0.flat n0),Z,⟨Z,λc hc=>by rw[P0 c Z,x9.get c Z,x1.get c hc]⟩,b0.mono Z,o0 b0⟩;refine aw c9 ⟨R8 _,?_⟩;rw[g0 m9 _ (x9.cells h0),Y,k0,an];obtain⟨m20,H⟩:∃q,q=m9.push (.cells (cells xv) (aL.ty α) none):=⟨_,rfl⟩;have i0:Ext m9 m20:=H ▸ Ext.refl.push;have g20:m20.get m9.n=.cells (cells xv) (aL.ty α) none:=(by rw[H];exact M.aU);have n20:=i0.n;rw[<-H];obtain⟨F,m22,b,Q0,b1,d0,n22,a1⟩:=y0 (n1:=m1.n) (p9.ak i0) (Ft (id:=key x)) g20 Z;apply aw Q0;rw[abz e0 c]at d0;refine .inr ⟨.inl (d0.flat n0),Z,⟨Z,λc hc=>?_⟩,d0.mono Z,o0 d0⟩;rw[a1 c Z λa n k ev=>?_,i0.get c Z,x9.get c Z,x1.get c hc];rcases p9 with(⟨rfl, -⟩|⟨b,cs,rfl, -,h3, -⟩)|⟨-,b,rfl,h3, -⟩;cases ev;cases ev;show c≠b;omega;cases ev;show c≠b;omega
end
structure E1(X:aF):Prop where
 kp:∀args m,X (.func 91) args m=lH ⟨91,7,85⟩ (.func 91) args m
 fc:∀args m,X (.func 94) args m=lH ⟨94,2,103⟩ (.func 94) args m
 mo:∀args m,X (.func 97) args m=lH ⟨97,3,60⟩ (.func 97) args m
def acH:InF 33 f91:=⟨_,λ_ _ _ _ _ _=>F91⟩
def Vb:InF 34 f94:=⟨_,λ_ _ _ _ _ _=>F94⟩
def U8:InF 35 f97:=⟨_,λ_ _ _ _ _ _=>F97⟩
def Z5{W:Words}{x0:O}{m:M}{R:ν->M->Nat->Prop}:dB TE W f90 [x0] m R=WH 33 W x0 m R:=bv
def Z6{W:Words}{x0:O}{m:M}{R:ν->M->Nat->Prop}:dB TE W f32 [x0] m R=WH 34 W x0 m R:=bv
def adB{W:Words}{x0:O}{m:M}{R:ν->M->Nat->Prop}:dB TE W f33 [x0] m R=WH 35 W x0 m R:=bv
def NU(F:cp X){l:List KW}{v:O}(H:Sl m l v)(hs:l.length<=1000000):∃v' m',xw X 90 [v] m v' m'/\Ext m m'/\mc m.n m' l v':=
 qm zv (F.no _ rfl) (U5 func90) rfl Z5 bv (λ_ _ _=>bv) (λ_=>bv) H hs
def EP(F:cp X){l:List Fc}{v:O}(H:Sl m l v)(hs:l.length<=1000000):∃v' m',xw X 32 [v] m v' m'/\Ext m m'/\mc m.n m' l v':=
 qm Gq (F.no _ rfl) (U5 func32) rfl Z6 bv (λ_ _ _=>bv) (λ_=>bv) H hs
def EO(F:cp X){l:List Mo}{v:O}(H:Sl m l v)(hs:l.length<=1000000):∃v' m',xw X 33 [v] m v' m'/\Ext m m'/\mc m.n m' l v':=
 qm J7 (F.no _ rfl) (U5 func33) rfl adB bv (λ_ _ _=>bv) (λ_=>bv) H hs
def adR(hX:cp X)(x y:KW):xw X 37 [x.v,y.v] m (I (dt x.u.id y.u.id)) m:=by apply Cl.fG hX (U5 func37);rw[F37];dsimp only[aH];refine ah λm1 d0 F e0=>?_;refine ah λm2 g0 H b0=>?_;have g1:m2.get m.n=.cells x.c 85 none:=(by rw[b0 _ Z];exact F);have g2:m2.get m1.n=.cells y.c 85 none:=H;unfold ptrTo;rw[bW,Y,aW,Y,(Dv g1).1,Y,bW,Y,aW,Y,(Dv g2).1,Y];apply aw (gj hX _ _);exact⟨rfl,Z⟩
abbrev H2(f:Fc):Int:=f.un*16+f.side
abbrev QV(x:Mo):Int:=x.a*128+x.b
def LA{a b c d k:Int}(H: -k<b-d)(h2:b-d<k)(hk:0<k):MX [dt a c,dt b d]=dt (a*k+b) (c*k+d):=by rw[orZ2];rcases Int.lt_trichotomy a c with h|h|h;have:(a+1)*k<=c*k:=Rf Z Z;rw[Int.add_mul,Int.one_mul]at this;have e:dt a c= -1:=(by unfold dt;rw[UG h]);have F:dt (a*k+b) (c*k+d)= -1:=(by unfold dt;rw[UG Z]);grind;subst h;have e:dt a a=0:=(by unfold dt;rw[ND Z,ND Z]);rw[e,UG rfl];unfold dt;grind;have:(c+1)*k<=a*k:=Rf Z Z;rw[Int.add_mul,Int.one_mul]at this;have e:dt a c=1:=(by unfold dt;rw[ND Z,UG h]);have F:dt (a*k+b) (c*k+d)=1:=(by unfold dt;rw[ND Z,UG Z]);grind
def Rk{x:KW}{g:Option Nat}(h:m.get b=.cells x.c 85 g):aC TE m 85 (Ω b 0)=some x.v:=(Dv h).2.2.2
def Ro(hX:cp X)(hI:E1 X){l:List KW}{v:O}{x:KW}(hl:Sl m l v)(hb:l.length<400)(F:l.Pairwise λa b=>a.u.id<b.u.id)(h1:one x.w)(h2:one x.mv):
  ∃rv m',xw X 36 [v,x.v,.func (.func 37) #[] #[]] m rv m'/\Ext m m'/\Ow m.n m' (iZ (λx:KW=>x.u.id) l x) rv/\D.bL rv=false:=
 FQ eR rfl (hX.no _ rfl) (U5 func36) rfl F36 (key:=λx:KW=>x.u.id) F hb (λ_=>⟨rfl,h1,h2⟩) (λH b h=>Rk (x:=x) h)
  (λH hx=>JY eR (hX.no _ rfl) (U5 func89) rfl F89 (key:=λx:KW=>x.u.id) hb (hl.ak hx) F (λH b h=>Rk (x:=x) h) λH _ y _ cs hr=>by
   obtain⟨rfl, -⟩:cs=y.c/\_:=hr;exact adR hX y x)
  (λH hx=>NU hX (hl.ak hx) Z) (λH=>bv)
  λhc hi hg hn=>qd (N:=⟨91,7,85⟩) eR zv rfl (U5 func91) rfl acH (λ_=>bv) rfl rfl hI.kp hc hi Z hg ⟨rfl,h1,h2⟩ hn
def Rp(hX:cp X)(hI:E1 X){l:List Fc}{v:O}{x:Fc}(hl:Sl m l v)(hb:l.length<400)(H:∀f∈x::l, -2<=f.side/\f.side<=7)(F:l.Pairwise λa b=>H2 a<H2 b):
  ∃rv m',xw X 38 [v,x.v,.func (.func 39) #[] #[]] m rv m'/\Ext m m'/\Ow m.n m' (iZ H2 l x) rv/\D.bL rv=false:=
 FQ lv rfl (hX.no _ rfl) (U5 func38) rfl F38 (key:=H2) F hb (λ_=>rfl) (λmm b h=>(GB (x:=x) h).2.2)
  (λmm hx=>JY lv (hX.no _ rfl) (U5 func93) rfl F93 (key:=H2) hb (hl.ak hx) F (λmm b h=>(GB (x:=x) h).2.2) λmm _ y hy cs hr=>by
   obtain rfl:cs=y.c:=hr;have h1:=H x Mq;have h2:=H y (DJ _ hy);rw[show H2 y=y.un*16+y.side from rfl,show H2 x=x.un*16+x.side from rfl,<-LA Z Z Z];exact Bo hX y x)
  (λmm hx=>EP hX (hl.ak hx) Z) (λmm=>bv)
  λhc hi hg hn=>qd (N:=⟨94,2,103⟩) lv Gq rfl (U5 func94) rfl Vb (λ_=>bv) rfl rfl hI.fc hc hi Z hg rfl hn
def Rn(hX:cp X)(hI:E1 X){l:List Mo}{v:O}{x:Mo}(hl:Sl m l v)(hb:l.length<400)(H:∀f∈x::l,0<=f.b/\f.b<=99)(F:l.Pairwise λa b=>QV a<QV b):
  ∃rv m',xw X 40 [v,x.v,.func (.func 41) #[] #[]] m rv m'/\Ext m m'/\Ow m.n m' (iZ QV l x) rv/\D.bL rv=false:=
 FQ kj rfl (hX.no _ rfl) (U5 func40) rfl F40 (key:=QV) F hb (λ_=>rfl) (λmm b h=>(Jp (x:=x) h).2.2.2)
  (λmm hx=>JY kj (hX.no _ rfl) (U5 func96) rfl F96 (key:=QV) hb (hl.ak hx) F (λmm b h=>(Jp (x:=x) h).2.2.2) λmm _ y hy cs hr=>by
   obtain rfl:cs=y.c:=hr;have h1:=H x Mq;have h2:=H y (DJ _ hy);rw[show QV y=y.a*128+y.b from rfl,show QV x=x.a*128+x.b from rfl,<-LA Z Z Z];exact zz hX y x)
  (λmm hx=>EO hX (hl.ak hx) Z) (λmm=>bv)
  λhc hi hg hn=>qd (N:=⟨97,3,60⟩) kj J7 rfl (U5 func97) rfl U8 (λ_=>bv) rfl rfl hI.mo hc hi Z hg rfl hn
def AR{a b:Fc}(F: -2<=a.side/\a.side<=7)(H: -2<=b.side/\b.side<=7):og a b↔H2 a<H2 b:=by unfold og H2;omega
def FG{a b:Mo}(F:0<=a.b/\a.b<=99)(H:0<=b.b/\b.b<=99):nz a b↔QV a<QV b:=by unfold nz QV;omega
def abW{y:Yd}(H:mS y)(hs: -2<=t.side/\t.side<=7)(hk:t.kind=8):An y t=iZ H2 y.rc ⟨t.id,t.side⟩:=by have F:y.rc.Pairwise λa b=>H2 a<H2 b:=(by refine H.BS.imp_of_mem λha hb h=>?_;exact(AR (H.Am _ ha).2 (H.Am _ hb).2).1 h);unfold An;by_cases hm:(⟨t.id,t.side⟩:Fc)∈y.rc;rw[ND λh=>h.2 hm];have b0:(y.rc.any λz=>decide (H2 z=H2 ⟨t.id,t.side⟩)):=U7.2 ⟨_,hm,co⟩;have⟨h1,h2⟩:=vu F b0;rw[<-h2];have⟨k,d0⟩:=MI hm;have e0:fo H2 y.rc (H2 ⟨t.id,t.side⟩)=k:=(by have g0:=(Nr.1 d0).1;rw[Vr]at F;refine KA Z (λi z hi hz=>?_) λi z hi hz=>?_;grind;grind);rw[e0];apply Xx;grind;rw[UG ⟨hk,hm⟩];unfold iZ;congr 1;exact Vx λz hz=>ge.2 (AR (H.Am _ hz).2 hs);congr 1;exact Vx λz hz=>ge.2 (AR hs (H.Am _ hz).2)
def UF{y:Yd}(hP:mS y)(H:0<=t.other/\t.other<=99)(hk:t.kind=9):DC y t=iZ QV y.mo ⟨t.id,t.other,t.du⟩:=by unfold DC;rw[UG hk];unfold iZ;have ok:∀z∈y.mo,0<=z.b/\z.b<=99:=λz F=>(by have:=hP.Jo z F;omega);congr 1;exact Vx λz F=>ge.2 (FG (ok z F) H);congr 1;exact Vx λz F=>ge.2 (FG H (ok z F))
def Ru(l:List KW)(x:KW):vP (iZ (λx:KW=>x.u.id) l x)=iZ (λk:Kp=>k.un.id) (vP l) x.k:=by unfold iZ vP;rw[MN,UM,Xl,Xl];rfl
def vf(hX:cp X){x:KW}(h1:Sl m x.u.shape x.w)(h2:Sl m x.ms x.mv)(l1:x.u.shape.length<=1000000)(l2:x.ms.length<=1000000):
  ∃v m',xw X 34 [x.v] m v m'/\Ext m m'/\∃k:KW,v=k.v/\k.u=x.u/\k.ms=x.ms/\Sl m' k.u.shape k.w/\Sl m' k.ms k.mv:=by apply Cl.Iz hX (U5 func34);rw[F34];dsimp only[aH];refine ah λm1 O0 n0 P0=>?_;refine ah λm2 Q0 o0 p0=>?_;have x2:Ext m m2:=⟨Z,J⟩;have g1:m2.get m.n=.cells x.c 85 none:=(p0 _ Z).trans n0;have g2:m2.get m1.n=.cells (KW.c ⟨⟨0,0,0,[],0,0⟩,Z9,[],Z9⟩) 85 none:=o0;have ln:∀{mm:M} {y:KW} {b:Nat} {g:Option Nat},mm.get b=.cells y.c 85 g->aC TE mm 41 (Ω b (0+0+3))=some y.w:=λh=>(by rw[oP,aG h];rfl);unfold ptrTo;simp only[bW,dC,bA,Y];rw[ln g1,Y];have⟨w',m7,c7,x7,p7⟩:=EN (m:=m2) hX (h1.ak x2) l1;apply aw c7;have n7:=x7.n;have hw:=PT p7.sl;have G1:=x7.cells g1;refine bS uN G1 (by rw[hw.1];rfl) J J λm11 s0 u0 H=>?_;have g11:m11.get m.n=.cells (KW.c ⟨x.u,w',x.ms,x.mv⟩) 85 none:=J;have h0:∀c cs t g,m7.get c=.cells cs t g->t≠85->m11.get c=.cells cs t g:=λc cs t g hc ht=>(H c λe=>J).trans hc;have ht:∀{α:Type} [aL α] {l:List α} {v:O} {ma mb:M},(∀c cs t g,ma.get c=.cells cs t g->t≠85->mb.get c=.cells cs t g)->(∀t,t∈aL.ty α::aL.dN α->t≠85)->Sl ma l v->Sl mb l v:=λhk ht h=>h.aX λc cs t g hc hm=>hk c cs t g hc (ht t hm);have tp:∀t,t∈aL.ty Pl::aL.dN Pl->t≠85:=λt h=>(by simp only[aL.ty,aL.dN,VM,DA,or_false]at h;subst h;decide);have tm:∀t,t∈aL.ty Mk::aL.dN Mk->t≠85:=λt h=>(by simp only[aL.ty,aL.dN,VM,DA,or_false]at h;subst h;decide);rw[(Dv g11).2.2.1,Y];have⟨F,m16,q0,b0,i0⟩:=C2 (m:=m11) hX (ht h0 tm ((h2.ak x2).ak x7)) l2;apply aw q0;have n16:=b0.n;have hm:=PT i0.sl;have r0:=b0.cells g11;refine bS D7 r0 (by rw[hm.1];rfl) J J λm19 y0 A0 d0=>?_;have g19:m19.get m.n=.cells (KW.c ⟨x.u,w',x.ms,F⟩) 85 none:=J;have j0:∀c cs t g,m16.get c=.cells cs t g->t≠85->m19.get c=.cells cs t g:=λc cs t g hc ht=>(d0 c λe=>J).trans hc;have G2:=(d0 m1.n Z).trans (b0.cells ((H m1.n Z).trans (x7.cells g2)));rw[(Dv g19).2.2.2,Y];refine aj GO G2 rfl rfl (KW.dp (x:=⟨x.u,w',x.ms,F⟩) hw.2 hm.2) λm22 B0 k0 e0=>?_;have g22:m22.get m1.n=.cells (KW.c ⟨x.u,w',x.ms,F⟩) 85 none:=k0;have l0:∀c cs t g,m19.get c=.cells cs t g->t≠85->m22.get c=.cells cs t g:=λc cs t g hc ht=>(e0 c λe=>J).trans hc;rw[(Dv g22).2.2.2,Y];have xm:Ext m m22:=⟨Z,λc hc=>by rw[e0 c Z,d0 c Z,b0.get c Z,H c Z,x7.get c Z,x2.get c hc]⟩;have s1:Sl m22 x.u.shape w':=ht l0 tp (ht j0 tp ((ht h0 tp p7.sl).ak b0));have s2:Sl m22 x.ms F:=ht l0 tm (ht j0 tm i0.sl);refine Lh (m:=m) (vs:=[KW.v ⟨x.u,w',x.ms,F⟩]) (Q:=λv m'=>∃k:KW,v=k.v/\k.u=x.u/\k.ms=x.ms/\Sl m' k.u.shape k.w/\Sl m' k.ms k.mv) Z xm ⟨_,rfl,rfl,rfl,s1,s2⟩ λhf=>?_;have g0:(true && (true && (true && (D.bL w' && (true && (true && (D.bL F && true))))))):=hf;simp only[DO,UY,G4]at g0;exact⟨⟨x.u,w',x.ms,F⟩,rfl,rfl,rfl,(nQ s1 g0.1 m).2,(nQ s2 g0.2 m).2⟩
structure DX(m0:M)(wd:Nat)(m:M)(r r2 rc mo:O)(acc:List KW)(st:O):Prop where
 cell:m.get wd=.cells (yc r r2 st rc mo) 37 none
 st:Ow m0.n m acc st
 kv:∀k∈acc,Sl m k.u.shape k.w/\Sl m k.ms k.mv/\k.u.shape.length < 1000000/\k.ms.length < 1000000
 n:m0.n<=m.n
 fr:∀c,c < m0.n->c≠wd->m.get c=m0.get c
variable{m0:M}{wd:Nat}{r r2 rc mo st:O}{acc:List KW}
def DX.ak(h:DX m0 wd m r r2 rc mo acc st)(F:Ext m m'):DX m0 wd m' r r2 rc mo acc st:=
 ⟨F.cells h.cell,h.st.ak F,λk H=>⟨(h.kv k H).1.ak F,(h.kv k H).2.1.ak F,(h.kv k H).2.2⟩,Xp h.n F.n,λc h1 h2=>(F.get c (Z1 h1 h.n)).trans (h.fr c h1 h2)⟩
def DX.push(h:DX m0 wd m r r2 rc mo acc st)(hO:wd<m0.n){k:KW}(hk:Sl m k.u.shape k.w/\Sl m k.ms k.mv/\k.u.shape.length<1000000/\k.ms.length<1000000)(hl:acc.length<1000000):
  ∃a m1 r' m2 m3,aQ TE m 33 1 [(0,k.v)]=some (a,m1)/\aR TE (M.wl m1 (M.n m1)) .append [33,33] [st,a]=some (r',m2)/\bh TE m2 33 (Ω wd (0+2)) r'=some (m3,wd)/\m0.n<=m2.low/\DX m0 wd m3 r r2 rc mo (acc++ [k]) r':=by obtain⟨m1,H⟩:∃q,q=m.push (.cells k.c 85 none):=⟨_,rfl⟩;have b0:Ext m m1:=H ▸ Ext.refl.push;have e0:m1.get m.n=.cells k.c 85 none:=(by rw[H];exact M.aU);have hn:=h.n;have h0:=b0.n;obtain⟨r',m2,m3, -,p1,p2,p3,p4,p5,p6,p7,p8⟩:=BT (n1:=m0.n) (o:=2) zv rfl Kj rfl h.cell (by rfl) hO hn h.st b0 (lz (x:=k) e0 ⟨rfl,hk.1.one,hk.2.1.one⟩) hl;have ks:∀{α:Type} [aL α] {l:List α} {v:O},(∀t,t∈aL.ty α::aL.dN α->t≠85/\t≠37)->Sl m l v->Sl m3 l v:=λht hs=>hs.aX λc cs t g hc hm=>(by have d0:=b0.cells hc;rw[p8 c (M.aM d0) (λe=>by subst e;rw[h.cell]at hc;cases hc;exact(ht _ hm).2 rfl) λi0 g' e=>by rw[d0]at e;cases e;exact(ht _ hm).1 rfl,d0]);have g0:∀z:KW,Sl m z.u.shape z.w/\Sl m z.ms z.mv/\z.u.shape.length<1000000/\z.ms.length<1000000->Sl m3 z.u.shape z.w/\Sl m3 z.ms z.mv/\z.u.shape.length<1000000/\z.ms.length<1000000:=λz F=>⟨ks (λt h=>by simp only[aL.ty,aL.dN,VM,DA,or_false]at h;subst h;decide) F.1,ks (λt h=>by simp only[aL.ty,aL.dN,VM,DA,or_false]at h;subst h;decide) F.2.1,F.2.2⟩;refine⟨_,m1,r',m2,m3,H ▸ QH,p1,p2,p3,⟨p4,p5,λz F=>?_,Z,λc h1 h2=>(p7 c h1 h2).trans (h.fr c h1 h2)⟩⟩;rcases IF.1 F with F|F;exact g0 z (h.kv z F);grind
def DX.kev{y:List Kp}(h:DX m0 wd m r r2 rc mo acc st)(he:vP acc=y){m':M}(H:∀c cs t g,m.get c=.cells cs t g->t≠37->m'.get c=.cells cs t g):∃k,vP k=y/\GD m' k st:=
 ⟨acc,he,GD.aX ⟨h.st.sl,h.st.sln,λx F=>(h.kv x F).1,λx F=>(h.kv x F).2.1,λx F=>(h.kv x F).2.2.1,λx F=>(h.kv x F).2.2.2⟩ λc cs t g hc ht=>H c cs t g hc J⟩
def VR{r r2 a b:O}(F:cells a=[a])(H:cells b=[b]):bz TE 37 [(0,.agg #[r,r2]),(2,a),(3,b)]=some (yv r r2 Z9 a b):=by rw[aba rfl J J,F,H];rfl
def adH{p q:O}{g:Option Nat}(h:m.get b=.cells [p,q] 32 g):aC TE m 32 (Ω b 0)=some (.agg #[p,q]):=(kb h).2.2.2
def rT(y:Yd)(t:Tk):Option Yd:=if eB t=true then mU rS cg bU y t else none
def GF{y:Yd}:rT y t=(eG rS cg bU y t).map λp=>⟨p.1,p.2,rD y t,An y t,DC y t⟩:=by unfold rT eG mU;grind
def acL{y:Yd}{p:List Un×List Mk}(h:eG rS cg bU y t=some p)(k:t.kind=2):(cz y.us t.id).isSome:=by unfold eG at h;split at h;obtain⟨l,F, -⟩:=W9.1 h;unfold fO at F;grind;cases h
def TH{y:Yd}{p:List Un×List Mk}(h:eG rS cg bU y t=some p):eB t:=by unfold eG at h;grind
def stays(t:Tk)(k:Kp):Bool:= !decide (t.kind=3) || !decide (k.un.id=t.id)
def stA_n{y:Yd}(h:t.kind≠2):rD y t=y.st.filter (stays t):=by unfold rD stays;rw[ND h];split;grind;rename_i e;rw[Uc.2];grind
def T8(h:t.kind=2)(l:List Kp):l.filter (stays t)=l:=by rw[Uc];intro k _;unfold stays;grind
structure EndK(m0:M)(wd:Nat)(m:M)(p q:O)(st:List Kp)(rl:List Fc)(ml:List Mo):Prop where
 ex:∃a b c,m.get wd=.cells (yc p q a b c) 37 none/\(∃k,vP k=st/\GD m k a)/\Sl m rl b/\Sl m ml c
 n:m0.n<=m.n
 fr:∀c,c < m0.n->c≠wd->m.get c=m0.get c
set_option maxHeartbeats 4000000 in
theorem adI(hX:cp X)(c6:Di X)(hI:rC X)(hY:E1 X)(d6:N6 X)(hU:gD m){y:Yd}{r r2 st rc mo:O}{t:Tk}{w:O}(hV:rR m y r r2 st rc mo)(hP:mS y)(hw:Sl m t.un.shape w)(f6:t.un.shape.length < 100000):
  ∃rv m',xw X 11 [yv r r2 st rc mo,t.v w] m rv m'/\Ext m m'/\lO (rT y t) m' rv:=by
 apply Cl.Iz hX (U5 func11);have g6:=hV;have⟨⟨f4,i2,hF⟩,h6,⟨kl,g4,hK⟩,i6,j6⟩:=hV;have j4:cq (bH f4):=(by rw[i2];exact hP.xU);have y7:kl.length<=12:=(by have:=hP.PH;rw[<-g4,kE]at this;exact this);rw[F11];dsimp only[aH];refine ah λm1 a9 k4 k6=>?_;refine ah λm2 b9 l4 m4=>?_;refine ah λm3 c9 n4 T2=>?_;have x3:Ext m m3:=⟨Z,J⟩;have g1:m3.get m.n=.cells (yc r r2 st rc mo) 37 none:=(T2 m.n Z).trans ((m4 _ Z).trans k4);have g2:m3.get m1.n=.cells (t.c w) 58 none:=(T2 _ Z).trans l4;have g3:m3.get m2.n=.cells (yc Z9 Z9 Z9 Z9 Z9) 37 none:=n4;clear k4 k6 l4 m4 n4 T2;unfold ptrTo;simp only[dn,dF,fE,fD,bI,dE,cU,cT,dD,cL,bW,dC,aW,Y];rw[(eU g1).2.2.2.2,Y,kW g2,Y];have⟨rv,m7,c7,x7,d7⟩:=Oy (m:=m3) hX c6 hI d6 (hU.ak x3) (g6.ak x3) hP (hw.ak x3) f6;apply aw c7;have n7:=x7.n;obtain⟨v7,p,q,ok,rfl,o1,o2,k0⟩:∃v7 p q ok,rv=.tuple #[v7,.agg #[p,q],.bool ok]/\one p=true/\one q=true/\(match eG rS cg bU y t with |some (vs,ns)=>ok=true/\gW vs ns m7 (.agg #[p,q]) |none=>ok=false):=(by have a7:=d7.1;unfold AA at a7;cases hs:eG rS cg bU y t with|none=>grind|some d=>have⟨vs,ns⟩:=d;rw[hs]at a7;obtain⟨v,p,q,rfl,h1⟩:=a7;have⟨_,_,_,e,_,h2,h3⟩:=id h1;cases e;exact⟨_,_,_,_,rfl,h2.sl.one,h3.one,rfl,h1⟩);have o7:([p,q]:ν).all one=true:=(by show(one p && (one q && true))=true;rw[o1,o2];rfl);rw[aE,aE,aE];simp only[XW,Q7,Y];refine ah λm12 z7 o4 A7=>?_;refine aj eF o4 rfl rfl o7 λm13 a8 r4 b8=>?_;have g13:m13.get m7.n=.cells [p,q] 32 none:=r4;have u4:Ext m7 m13:=⟨Z,J⟩;have o0:=x7.trans u4;rw[bB,Y,ag];refine af (λc=>?_) (λc=>?_);rw[yC]at c;have l6:rT y t=none:=(by rw[GF];cases hs:eG rS cg bU y t with|none=>rfl|some d=>have⟨vs,ns⟩:=d;rw[hs]at k0;rw[k0.1]at c;cases c);rw[show bz TE 37 []=some (yv Z9 Z9 Z9 Z9 Z9) by kernel_rfl,Y];refine aj oH (o0.cells g3) rfl rfl rfl λm17 c8 w4 d8=>?_;rw[(eU (show m17.get m2.n=.cells (yc Z9 Z9 Z9 Z9 Z9) 37 none from w4)).2.2.2.2,Y];exact .inl ⟨rfl,Z,by first |rfl |trivial,.refl,by unfold lO;rw[l6];rfl⟩;rw[HO]at c;subst c;obtain⟨⟨vs,ns⟩,hs⟩:∃d,eG rS cg bU y t=some d:=(by cases hs:eG rS cg bU y t with|none=>rw[hs]at k0;cases k0|some d=>exact⟨d,rfl⟩);rw[hs]at k0;have⟨us,p',q',e,m6,n6,o6⟩:=k0.2;cases e;have d1:=TH hs;have hD:rT y t=some ⟨vs,ns,rD y t,An y t,DC y t⟩:=(by rw[GF,hs];rfl);rw[adH g13,Y,(eU (o0.cells g1)).2.2.1,Y];have f8:=hP.Xn;have g8:=hP.UE;have h8:=hP.Du.len;obtain⟨p0,m20,r6,y4,s6⟩:=EP (m:=m13) hX ((i6.ak x3).ak o0) Z;refine aw r6 ⟨R8 _,?_⟩;have A0:=o0.trans y4;rw[(eU (A0.cells g1)).2.2.2.1,Y];obtain⟨d0,i1,u6,U2,c3⟩:=EO (m:=m20) hX ((j6.ak x3).ak A0) Z;refine aw u6 ⟨R8 _,?_⟩;have j2:=A0.trans U2;have d3:=s6.sl.ak U2;rw[VR d3.cells c3.sl.cells,Y];refine ah λd9 i8 A4 j8=>?_;refine aj oH A4 rfl rfl (by show(one p && (one q && (true && (one p0 && (one d0 && true)))))=true;rw[o1,o2,d3.one,c3.sl.one];rfl) λs0 l8 B4 m8=>?_;have gO:s0.get i1.n=.cells (yc p q Z9 p0 d0) 37 none:=B4;have K1:Ext i1 s0:=⟨Z,J⟩;have i0:=j2.trans K1;have n329:=i0.n;have n325:=j2.n;have n320:=A0.n;have n313:=o0.n;have l2:=(hK.ak x3).ak i0
 rw[(eU (i0.cells g1)).2.1,Y,l2.sl.len eR,an];refine Lp.intro (γ:=Nat) (λi=>kl.length-i) (λi vs mm lo=>∃acc sv,vs=[.int .i64 i]/\i<=kl.length/\m.n<=lo/\DX s0 i1.n mm p q p0 d0 acc sv/\vP acc=((vP kl).take i).filter (stays t)) 0 ⟨[],_,rfl,Vw _,Z,⟨gO,.nil,λk hk=>(by cases hk),R8 _,λ_ _ _=>rfl⟩,rfl⟩ ?_;rintro i e9 mm lo ⟨acc,sv,rfl,hi,v6,hO,l0⟩;have nO:=hO.n;have f9:acc.length<=i:=(by have:=congrArg List.length l0;have h2:=X0 (stays t) ((vP kl).take i);rw[kE]at this;rw[ZO]at h2;omega);have j1:∀c,c < m3.n->mm.get c=m3.get c:=λc F=>(hO.fr c Z Z).trans (i0.get c F);have G1:mm.get m.n=_:=(j1 _ Z).trans g1;have G2:mm.get m1.n=_:=(j1 _ Z).trans g2;have iF:∀c cs t g,s0.get c=.cells cs t g->t≠37->mm.get c=.cells cs t g:=λc cs t g F ht=>(hO.fr c (M.aM F) λe=>J).trans F;rw[av,aK,Y,ag];refine af (λa1=>?_) (λi3=>?_);have a1:i < kl.length:=J;obtain⟨k,hk⟩:∃k,kl[i]?=some k:=⟨_,QC a1⟩;have L1:=QP hk;have k1:GD mm kl st:=l2.aX λc cs t g F ht=>iF c cs t g F J;have⟨a,cs,e1,e2,e3⟩:=k1.sl.index eR (k:=.i64) hk;obtain⟨rfl,w6,y6⟩:cs=k.c/\one k.w=true/\one k.mv=true:=e3;have e2:aC TE mm 85 a=some k.v:=e2;have O4:(vP kl)[i]?=some k.k:=(by unfold vP;rw[Uo,hk];rfl);refine aY (λvs m' n0=>vs=[]/\m.n<=n0/\∃acc sv,DX s0 i1.n m' p q p0 d0 acc sv/\vP acc=((vP kl).take (i+1)).filter (stays t)) (λQ hQ=>?_) ?_;rw[e1,Y,e2,Y];refine ah λg9 n8 R4 o8=>?_;refine aj GO R4 rfl rfl (KW.dp w6 y6) λO1 p8 W4 r8=>?_;have a5:O1.get mm.n=.cells k.c 85 none:=W4;have q0:Ext mm O1:=⟨Z,J⟩;have h9:=q0.n;refine aY (λvs m' n0=>vs=[.bool (stays t k.k)]/\O1=m'/\m.n<=n0) (λQ2 Q1=>?_) ?_;unfold stays at Q1;rw[(kX (q0.cells G2)).1,Y,bZ,Y,ag];refine af (λc=>Q1 _ _ _ ⟨by rw[c];rfl,rfl,Z⟩) (λc=>?_);rw[c,NG]at Q1;rw[(Dv a5).1,Y,(kX (q0.cells G2)).2.1,Y,bZ,Y];exact Q1 _ _ _ ⟨rfl,rfl,Z⟩;rintro _ _ iH ⟨rfl,rfl,u2⟩;rw[av,ag];refine af (λc=>?_) (λc=>?_);rw[(eU (q0.cells hO.cell)).2.1,Y,(Dv a5).2.2.2,Y];have j9:=k1.ln k L1;have l9:=k1.lm k L1;obtain⟨v',m9,z6,b5,k',rfl,j3,k3,s1,s2⟩:=vf (m:=O1) hX ((k1.sh k L1).ak q0) ((k1.mv k L1).ak q0) Z Z;refine aw z6 ⟨R8 _,?_⟩;obtain⟨a',n9,r',o9,p9,b1,b2,b3,b4,l3⟩:=((hO.ak q0).ak b5).push Z (k:=k') ⟨s1,s2,J,J⟩ Z;rw[b1,an,b2,an,b3,an];have r9:=b5.n;refine hQ _ _ _ ⟨rfl,Z,_,_,l3,?_⟩;have c5:k'.k=k.k:=(by unfold KW.k;rw[j3,k3]);rw[Z8,O4,IT,<-l0];simp only[My,SV,c,R3,Gj];rw[<-c5];exact MN;refine hQ _ _ _ ⟨rfl,u2,_,_,hO.ak q0,?_⟩;rw[Z8,O4,IT,<-l0];simp only[My,SV,c,Gj,NC];simp;rintro _ _ n0 ⟨rfl,d5,f5,A6,l3,B6⟩;rw[aO,Y,wrap64];exact⟨i+1,Z,f5,A6,rfl,a1,d5,l3,B6⟩;have i3:i=kl.length:=J;subst i3;have l0:vP acc=y.st.filter (stays t):=(by rw[l0,<-g4,MM (by rw[kE];omega)]);have nY:∀{α:Type} [aL α] {l:List α} {v:O} {ma mb:M},(∀c cs t g,ma.get c=.cells cs t g->t≠37->mb.get c=.cells cs t g)->(∀t,t∈aL.ty α::aL.dN α->t≠37)->Sl ma l v->Sl mb l v:=λhk ht h=>h.aX λc cs t g F hm=>hk c cs t g F (ht t hm);have tf:∀t,t∈aL.ty Fc::aL.dN Fc->t≠37:=λt h=>(by simp only[aL.ty,aL.dN,VM,DA,or_false]at h;subst h;decide)
 have tm:∀t,t∈aL.ty Mk::aL.dN Mk->t≠37:=λt h=>(by simp only[aL.ty,aL.dN,VM,DA,or_false]at h;subst h;decide);have to:∀t,t∈aL.ty Mo::aL.dN Mo->t≠37:=λt h=>(by simp only[aL.ty,aL.dN,VM,DA,or_false]at h;subst h;decide);have sR:Sl mm y.rc p0:=nY iF tf (d3.ak K1);have sM:Sl mm y.mo d0:=nY iF to (c3.sl.ak K1);have xm:Ext m mm:=⟨Z,λc F=>by rw[j1 c Z,x3.get c F]⟩;refine aY (λvs m' n0=>vs=[]/\m.n<=n0/\EndK s0 i1.n m' p q (rD y t) (An y t) (DC y t)) (λQ hQ=>?_) ?_;rw[(kX G2).1,Y,aJ,Y,ag];refine af (λk2=>?_) (λk2=>?_);have k2:=Mv k2;have v2:vP acc=y.st:=l0.trans (T8 k2 y.st);have s8:acc.length<=12:=J;have g5:cD mm f4 r:=((hF.ak x3).ak i0).aX λc cs t g F ht=>iF c cs t g F J;have n3:Sl mm y.ms r2:=nY iF tm ((h6.ak x3).ak i0);rw[(eU G1).1,Y,(kX G2).2.1,Y];obtain⟨fv,i5,b7,j5,f95⟩:=wz (m:=mm) hX g5 (by have:=j4.len;unfold bH at this;rw[Xh]at this;omega) ⟨g5.sl.one,n3.one⟩ t.id;apply aw b7;obtain⟨u,wu,is,rfl,fu⟩:=f95.XZ j4;have s9:=j5.n;rw[aE,aE];simp only[XW,Q7,Y];refine ah λu9 u8 w2 k5=>?_;refine aj dO w2 rfl rfl (Un.dp fu.sl.one) λH f7 l1 o3=>?_;have gu:H.get i5.n=.cells (u.c wu) 43 none:=l1;have r1:Ext i5 H:=⟨Z,λc F=>J⟩;rw[bQ gu,Y,S9,Y];refine ah λv8 g7 u1 r3=>?_;refine aj GO u1 rfl rfl (KW.dp (x:=⟨u,wu,[],Z9⟩) fu.sl.one rfl) λy2 h7 v1 u3=>?_;have gK:y2.get H.n=.cells (KW.c ⟨u,wu,[],Z9⟩) 85 none:=v1;have B0:Ext H y2:=⟨Z,λc F=>J⟩;have n100:=r1.n;have n105:=B0.n;have w3:=j5.trans r1;clear w2 k5 l1 o3 u1 r3 v1 u3;have fe:=fu.eq;rw[i2]at fe;have i7:is=true:=(by have:=acL hs k2;rw[fe]at this;cases is;cases this;rfl);subst i7;have j7:cz y.us t.id=some u:=fe;rw[(uM ((w3.trans B0).cells G1)).2.2,Y,(n3.ak (w3.trans B0)).len cJ,an];refine Lp.intro (γ:=Nat) (λj=>y.ms.length-j) (λj vs mq lo=>∃mv,vs=[.int .i64 j]/\j<=y.ms.length/\Ext H mq/\m.n<=lo/\mq.get H.n=.cells (KW.c ⟨u,wu,[],mv⟩) 85 none/\Ow (H.n+1) mq ((y.ms.take j).filter λx=>decide (x.un=t.id)) mv/\H.n < mq.n) 0 ⟨_,rfl,Vw _,B0,Z,gK,.nil,Z⟩ ?_;rintro j vs mq v9 ⟨mv,rfl,hj,T1,w8,gk,w1,y8⟩;have xq:=w3.trans T1;have k7:=n3.ak xq;rw[av,aK,Y,ag];have l5:((y.ms.take j).filter λx=>decide (x.un=t.id)).length<=y.ms.length:=(by grind);refine af (λa1=>?_) (λi3=>?_);have a1:j < y.ms.length:=J;obtain⟨x,hx⟩:∃x,y.ms[j]?=some x:=⟨_,QC a1⟩;have⟨a',cs,p1,p2,p3⟩:=k7.index cJ (k:=.i64) hx;have p2:aC TE mq 68 a'=some x.v:=(by rw[show x.v=.agg cs.toArray from by rw[show cs=x.c from p3]];exact p2);refine aY (λvs m' n0=>∃d0,vs=[]/\Ext H m'/\m.n<=n0/\m'.get H.n=.cells (KW.c ⟨u,wu,[],d0⟩) 85 none/\Ow (H.n+1) m' ((y.ms.take (j+1)).filter λx=>decide (x.un=t.id)) d0/\H.n < m'.n) (λQ' m5=>?_) ?_;rw[p1,Y,p2,Y];refine ah λz8 l7 y1 y3=>?_;refine aj nL y1 rfl rfl rfl λz2 p7 A1 A3=>?_;have A2:z2.get mq.n=.cells x.c 68 none:=A1;have b0:Ext mq z2:=⟨Z,λc F=>J⟩;have n125:=b0.n;clear y1 y3 A1 A3;rw[cS,Y,(wm A2).2.1,Y,(kX ((xq.trans b0).cells G2)).2.1,Y,aJ,Y,ag];refine af (λc=>?_) (λc=>?_);obtain⟨a,w9,r',y9,a2,e1,e2,e3,e4,e5,e6,e7,e8⟩:=La (x:=x) (b0.cells gk) (w1.ak b0) Z
 rw[(Dv (b0.cells gk)).2.2.1,Y,(wm A2).2.2.2.2,Y,e1,an,e2,an,e3,an];refine m5 _ _ _ ⟨r',rfl,⟨Z,λc F=>by rw[e8 c F,b0.get c Z,T1.get c F]⟩,Z,e5,?_,Z⟩;rw[Z8,hx,IT];simp only[My,SV,c,R3,Gj];exact e6;refine m5 _ _ _ ⟨mv,rfl,T1.trans b0,Z,b0.cells gk,?_,Z⟩;rw[Z8,hx,IT];simp only[My,SV,c,Gj,NC];simpa using w1.ak b0;rintro _ m' n0 ⟨d0,rfl,h1,h2,h3,h4,h5⟩;rw[aO,Y,wrap64];exact⟨j+1,Z,d0,rfl,Z,h1,h2,h3,h4,h5⟩;obtain rfl:j=y.ms.length:=(by grind);rw[W8]at w1 l5;obtain⟨L,hL⟩:∃L,L=y.ms.filter λx=>decide (x.un=t.id):=⟨_,rfl⟩;rw[<-hL]at w1 l5;have n5:=hO.ak xq;rw[(eU n5.cell).2.1,Y,(Dv gk).2.2.2,Y];have z9:=fu.ln;have A9:=xq.n;obtain⟨v',o5,r5,B1,k',rfl,j3,k3,s1,s2⟩:=vf (m:=mq) (x:=⟨u,wu,L,mv⟩) hX (fu.sl.ak (r1.trans T1)) w1.sl (by show u.shape.length<=1000000;omega) (by show L.length<=1000000;omega);refine aw r5 ⟨R8 _,?_⟩;have n151:=B1.n;have u0:=n5.ak B1;obtain⟨nv,B2,u5,g0,O0,f156⟩:=Ro (m:=o5) (x:=k') hX hY u0.st.sl Z (by have:=hP.ym;rw[<-v2]at this;unfold vP at this;have:=Nx.1 this;exact this) s1.one s2.one;apply aw u5;have n156:=g0.n;have cn:=O0.sl.cells;refine bS Kj (g0.cells u0.cell) (by rw[cn];rfl) (by rw[cn];show 0+2+1<=5;decide) (by rw[cn];simp[O0.sl.one]) λH1 L2 r0 h0=>?_;have j0:∀c cs t g,B2.get c=.cells cs t g->t≠37->H1.get c=.cells cs t g:=λc cs t g F ht=>(h0 c λe=>by subst e;rw[g0.cells u0.cell]at F;cases F;exact ht rfl).trans F;have v5:k'.u=u:=j3;have w5:k'.ms=L:=k3;have P0:An y t=y.rc:=(by unfold An;rw[ND λh=>Z]);have y5:DC y t=y.mo:=(by unfold DC;rw[ND Z]);have B3:=xq.trans (B1.trans g0);have Q0:∀z∈iZ (λx:KW=>x.u.id) acc k',z=k'\/z∈acc:=λz hz=>(by unfold iZ at hz;grind);have tq:∀t,t∈aL.ty Pl::aL.dN Pl->t≠37:=λt h=>(by simp only[aL.ty,aL.dN,VM,DA,or_false]at h;subst h;decide);have tk:∀t,t∈aL.ty KW::aL.dN KW->t≠37:=λt h=>(by simp only[aL.ty,aL.dN,VM,DA,or_false]at h;subst h;decide);refine hQ _ _ _ ⟨rfl,Z,⟨nv,p0,d0,by rw[r0,cn];rfl,⟨iZ (λx:KW=>x.u.id) acc k',?_,?_⟩,by rw[P0];exact nY j0 tf (sR.ak B3),by rw[y5];exact nY j0 to (sM.ak B3)⟩,Z,λc h1 h2=>by rw[h0 c h2,B3.get c Z,hO.fr c h1 h2]⟩;rw[Ru,v2];unfold rD;rw[UG k2,j7];show _=iZ _ y.st ⟨u,_⟩;rw[<-hL,<-v5,<-w5];refine GD.aX (m:=B2) ⟨O0.sl,O0.sln,λz hz=>?_,λz hz=>?_,λz hz=>?_,λz hz=>?_⟩ λc cs t g F ht=>j0 c cs t g F J;rcases Q0 z hz with rfl |hz;exact s1.ak g0;exact(u0.kv z hz).1.ak g0;rcases Q0 z hz with rfl |hz;exact s2.ak g0;exact(u0.kv z hz).2.1.ak g0;rcases Q0 z hz with rfl |hz;rw[v5];omega;exact(u0.kv z hz).2.2.1;rcases Q0 z hz with rfl |hz;rw[w5];omega;exact(u0.kv z hz).2.2.2;have k2:=Z0 k2;have O3:=stA_n (y:=y) k2;rw[aJ,Y,ag];refine af (λk8=>?_) (λk8=>?_);have k8:=Mv k8;have z5: -2<=t.side/\t.side<=7:=nh.1 (Lj d1 Z).2.2.2.1;rw[(eU hO.cell).2.2.1,Y,(kX G2).2.1,Y,(kX G2).2.2.2.1,Y,Gm,Y];obtain⟨nv,c4,d4,e0,y0,f91⟩:=Rp (x:=⟨t.id,t.side⟩) hX hY sR Z (λf hf=>by rcases VM.1 hf with rfl |hf;exact z5;exact(hP.Am f hf).2) (hP.BS.imp_of_mem λha hb h=>(AR (hP.Am _ ha).2 (hP.Am _ hb).2).1 h);apply aw d4;have r7:=e0.n;have cn:=y0.sl.cells
 refine bS PA (e0.cells hO.cell) (by rw[cn];rfl) (by rw[cn];show 0+3+1<=5;decide) (by rw[cn];simp[y0.sl.one]) λH1 L2 r0 h0=>?_;have j0:∀c cs t g,c4.get c=.cells cs t g->t≠37->H1.get c=.cells cs t g:=λc cs t g F ht=>(h0 c λe=>by subst e;rw[e0.cells hO.cell]at F;cases F;exact ht rfl).trans F;refine hQ _ _ _ ⟨rfl,Z,⟨sv,nv,d0,by rw[r0,cn];rfl,?_,nY j0 tf (by rw[abW hP z5 k8];exact y0.sl),?_⟩,Z,λc h1 h2=>by rw[h0 c h2,e0.get c Z,hO.fr c h1 h2]⟩;exact hO.kev (l0.trans O3.symm) λc cs t g F ht=>j0 c cs t g (e0.cells F) ht;have:DC y t=y.mo:=(by unfold DC;rw[ND Z]);rw[this];exact nY j0 to (sM.ak e0);have k8:=Z0 k8;have P0:An y t=y.rc:=(by unfold An;rw[ND λh=>k8 h.1]);rw[aJ,Y,ag];refine af (λk9=>?_) (λk9=>?_);have k9:=Mv k9;have s7:0<=t.other/\t.other<=99:=nh.1 (Lj d1 Z).2.2.1;rw[(eU hO.cell).2.2.2.1,Y,(kX G2).2.1,Y,(kX G2).2.2.1,Y,(kX G2).2.2.2.2,Y,S7,Y];have ok:∀z∈y.mo,0<=z.b/\z.b<=99:=λz hz=>(by have:=hP.Jo z hz;omega);obtain⟨nv,c4,d4,e0,y0,f91⟩:=Rn (x:=⟨t.id,t.other,t.du⟩) hX hY sM Z (λf hf=>by grind) (hP.Es.imp_of_mem λha hb h=>(FG (ok _ ha) (ok _ hb)).1 h);apply aw d4;have r7:=e0.n;have cn:=y0.sl.cells;refine bS Wg (e0.cells hO.cell) (by rw[cn];rfl) (by rw[cn];show 0+4+1<=5;decide) (by rw[cn];simp[y0.sl.one]) λH1 L2 r0 h0=>?_;have j0:∀c cs t g,c4.get c=.cells cs t g->t≠37->H1.get c=.cells cs t g:=λc cs t g F ht=>(h0 c λe=>by subst e;rw[e0.cells hO.cell]at F;cases F;exact ht rfl).trans F;refine hQ _ _ _ ⟨rfl,Z,⟨sv,p0,nv,by rw[r0,cn];rfl,?_,?_,nY j0 to (by rw[UF hP s7 k9];exact y0.sl)⟩,Z,λc h1 h2=>by rw[h0 c h2,e0.get c Z,hO.fr c h1 h2]⟩;exact hO.kev (l0.trans O3.symm) λc cs t g F ht=>j0 c cs t g (e0.cells F) ht;rw[P0];exact nY j0 tf (sR.ak e0);have k9:=Z0 k9;refine hQ _ _ _ ⟨rfl,v6,⟨sv,p0,d0,hO.cell,hO.kev (l0.trans O3.symm) λc cs t g F _=>F,by rw[P0];exact sR,?_⟩,nO,hO.fr⟩;have:DC y t=y.mo:=(by unfold DC;rw[ND k9]);rw[this];exact sM;rintro _ a2 iH ⟨rfl,u2,⟨a,b,c,gE,⟨ke,u7,A5⟩,sb,sc⟩,nE,B5⟩;have M2:∀c,c < m3.n->a2.get c=m3.get c:=λc F=>(B5 c Z Z).trans (i0.get c F);rw[(eU gE).2.2.2.2,Y];have G3:a2.get m2.n=_:=(M2 m2.n Z).trans g3;have oE:(yc p q a b c).all one=true:=(by show(one p && (one q && (one a && (one b && (one c && true)))))=true;rw[o1,o2,A5.sl.one,sb.one,sc.one];rfl);refine aj oH G3 rfl rfl oE λc2 A8 O5 O2=>?_;have w7:c2.get m2.n=.cells (yc p q a b c) 37 none:=O5;rw[(eU w7).2.2.2.2,Y];have d2:∀c cs t g,a2.get c=.cells cs t g->t≠37->c2.get c=.cells cs t g:=λc cs t g F ht=>(O2 c λe=>by subst e;rw[G3]at F;cases F;exact ht rfl).trans F;have a6:∀c cs t g,s0.get c=.cells cs t g->t≠37->c2.get c=.cells cs t g:=λc cs t g F ht=>d2 c cs t g ((B5 c (M.aM F) λe=>by subst e;rw[gO]at F;cases F;exact ht rfl).trans F) ht;have P2:=u4.trans (y4.trans (U2.trans K1));have b6:rR c2 ⟨vs,ns,rD y t,An y t,DC y t⟩ p q a b c:=⟨⟨us,m6,(n6.ak P2).aX λc cs t g F ht=>a6 c cs t g F J⟩,nY a6 tm (o6.ak P2),⟨ke,u7,A5.aX λc cs t g F ht=>d2 c cs t g F J⟩,nY d2 tf sb,nY d2 to sc⟩
 refine Lh (m:=m) (vs:=[yv p q a b c,.int .i64 0]) (Q:=λrv m'=>lO (rT y t) m' rv) Z ⟨Z,λc F=>by rw[O2 c Z,M2 c Z,x3.get c F]⟩ (by rw[hD];exact⟨_,_,_,_,_,rfl,b6⟩) λhf=>?_;rw[hD];refine⟨_,_,_,_,_,rfl,?_⟩;have c1:((D.bL p && (D.bL q && (D.bL a && (D.bL b && (D.bL c && true))))) && (true && true))=true:=hf;simp only[G4]at c1;exact b6.flat ⟨c1.1.1,c1.1.2.1,c1.1.2.2.1,c1.1.2.2.2.1,c1.1.2.2.2.2.1⟩ m
end
section
section
variable {α:Type} {key:α->Int} {z:α}
def ki(key:α->Int)(a l:List α):List α:=l.foldl (λa x=>a.set (key x).toNat x) a
theorem kh:∀{l a:List α},(ki key a l).length=a.length
 |[],_=>rfl
 |x::l,a=>by show(ki key (a.set (key x).toNat x) l).length=_;rw[kh,C7]
def yA{a l:List α}{x:α}:ki key a (l++ [x])=(ki key a l).set (key x).toNat x:=by unfold ki;rw[List.foldl_append];rfl
theorem ji{i:Nat}:∀{l a:List α},(∀x∈l,0<=key x/\key x≠(i:Int))->(ki key a l)[i]?=a[i]?
 |[],_,_=>rfl
 |x::l,a,h=>by show(ki key (a.set (key x).toNat x) l)[i]?=_;have:=h x Mq;rw[ji λy F=>h y (DJ _ F),Xi Z]
theorem jx{i:Nat}{x:α}:∀{l a:List α},(l.map key).Nodup->(∀x∈l,0<=key x)->x∈l->key x=(i:Int)->i<a.length->(ki key a l)[i]?=some x
 |[],_,_,_,h,_,_=>by cases h
 |y::l,a,H,h0,hx,hi,hl=>by show(ki key (a.set (key y).toNat y) l)[i]?=_;rw[UM,List.nodup_cons]at H;rcases VM.1 hx with rfl|hx;rw[ji λz F=>⟨h0 z (DJ _ F),λe=>H.1 (Ja.2 ⟨z,F,Z⟩)⟩,show(key x).toNat=i by omega,M3 hl];exact jx H.2 (λz F=>h0 z (DJ _ F)) hx hi (by rw[C7];exact hl)
def qB{l a:List α}(hn:(l.map key).Nodup)(H:∀x∈l,0<=key x){i:Nat}(hi:i<a.length):(∃x∈l,key x=(i:Int)/\(ki key a l)[i]?=some x)\/((∀x∈l,key x≠(i:Int))/\(ki key a l)[i]?=a[i]?):=by by_cases h:∃x∈l,key x=(i:Int);have⟨x,F,e⟩:=h;exact .inl ⟨x,F,e,jx hn H F e hi⟩;have h:∀x∈l,key x≠(i:Int):=λx F e=>h ⟨x,F,e⟩;exact .inr ⟨h,ji λx F=>⟨H x F,h x F⟩⟩
def yB{l k a:List α}(hp:k.Perm l)(hn:(l.map key).Nodup)(h0:∀x∈l,0<=key x):ki key a k=ki key a l:=by have b0:(k.map key).Nodup:=(hp.map key).nodup_iff.2 hn;have H:∀x∈k,0<=key x:=λx F=>h0 x (hp.mem_iff.1 F);refine Xx λi=>?_;by_cases hi:i<a.length;rcases qB (a:=a) hn h0 hi with⟨x,F,e,hv⟩|⟨h,hv⟩;rw[hv,jx b0 H (hp.mem_iff.2 F) e hi];rw[hv,ji λx F=>⟨H x F,h x (hp.mem_iff.1 F)⟩];rw[JQ (by rw[kh];omega),JQ (by rw[kh];omega)]
end
def un0:Un:=⟨0,0,0,[],0,0⟩
def M4:Mk:=⟨0,0,0,0,false⟩
def sf(y:Yd):List Un:=ki Un.id (List.replicate 100 un0) (pI y)
def pL(y:Yd):List Mk:=ki Mk.id (List.replicate 100 M4) ((allM y.ms y.st).map Mk.shut)
variable {y z:Yd} {t:Tk}
def mS.ids(h:mS y){u:Un}(hu:u∈pI y):0<=u.id/\u.id<=99:=by rcases IF.1 hu with hu|hu;exact OJ (h.xU.val u hu);obtain⟨k,F,rfl⟩:=Ja.1 hu;exact OJ ((h.Nb k F).val k.un co)
def mS.Hp(h:mS y):((pI y).map Un.id).Nodup:=by unfold pI;rw[MN,DQ];refine⟨?_,?_,λa F b H=>?_⟩;have:=h.xU.Az;exact(Nx.2 this).imp λe=>Z;rw[Je];exact(Nx.2 h.ym).imp λe=>(by simp at e⊢;omega);obtain⟨u,hu,rfl⟩:=Ja.1 F;obtain⟨v,hv,rfl⟩:=Ja.1 H;obtain⟨k,hk,rfl⟩:=Ja.1 hv;exact h.off k hk u hu
def mS.KN(h:mS y){x:Mk}(F:x∈allM y.ms y.st):vM x:=by rcases IF.1 F with F|F;exact h.Du.ok x F;have⟨k,H,F⟩:=U0.1 F;exact(h.DF k H).ok x F
def QY{x:Mk}(h:vM x):(0<=x.id/\x.id<=99)/\0<x.kind:=by unfold vM at h;simp only[G4]at h;have F:=nh.1 h.1.1.1;have H:=nh.1 h.2;omega
def mS.XD(h:mS y){x:Mk}(F:x∈(allM y.ms y.st).map Mk.shut):(0<=x.id/\x.id<=99)/\0<x.kind:=by obtain⟨w,hw,rfl⟩:=Ja.1 F;have:=QY (h.KN hw);exact this
def mS.UA(h:mS y):(((allM y.ms y.st).map Mk.shut).map Mk.id).Nodup:=by have:=h.nod;rw[Je];exact this
def AL{α:Type}{x:α}{i:Nat}(h:i<100):(List.replicate 100 x)[i]?=some x:=by rw[List.getElem?_replicate,UG h]
structure Ts(y z:Yd)(t:Tk):Prop where
 un:∀i:Nat,i < 100->∃a b:Un,(sf y)[i]?=some a/\(sf z)[i]?=some b/\(if t.kind=1/\(i:Int)=t.un.id then a.shape=[]/\b=t.un else(if t.kind=4/\(i:Int)=t.id then{a with du:=t.du}else a)=b)
 mkk:∀i:Nat,i < 100->∃p q:Mk,(pL y)[i]?=some p/\(pL z)[i]?=some q/\(if t.kind=4/\0 < p.kind/\p.un=t.id then M4 else p)=q
def pN(h:i<100):∃a,(sf y)[i]?=some a:=⟨_,QC (by unfold sf;rw[kh];simpa using h)⟩
def tS(h:i<100):∃a,(pL y)[i]?=some a:=⟨_,QC (by unfold pL;rw[kh];simpa using h)⟩
def sV(hu:sf z=sf y)(hm:pL z=pL y)(k1:t.kind≠1)(H:t.kind≠4):Ts y z t:=by refine⟨λi hi=>?_,λi hi=>?_⟩;have⟨a,F⟩:=pN (y:=y) hi;exact⟨a,a,F,by rw[hu];exact F,by simp[k1,H]⟩;have⟨a,F⟩:=tS (y:=y) hi;exact⟨a,a,F,by rw[hm];exact F,by simp[H]⟩
def acw(H:mS y)(h:rT y t=some z):Ts y z t:=by
 unfold rT at h;split at h;(case isFalse=>cases h);rename_i hf;have hz:mS z:=BA H hf h;have pm:∀{w:Yd},mS w->(pI w).Perm (pI y)->(allM w.ms w.st).Perm (allM y.ms y.st)->sf w=sf y/\pL w=pL y:=λhw h1 h2=>⟨yB h1 H.Hp λx F=>(H.ids F).1,yB (h2.map Mk.shut) H.UA λx F=>(H.XD F).1.1⟩;by_cases k1:t.kind=1;have⟨h1,h2,h3⟩:=U1 k1 H h;have hM:pL z=pL y:=(by unfold pL;rw[h2]);refine⟨λi hi=>?_,λi hi=>?_⟩;have hU:sf z=ki Un.id (List.replicate 100 un0) (t.un::pI y):=(by unfold sf;refine yB h1 ((h1.map Un.id).nodup_iff.1 hz.Hp) λx F=>(hz.ids (h1.mem_iff.2 F)).1);have⟨a,ha⟩:=pN (y:=y) hi;have⟨b,hb⟩:=pN (y:=z) hi;refine⟨a,b,ha,hb,?_⟩;have i0:=(h1.map Un.id).nodup_iff.1 hz.Hp;have d0:∀x∈t.un::pI y,0<=x.id:=λx F=>(hz.ids (h1.mem_iff.2 F)).1;split;rename_i hc;constructor;unfold sf at ha;rw[ji λx F=>⟨(H.ids F).1,by rw[hc.2];exact h3 x F⟩,AL hi]at ha;(cases ha;rfl;rw[hU,jx i0 d0 Mq hc.2.symm (by simpa using hi)]at hb;exact(Option.some.inj hb).symm;rename_i hc;rw[ND Z];rw[hU]at hb;rcases qB (a:=List.replicate 100 un0) H.Hp (λx F=>(H.ids F).1) (i:=i) (by simpa using hi)with⟨x,F,e,hv⟩|⟨b0,hv⟩;rw[jx i0 d0 (DJ _ F) e (by simpa using hi)]at hb;exact Option.some.inj ((ha.symm.trans hv).trans hb);rw[ji λx F=>⟨d0 x F,?_⟩]at hb;exact Option.some.inj ((ha.symm.trans hv).trans hb);rcases VM.1 F with rfl|F;omega;exact b0 x F);have⟨a,ha⟩:=tS (y:=y) hi;exact⟨a,a,ha,by rw[hM];exact ha,ND Z⟩;by_cases k2:t.kind=2;have⟨h1,h2⟩:=ad3 k2 H h;exact sV (pm hz h1 h2).1 (pm hz h1 h2).2 k1 Z;by_cases k3:t.kind=3;have⟨h1,h2⟩:=acN k3 H h;exact sV (pm hz h1 h2).1 (pm hz h1 h2).2 k1 Z;by_cases k4:t.kind=4;have⟨u,hu,h1,h2,h3⟩:=abX k4 h;have⟨e0,hid⟩:=eT hu;have g0:∀x,x∈pI z↔(x∈pI y/\x.id≠t.id)\/x={u with du:=t.du}:=(by intro x;unfold pI;rw[h1,h3,IF,IF];have hk:∀w∈y.st.map Kp.un,w.id≠t.id:=λw hw=>(by obtain⟨k,hk,rfl⟩:=Ja.1 hw;have:=H.off k hk u e0;omega);have hp:=(tY (us:=ju y.us t.id) (u:={u with du:=t.du}) λv hv=>by have:=(Uk.1 hv).2;simp at this;show v.id≠u.id;omega).mem_iff (a:=x);rw[hp,VM];unfold ju;rw[Uk];simp only[yC,SU];constructor;rintro((h|h)|h);exact .inr h;exact .inl ⟨.inl h.1,by simpa using h.2⟩;exact .inl ⟨.inr h,hk x h⟩;rintro(⟨h|h,e⟩|h);exact .inl (.inr ⟨h,by simpa using e⟩);exact .inr h;exact .inl (.inl h));refine⟨λi hi=>?_,λi hi=>?_⟩;have⟨a,ha⟩:=pN (y:=y) hi;have⟨b,hb⟩:=pN (y:=z) hi;refine⟨a,b,ha,hb,?_⟩;rw[ND Z];unfold sf at ha hb;split;rename_i hc;rw[jx H.Hp (λx F=>(H.ids F).1) (NA _ e0:u∈pI y) Z (by simpa using hi)]at ha;rw[jx hz.Hp (λx F=>(hz.ids F).1) ((g0 _).2 (.inr rfl)) (by show u.id=_;omega) (by simpa using hi)]at hb;(cases ha;cases hb;rfl;rename_i hc;rcases qB (a:=List.replicate 100 un0) H.Hp (λx F=>(H.ids F).1) (i:=i) (by simpa using hi)with⟨x,F,e,hv⟩|⟨b0,hv⟩;rw[jx hz.Hp (λx F=>(hz.ids F).1) ((g0 x).2 (.inl ⟨F,Z⟩)) e (by simpa using hi)]at hb;exact Option.some.inj ((ha.symm.trans hv).trans hb);rw[ji λx F=>⟨(hz.ids F).1,?_⟩]at hb;exact Option.some.inj ((ha.symm.trans hv).trans hb);rcases(g0 x).1 F with h|rfl;exact b0 x h.1;show u.id≠_;omega);have⟨p,hp⟩:=tS (y:=y) hi
 have⟨q,hq⟩:=tS (y:=z) hi;refine⟨p,q,hp,hq,?_⟩;have h0:∀x,x∈(allM z.ms z.st).map Mk.shut↔x∈(allM y.ms y.st).map Mk.shut/\x.un≠t.id:=(by have j0:∀w∈y.st.flatMap Kp.ms,w.un≠t.id:=λw hw=>(by have⟨k,hk,hw⟩:=U0.1 hw;obtain⟨v,hv,e, -⟩:=(H.DF k hk).un w hw;obtain rfl:v=k.un:=(by simpa using hv);have:=H.off k hk u e0;omega);intro x;unfold allM;rw[h2,h3];unfold ed;simp only[Ja,IF,Uk];constructor;rintro⟨w,⟨h,e⟩|h,rfl⟩;exact⟨⟨w,.inl h,rfl⟩,by show w.un≠_;simpa using e⟩;exact⟨⟨w,.inr h,rfl⟩,j0 w h⟩;rintro⟨⟨w,h|h,rfl⟩,e⟩;exact⟨w,.inl ⟨h,by have e:w.un≠t.id:=e;simpa using e⟩,rfl⟩;exact⟨w,.inr h,rfl⟩);unfold pL at hp hq;rcases qB (a:=List.replicate 100 M4) H.UA (λx F=>(H.XD F).1.1) (i:=i) (by simpa using hi)with⟨x,F,e,hv⟩|⟨b0,hv⟩;obtain rfl:p=x:=Option.some.inj (hp.symm.trans hv);have hk:=(H.XD F).2;split;rename_i hc;rw[ji λw hw=>⟨(hz.XD hw).1.1,?_⟩,AL hi]at hq;exact Option.some.inj hq;intro e2;have⟨k0,l0⟩:=(h0 w).1 hw;have:=jx (a:=List.replicate 100 M4) H.UA (λx F=>(H.XD F).1.1) k0 e2 (by simpa using hi);obtain rfl:p=w:=Option.some.inj (hp.symm.trans this);exact l0 hc.2.2;rename_i hc;have:p.un≠t.id:=λe=>hc ⟨k4,hk,e⟩;rw[jx hz.UA (λx F=>(hz.XD F).1.1) ((h0 p).2 ⟨F,this⟩) e (by simpa using hi)]at hq;exact Option.some.inj hq;obtain rfl:p=M4:=Option.some.inj (hp.symm.trans (hv.trans (AL hi)));rw[ND (λh=>absurd h.2.1 ce)];rw[ji λw hw=>⟨(hz.XD hw).1.1,b0 w ((h0 w).1 hw).1⟩,AL hi]at hq;exact Option.some.inj hq;have k5:5<=t.kind:=(by have:=qV hf;omega);have⟨h1,h2,h3⟩:=UX k5 h;refine sV ?_ ?_ k1 k4;unfold sf pI;rw[h1,h2];unfold pL allM;rw[h2,MN,MN,h3]
end
section
set_option maxRecDepth 100000
set_option maxHeartbeats 0
abbrev aa4{W:Words}{x0 x1 x2:O}{R:ν->M->Nat->Prop}:=cN (P:=fQ TE W Tryz.f4 [x0,x1,x2] m R)
def F14{W:Words}{x0:O}{R:ν->M->Nat->Prop}:=cN (P:=fQ TE W f14 [x0] m R)
end
section
variable {X:aF} {m:M}
def LW{x:UW}(ow:one x.w){P:M->Nat->Prop}(h:∀m2,Ext m m2->m2.n=m.n+1->m2.get m.n=.cells (x.u.c x.w) 43 none->P m2 m.n):
  nW (M.push m (.cells [I 0,I 0,I 0,Z9,I 0,I 0] 43 none)) λm1=>dh (bh TE m1 43 (Ω m.n 0) (x.u.v x.w)) P:=by refine ah λm1 b0 F d0=>?_;refine aj dO F rfl rfl (Un.dp ow) λm2 e0 H g0=>?_;exact h m2 ⟨Z,J⟩ Z H
section
variable {α:Type} [aL α]
def fh(m:M)(b:Nat)(l:List α):Prop:=∃cs g,m.get b=.cells cs (aL.ty α) g/\cs.length=l.length*aL.sz α/\∀i x,l[i]?=some x->aL.rep m x (chunk cs (aL.sz α) i)
abbrev Ak(b n:Nat):O:=.slice (some ⟨b,0,none⟩) n n
def fh.sl{b:Nat}{l:List α}(h:fh m b l):Sl m l (Ak b l.length):=by have⟨cs,g,F,h2,H⟩:=h;refine .inr ⟨b,0,_,cs,g,rfl,F,Z,λi x hi=>?_⟩;have:=H i x hi;rw[Jf];exact this
def fh.aX(F:aL.dN α=[]){b:Nat}{l:List α}{m':M}(h:fh m b l)(H:m'.get b=m.get b):fh m' b l:=by have⟨cs,g,h1,h2,h3⟩:=h;exact⟨cs,g,H.trans h1,h2,λi x hi=>aL.aX (h3 i x hi) λb c t g _ h=>by rw[F]at h;cases h⟩
def fh.put(e0:aL.dN α=[]){b:Nat}{l:List α}(h:fh m b l){i:Nat}(H:i<l.length){T t0:TypeId}(hT:qs TE T t0 α):
  (∀q,aD TE T (Ak b l.length) (.int q i)=some (Ω b (0+i*aL.sz α)))/\
   ∀(y:α) (w:O) (ti:TI),TE.ty.get t0=some ti->ti.size=aL.sz α->aL.rep m y (cells w)->
    ∀P:M->Nat->Prop,(∀m1,m1.n=m.n->fh m1 b (l.set i y)->(∀c,c≠b->m1.get c=m.get c)->P m1 b)->
    dh (bh TE m t0 (Ω b (0+i*aL.sz α)) w) P:=by have⟨cs,g0,h4,h5,h6⟩:=h;have⟨i0,te,t1,⟨e,t2⟩,t3,t4,t5,t6⟩:=hT;have j0:=aL.pos (α:=α);have hmul:(i+1)*aL.sz α<=l.length*aL.sz α:=MO _ H;rw[IM,HY]at hmul;refine⟨λq=>?_,λy w ti ht k0 hr P hP=>?_⟩;have b0:0<=(i:Int)/\(i:Int)< (l.length:Int)/\0<i0.es:=⟨Z,Z,Z⟩;simp only[aD,t1,t2];rw[UG b0,bs rfl,t3];rfl;have d0:(cells w).length=aL.sz α:=aL.len hr;refine bS ht h4 J J (aL.iy hr) λm1 hn hg hk=>?_;rw[d0,Jf]at hg;have hA:(cs.take (i*aL.sz α)).length=i*aL.sz α:=J;have F:∀{z:α} {q:ν},aL.rep m z q->aL.rep m1 z q:=λhr=>aL.aX hr λb c t g hb ht=>(by rw[e0]at ht;cases ht);refine hP m1 hn ⟨_,_,hg,?_,λp z hz=>?_⟩ hk;grind;rcases TJ p i with e|e|e;rw[Xi Z]at hz;rw[cX hA e];have hle:(p+1)*aL.sz α<=i*aL.sz α:=MO _ e;rw[IM,HY]at hle;have:chunk (cs.take (i*aL.sz α)) (aL.sz α) p=chunk cs (aL.sz α) p:=(by unfold chunk;rw[Z3,zm];grind);grind;subst e;rw[M3 H]at hz;cases hz;rw[cy hA (R8 _),Xd];have:chunk (cells w++cs.drop (p*aL.sz α+aL.sz α)) (aL.sz α) 0=cells w:=(by unfold chunk;rw[Vk,Mf,MU d0]);rw[this];exact F hr;rw[Xi Z]at hz;rw[cy hA Z];have h0:=h6 p z hz;have:chunk (cells w++cs.drop (i*aL.sz α+aL.sz α)) (aL.sz α) (p-i)=chunk cs (aL.sz α) p:=(by rw[cy (n:=1) Z Z];unfold chunk;rw[Xa];congr 2;have:p*aL.sz α=(i+1+(p-i-1))*aL.sz α:=J;grind);rw[this];exact F h0
theorem D0{z:ν}:∀{n:Nat},(eg z n).length=n*z.length
 |0=>by unfold eg;simp
 |n+1=>by unfold eg;rw[I8,D0,IM];omega
theorem zy{z:ν}:∀{n i:Nat},i<n->chunk (eg z n) z.length i=z
 |0,_,h=>Z
 |n+1,0,_=>by unfold eg chunk;rw[Vk,Mf,MU rfl]
 |n+1,i+1,h=>by unfold eg;rw[cy (n:=1) Z Z];exact zy Z
def Kt{x:α}{cs:ν}{n:Nat}(H:cs.length=aL.sz α)(hr:∀m',aL.rep m' x cs):fh (m.push (.cells (eg cs n) (aL.ty α) none)) m.n (List.replicate n x):=by refine⟨_,_,M.aU,by rw[D0,H,List.length_replicate],λi y F=>?_⟩;have hi:=(Nr.1 F).1;rw[List.length_replicate]at hi;rw[List.getElem?_replicate,UG hi]at F;cases F;rw[<-H,zy hi];exact hr _
def Tz(n1:Nat)(m:M)(l:List α)(v:O):Prop:=Ow n1 m l v\/∃b cs F,n1<=b/\v=Ak b l.length/\m.get b=.cells cs F none/\Sl m l v
def Tz.sl{n1:Nat}{l:List α}{v:O}(h:Tz n1 m l v):Sl m l v:=by rcases h with h|⟨_,_,_,_,_,_,h⟩;exact h.sl;exact h
def Tz.Ld(F:aL.dN α=[]){n1 B:Nat}{l:List α}{v:O}{m':M}(h:Tz n1 m l v)(hB:B<n1)(hk:∀c,c≠B->c<m.n->m'.get c=m.get c):Tz n1 m' l v:=by rcases h with h|⟨b,cs,te,hb,rfl,H,h3⟩;exact .inl (h.xI F λc h1 H=>hk c Z H);have b0:=(hk b Z (M.aM H)).trans H;refine .inr ⟨b,cs,te,hb,rfl,b0,?_⟩;rcases h3 with⟨e,_⟩|⟨b',o,c,bc,g,e,h4,h5,h6⟩;cases e;cases e;refine .inr ⟨b,0,_,bc,g,rfl,(hk b Z (M.aM H)).trans h4,h5,λi x hi=>aL.aX (h6 i x hi) λb c t g _ h=>by rw[F]at h;cases h⟩
def Tz.append(hT:vp TE T α)(d0:aL.dN α=[]){n1:Nat}{l ys:List α}{v y:O}(h:Tz n1 m l v)(hy:Sl m ys y)(hn:n1<=m.n)(hs:l.length+ys.length<=1000000):
  ∃v' m1,aR TE (m.wl m.n) .append [T,T] [v,y]=some (v',m1)/\Tz n1 m1 (l++ys) v'/\m.n<=m1.n/\n1<=m1.low/\∀c,c<n1->m1.get c=m.get c:=by have hA:Ap n1 m l v:=h.imp id λ⟨b,cs,te,_,h1,F,H⟩=>⟨b,cs,te,h1,F,H⟩;by_cases b0:ys=[];subst b0;rcases h with h|⟨b,cs,te,hb,rfl,F,H⟩;obtain⟨v',m1,e1,ho,hf,hl,_⟩:=h.append hT J hy hn Z;exact⟨v',m1,e1,.inl ho,hf.n,hl,λc hc=>hf.get c hc⟩;refine⟨_,m.wl m.n,append_nil hT (R8 _) J ?_,?_,R8 _,hn,λ_ _=>rfl⟩;rcases hy with⟨rfl,_⟩|⟨b',o,c,bc,g,rfl,_⟩;grind;grind;rw[NC];exact .inr ⟨b,cs,te,hb,rfl,F,H.ak Ext.refl.wl⟩;have⟨v',m1,e1,ho,h1,F,H⟩:=hA.append hT d0 hy b0 hn hs;exact⟨v',m1,e1,.inl ho,h1,F,H⟩
end
def zUW:UW:=⟨un0,.slice none 0 0⟩
def acj:fy TE m 27 (.int .i64 100) (.int .i64 100)=some (Ak m.n 100,m.push (.cells (eg zUW.c 100) 43 none)):=bv
def XB:fy TE m 30 (.int .i64 100) (.int .i64 100)=some (Ak m.n 100,m.push (.cells (eg M4.c 100) 68 none)):=bv
theorem GW{α β:Type}{f:α->β}{k:α->Int}{k':β->Int}(h:∀x,k x=k' (f x)):∀{l a:List α},(ki k a l).map f=ki k' (a.map f) (l.map f)
 |[],_=>rfl
 |x::l,a=>by show(ki k (a.set (k x).toNat x) l).map f=ki k' ((a.map f).set (k' (f x)).toNat (f x)) (l.map f);rw[GW h,Xz,h]
theorem GV{α:Type}{k:α->Int}{x:α}:∀{l a:List α},x∈ki k a l->x∈a\/x∈l
 |[],_,h=> .inl h
 |y::l,a,h=>by rcases GV (l:=l) (a:=a.set (k y).toNat y) h with h|h;rcases Ul h with h|rfl;exact .inl h;exact .inr Mq;exact .inr (DJ _ h)
def zB(x:UW):Int:=x.u.id
def KW.uw(x:KW):UW:=⟨x.u,x.w⟩
structure V9(y:Yd)(m:M)(bu bm:Nat)(U:List UW):Prop where
 u:fh m bu U
 us:bH U=sf y
 sh:∀x∈U,Sl m x.u.shape x.w/\x.u.shape.length < 1000000/\one x.w=true
 mr:fh m bm (pL y)
def Rj{l:List KW}{st:O}(h:Sl m l st){i:Nat}{x:KW}(H:l[i]?=some x):∃b o,aD TE 33 st (I i)=some (Ω b o)/\aC TE m 3 (Ω b (o+0+0))=some (I x.u.id)/\aC TE m 43 (Ω b (o+0))=some (x.u.v x.w)/\aC TE m 30 (Ω b (o+6))=some x.mv/\(∃cs g,m.get b=.cells cs 85 g)/\one x.w:=by have⟨b,o,F,g,cs,q1,q2,q3,q4,q5⟩:=h.iI eR (k:=.i64) H;obtain⟨rfl,ow, -⟩:cs=x.c/\one x.w/\one x.mv:=q3;have q4:o+7<=F.length:=q4;refine⟨b,o,q1,?_,?_,?_,⟨_,_,q2⟩,ow⟩;rw[bP,aG q2];exact q5 0 (by show 0<7;decide);rw[oO,aI (n:=6) q2 Z];have:(F.drop (o+0)).take 6=x.u.c x.w:=(by apply Xx;intro j;rw[Rz];split;rename_i hj;rw[Sa,OX,q5 j (by show j<7;omega)];grind;grind);grind;rw[jC,aG q2];exact q5 6 (by show 6<7;decide)
set_option maxHeartbeats 2000000 in
def uZ(hX:cp X){y:Yd}{r r2 st rc mo:O}(hV:rR m y r r2 st rc mo)(hP:mS y):
  ∃bu bm U m',xw X 14 [yv r r2 st rc mo] m (.tuple #[Ak bu 100,Ak bm 100]) m'/\Ext m m'/\(m.n<=bu/\m.n<=bm/\bu≠bm)/\V9 y m' bu bm U:=by
 refine Cl.kyG hX (U5 func14) (R:=λrv m'=>∃bu bm U,rv=.tuple #[Ak bu 100,Ak bm 100]/\Ext m m'/\(m.n<=bu/\m.n<=bm/\bu≠bm)/\V9 y m' bu bm U) ?_ λrv m' hc ⟨bu,bm,U,e,h⟩=>⟨bu,bm,U,m',e ▸ hc,h⟩;obtain⟨⟨us,q0,hF⟩,Q1,⟨F,g0,hK⟩, -, -⟩:=id hV;have M2:us.length<=12:=(by have:=hP.xU.len;rwa[<-q0,cx]at this);have o2:F.length<=12:=(by have:=hP.PH;rwa[<-g0,kE]at this);have T1:=hP.Kl;rw[F14];dsimp only[aH];refine ah λm1 O2 O0 P0=>?_;have x1:Ext m m1:=⟨Z,P0⟩;have g1:m1.get m.n=.cells (yc r r2 st rc mo) 37 none:=O0;clear O0 P0;unfold ptrTo;rw[acj,an];obtain⟨m3,h0⟩:∃q,q=m1.push (.cells (eg zUW.c 100) 43 none):=⟨_,rfl⟩;rw[<-h0];have x3:Ext m1 m3:=h0 ▸ Ext.refl.push;have n3:m3.n=m1.n+1:=(by rw[h0];exact M.jr);have rU:fh m3 m1.n (List.replicate 100 zUW):=h0 ▸ Kt rfl λ_=>⟨rfl,rfl⟩;rw[XB,an];obtain⟨m5,i0⟩:∃q,q=m3.push (.cells (eg M4.c 100) 68 none):=⟨_,rfl⟩;rw[<-i0];have x5:Ext m3 m5:=i0 ▸ Ext.refl.push;have n5:m5.n=m3.n+1:=(by rw[i0];exact M.jr);have rM:fh m5 m3.n (List.replicate 100 M4):=i0 ▸ Kt rfl λ_=>rfl;rw[jg,an];obtain⟨m7,j0⟩:∃q,q=m5.push (.cells [] 68 none):=⟨_,rfl⟩;rw[<-j0];have x7:Ext m5 m7:=j0 ▸ Ext.refl.push;have n7:m7.n=m5.n+1:=(by rw[j0];exact M.jr);have g7:m7.get m5.n=.cells [] 68 none:=(by rw[j0];exact M.aU);clear h0 i0 j0;have l0:Ext m1 m5:=x3.trans x5;have r0:Ext m m5:=x1.trans l0;simp only[dn,dF,bM,bI,bk,aW,bR,eJ,Y];apply aA (uM ((l0.trans x7).cells g1)).2.2;have u2:y.ms.length<=20:=(by have:(allM y.ms y.st).length=y.ms.length+(y.st.flatMap Kp.ms).length:=I8;omega);have b2:Tz m5.n m7 ([]:List Mk) (.slice (some ⟨m5.n,0,none⟩) 0 0):=.inr ⟨m5.n,[],_,R8 _,rfl,g7,.inr ⟨m5.n,0,0,[],none,rfl,g7,co,J⟩⟩;obtain⟨v11,m12,q1,q2,q3,q4,q5⟩:=b2.append pH rfl (Q1.ak (r0.trans x7)) Z J;rw[q1,an];rw[List.nil_append]at q2;have f12:∀c,c < m5.n->m12.get c=m5.get c:=λc hc=>(q5 c hc).trans (x7.get c hc);have L1:∀{x:UW},x∈us->0<=x.u.id/\x.u.id<=99:=λh=>hP.ids (NA _ (by rw[<-q0];exact US h));have L2:∀{x:KW},x∈F->0<=x.u.id/\x.u.id<=99:=λ{x} h=>hP.ids (u:=x.u) (PZ _ (Ja.2 ⟨x.k,by rw[<-g0];exact US h,rfl⟩));have hT:∀{l:List UW},(ki zB (List.replicate 100 zUW) l).length=100:=(by intro l;rw[kh,List.length_replicate]);refine Lp.intro (γ:=Nat) (λi=>us.length-i) (λi vs mm lo=>vs=[.int .i64 i]/\i<=us.length/\m.n<=lo/\m12.n<=mm.n/\(∀c,c≠m1.n->c < m12.n->mm.get c=m12.get c)/\fh mm m1.n (ki zB (List.replicate 100 zUW) (us.take i))) 0 ⟨rfl,Vw _,Z,R8 _,λ_ _ _=>rfl,rU.aX rfl ((f12 _ Z).trans (x5.get _ Z))⟩ ?_;rintro i vs mm lo ⟨rfl,hi,e0,Q0,H,hR⟩;have f5:∀c,c≠m1.n->c < m5.n->mm.get c=m5.get c:=λc h1 h2=>(H c h1 Z).trans (f12 c h2);have xm:Ext m mm:=⟨Z,λc hc=>(f5 c Z Z).trans (r0.get c hc)⟩;have G1:mm.get m.n=.cells (yc r r2 st rc mo) 37 none:=(f5 _ Z Z).trans (l0.cells g1);have s0:=hF.ak xm;rw[av];apply aA (uM G1).2.1;rw[s0.sl.len cY,an,aK,Y,ag];refine af (λb0=>?_) (λu0=>?_);have b0:i < us.length:=J;obtain⟨x,hx⟩:∃x,us[i]?=some x:=⟨_,QC b0⟩;have hid:=L1 (QP hx);have⟨p,p1,p2,ow⟩:=s0.sl.gR (k:=.i64) hx;apply aA (uM G1).2.1;rw[p1,Y,p2,Y];refine LW ow λm32 y0 v2 gV=>?_
 have n32:=y0.n;obtain⟨j,hj⟩:∃j:Nat,x.u.id=j:=⟨x.u.id.toNat,Z⟩;rw[(kS gV).1,Y,bQ gV,Y];have hp:=(hR.aX rfl (y0.get m1.n Z)).put rfl (i:=j) (by rw[hT];omega) cY;rw[hT]at hp;rw[hj,hp.1,Y];refine hp.2 x (x.u.v x.w) _ dO rfl ⟨rfl,ow⟩ _ λc2 w2 b1 c1=>?_;rw[aO,Y,wrap64];refine⟨i+1,Z,rfl,Z,Z,Z,λc h1 h2=>?_,?_⟩;rw[c1 c h1,y0.get c Z,H c h1 h2];rw[Z8,hx];show fh c2 m1.n (ki zB _ (us.take i++ [x]));rw[yA,show(zB x).toNat=j by show x.u.id.toNat=j;omega];exact b1;obtain rfl:i=us.length:=J;rw[W8]at hR;clear hi u0 G1 s0;refine Lp.intro (γ:=Nat) (λi=>F.length-i) (λi vs m' lo=>∃v,vs=[v,.int .i64 i]/\i<=F.length/\m.n<=lo/\m5.n<=m'.n/\(∀c,c≠m1.n->c < m5.n->m'.get c=m5.get c)/\fh m' m1.n (ki zB (List.replicate 100 zUW) (us++(F.take i).map KW.uw))/\Tz m5.n m' (y.ms++(F.take i).flatMap KW.ms) v) 0 ⟨v11,rfl,Vw _,e0,Z,f5,by simpa using hR,by simpa using q2.Ld rfl (B:=m1.n) Z H⟩ ?_;clear hR H f5 xm e0 Q0;rintro i vs ma lo ⟨v,rfl,hi,e0,Q0,H,hR,k0⟩;have xm:Ext m ma:=⟨Z,λc hc=>(H c Z Z).trans (r0.get c hc)⟩;have G1:ma.get m.n=.cells (yc r r2 st rc mo) 37 none:=(H _ Z Z).trans (l0.cells g1);have d1:=hK.ak xm;rw[av,av];apply aA (eU G1).2.1;rw[d1.sl.len eR,an,aK,Y,ag];have o0:(vP F).flatMap Kp.ms=F.flatMap KW.ms:=(by unfold vP;rw[List.flatMap_map]);refine af (λb0=>?_) (λu0=>?_);(·have b0:i < F.length:=J;obtain⟨x,hx⟩:∃x,F[i]?=some x:=⟨_,QC b0⟩;have i1:=QP hx;have hid:=L2 i1;obtain⟨b,o,e1,e2,e3, -, -,ow⟩:=Rj d1.sl hx;obtain⟨j,hj⟩:∃j:Nat,x.u.id=j:=⟨x.u.id.toNat,Z⟩;apply aA (eU G1).2.1;rw[e1,Y,bW,Y,aW,Y,e2,Y];apply aA (eU G1).2.1;rw[e1,Y,bW,Y,e3,Y];have hp:=hR.put rfl (i:=j) (by rw[hT];omega) cY;rw[hT]at hp;rw[hj,hp.1,Y];refine hp.2 x.uw (x.u.v x.w) _ dO rfl ⟨rfl,ow⟩ _ λj1 y2 k1 d0=>?_;have d2:=(d0 m.n Z).trans G1;have l1:Ext m j1:=⟨Z,λc hc=>(d0 c Z).trans (xm.get c hc)⟩;have p0:=hK.ak l1;obtain⟨b',o',f1, -, -,f4, -, -⟩:=Rj p0.sl hx;apply aA (eU d2).2.1;rw[f1,Y,dC,Y,f4,Y];have hlen:(y.ms++(F.take i).flatMap KW.ms).length+x.ms.length<=20:=(by have h1:(allM y.ms y.st).length=y.ms.length+(F.flatMap KW.ms).length:=(by unfold allM;rw[<-g0,o0,I8]);have h2:F.flatMap KW.ms=(F.take i).flatMap KW.ms++(x.ms++(F.drop (i+1)).flatMap KW.ms):=(by (conv=>lhs;rw[<-Jy i F]);rw[TA,Mr b0,WZ,(Nr.1 hx).2]);rw[h2]at h1;simp only[I8]at h1⊢;omega);obtain⟨v72,g2,a1,a2,a3,a4,a5⟩:=(k0.Ld rfl (m':=j1) (B:=m1.n) Z λc h _=>d0 c h).append pH rfl (p0.mv x i1) Z Z;rw[a1,an,aO,Y,wrap64];have ht:F.take (i+1)=F.take i++ [x]:=(by rw[Z8,hx];rfl);refine⟨i+1,Z,v72,rfl,Z,Z,Z,λc h1 h2=>?_,?_,?_⟩;rw[a5 c h2,d0 c h1,H c h1 h2];rw[ht,MN,<-NZ];show fh g2 m1.n (ki zB _ ((us++(F.take i).map KW.uw)++ [x.uw]));rw[yA,show(zB x.uw).toNat=j by show x.u.id.toNat=j;omega];exact k1.aX rfl (a5 m1.n Z);rw[ht,TA,<-NZ];simpa using a2);obtain rfl:i=F.length:=J;rw[W8]at hR k0;have i2:y.ms++F.flatMap KW.ms=allM y.ms y.st:=(by unfold allM;rw[<-g0,o0]);rw[i2]at k0;obtain⟨A,hA⟩:∃A,A=allM y.ms y.st:=⟨_,rfl⟩;rw[<-hA]at k0;have P2:A.length<=20:=(by rw[hA];exact T1)
 have o1:∀{l:List Mk},(ki Mk.id (List.replicate 100 M4) l).length=100:=(by intro l;rw[kh,List.length_replicate]);refine Lp.intro (γ:=Nat) (λi=>A.length-i) (λi vs mb lo=>vs=[.int .i64 i]/\i<=A.length/\m.n<=lo/\ma.n<=mb.n/\(∀c,c≠m3.n->c < ma.n->mb.get c=ma.get c)/\fh mb m3.n (ki Mk.id (List.replicate 100 M4) ((A.take i).map Mk.shut))) 0 ⟨rfl,Vw _,e0,R8 _,λ_ _ _=>rfl,rM.aX rfl (H _ Z Z)⟩ ?_;clear e0 hi;rintro i vs mb lo ⟨rfl,hi,e0,Q2,n0,A0⟩;have sA:=(k0.Ld rfl (m':=mb) (B:=m3.n) Z n0).sl;rw[av,sA.len cJ,an,aK,Y,ag];refine af (λb0=>?_) (λu0=>?_);have b0:i < A.length:=J;obtain⟨x,hx⟩:∃x,A[i]?=some x:=⟨_,QC b0⟩;have hid:=(QY (hP.KN (hA ▸ QP hx))).1;have⟨p,e1,e2⟩:=sA.qp (k:=.i64) hx;rw[e1,Y,e2,Y];refine ah λT2 z2 r1 u1=>?_;refine aj nL r1 rfl rfl rfl λj2 A2 v1 w1=>?_;have k2:j2.get mb.n=.cells x.c 68 none:=v1;refine bS E9 k2 rfl (by show 0+4+1<=5;decide) rfl λB0 B2 y1 A1=>?_;have B1:B0.get mb.n=.cells x.shut.c 68 none:=y1;have H1:Ext mb B0:=⟨Z,λc hc=>by rw[A1 c Z,w1 c Z,u1 c hc]⟩;obtain⟨j,hj⟩:∃j:Nat,x.id=j:=⟨x.id.toNat,Z⟩;rw[(wm B1).1,Y,show aC TE B0 68 (.pointer (some ⟨mb.n,0,none⟩))=some x.shut.v by rw[AS,aI (n:=5) B1 (by show 0+5<=5;decide)];rfl,Y];have hp:=(A0.aX rfl (H1.get m3.n Z)).put rfl (i:=j) (by rw[o1];omega) cJ;rw[o1]at hp;rw[show x.shut.id=(j:Int)from hj,hp.1,Y];refine hp.2 x.shut x.shut.v _ nL rfl rfl _ λl2 G2 K1 O1=>?_;rw[aO,Y,wrap64];refine⟨i+1,Z,rfl,Z,Z,Z,λc h1 h2=>?_,?_⟩;rw[O1 c h1,H1.get c Z,n0 c h1 h2];rw[Z8,hx,MN];show fh l2 m3.n (ki Mk.id _ ((A.take i).map Mk.shut++ [x.shut]));rw[yA,show x.shut.id.toNat=j by show x.id.toNat=j;omega];exact K1;obtain rfl:i=A.length:=J;rw[W8,hA]at A0;have xb:Ext m mb:=⟨Z,λc hc=>(n0 c Z Z).trans (xm.get c hc)⟩;refine .inr ⟨.inl rfl,Z,m1.n,m3.n,_,rfl,xb,⟨Z,Z,Z⟩,hR.aX rfl (n0 _ Z Z),?_,λx hx=>?_,A0⟩;unfold sf pI bH;rw[GW (k:=zB) (f:=λx:UW=>x.u) (k':=Un.id) λ_=>rfl,List.map_replicate,MN,Je,<-g0];unfold vP;rw[Je,<-q0];rfl;rcases GV hx with h |h;rw[List.mem_replicate]at h;obtain rfl:=h.2;exact⟨.nil,ce,rfl⟩;rcases IF.1 h with h |h;exact⟨(hF.ak xb).sh x h,hF.ln x h,(hF.sh x h).one⟩;obtain⟨k,hk,rfl⟩:=Ja.1 h;exact⟨(hK.ak xb).sh k hk,hK.ln k hk,(hK.sh k hk).one⟩
def P9{α:Type}[aL α](H:aL.dN α=[]){b:Nat}{l:List α}(h:fh m b l){i:Nat}{x:α}(hx:l[i]?=some x){T t0:TypeId}(hT:qs TE T t0 α):
  ∃F g cs,aD TE T (Ak b l.length) (I i)=some (Ω b (0+i*aL.sz α))/\m.get b=.cells F (aL.ty α) g/\aL.rep m x cs/\0+i*aL.sz α+aL.sz α<=F.length/\∀j,j<aL.sz α->F[0+i*aL.sz α+j]?=cs[j]?:=by have h1:=(h.put H (Nr.1 hx).1 hT).1 .i64;have⟨b',o,F,g,cs,e1,e2,e3,e4,e5⟩:=h.sl.iI hT (k:=.i64) hx;rw[h1]at e1;cases e1;exact⟨F,g,cs,h1,e2,e3,e4,e5⟩
def AJ{l:List UW}(h:fh m b l)(F:l.length=100){i:Nat}{x:UW}(H:l[i]?=some x):
  aD TE 27 (Ak b 100) (I i)=some (Ω b (0+i*6))/\aC TE m 43 (Ω b (0+i*6))=some (x.u.v x.w)/\aC TE m 41 (Ω b (0+i*6+3))=some x.w:=by obtain⟨bc,g,cs,q1,q2,⟨rfl, -⟩,q4,q5⟩:=P9 rfl h H cY;rw[F]at q1;refine⟨q1,?_,?_⟩;obtain⟨p,p1,p2, -⟩:=h.sl.gR (k:=.i64) H;rw[F,q1]at p1;cases p1;exact p2;rw[oP,aG q2];exact q5 3 (by show 3<6;decide)
def Qa{l:List UW}(h:fh m b l){i:Nat}{x:UW}(hx:l[i]?=some x){a:Int}{P:M->Nat->Prop}(hP:∀m1,m1.n=m.n->fh m1 b (l.set i ⟨{x.u with du:=a},x.w⟩)->(∀c,c≠b->m1.get c=m.get c)->P m1 b):
  dh (bh TE m 3 (Ω b (0+i*6+2)) (I a)) P:=by have⟨cs,g,h4,h5,h6⟩:=h;have b0:=(Nr.1 hx).1;have h5:cs.length=l.length*6:=h5;refine bS yy h4 rfl (by show 0+i*6+2+1<=cs.length;omega) rfl λm1 hn hg hk=>?_;have F:cs.take (0+i*6+2)++([I a]++cs.drop (0+i*6+2+ [Value.int .i64 a].length))=cs.set (i*6+2) (I a):=(by rw[Jf];exact np Z);have hg:m1.get b=.cells (cs.set (i*6+2) (I a)) (aL.ty UW) g:=(by rw[<-F];exact hg);refine hP m1 hn ⟨_,_,hg,by rw[C7,C7];exact h5,λp z H=>?_⟩ hk;show aL.rep m1 z (chunk (cs.set (i*6+2) (I a)) 6 p);rw[ER ce];by_cases e:p=i;subst e;rw[UG rfl];rw[M3 b0]at H;cases H;have⟨e1,e2⟩:chunk cs 6 p=x.c/\one x.w:=h6 p x hx;exact⟨congrArg (λl=>List.set l 2 (I a)) e1,e2⟩;rw[ND e];rw[Xi (Ne.symm e)]at H;exact h6 p z H
def Fq{l:List Mk}(h:fh m b l)(F:l.length=100){i:Nat}{x:Mk}(H:l[i]?=some x):
  aD TE 30 (Ak b 100) (I i)=some (Ω b (0+i*5))/\aC TE m 68 (Ω b (0+i*5))=some x.v/\aC TE m 3 (Ω b (0+i*5+3))=some (I x.kind)/\aC TE m 3 (Ω b (0+i*5+1))=some (I x.un):=by obtain⟨bc,g,cs,q1,q2,rfl,q4,q5⟩:=P9 rfl h H cJ;rw[F]at q1;refine⟨q1,?_,?_,?_⟩;have⟨p,p1,p2⟩:=h.sl.qp (k:=.i64) H;rw[F,q1]at p1;cases p1;exact p2;rw[bP,aG q2];exact q5 3 (by show 3<5;decide);rw[bP,aG q2];exact q5 1 (by show 1<5;decide)
def aeH:bz TE 68 []=some M4.v:=bv
def V9.ak{y:Yd}{bu bm:Nat}{U:List UW}(h:V9 y m bu bm U)(hx:Ext m m'):V9 y m' bu bm U:=by have⟨⟨cs,g,h1,h2⟩,b0,F,⟨d0,g',h3,h4⟩⟩:=h;exact⟨fh.aX rfl ⟨cs,g,h1,h2⟩ (hx.get _ (M.aM h1)),b0,λx H=>⟨(F x H).1.ak hx,(F x H).2⟩,fh.aX rfl ⟨d0,g',h3,h4⟩ (hx.get _ (M.aM h3))⟩
def V9.len{y:Yd}{U:List UW}(h:V9 y m F H U):U.length=100:=by have h1:(bH U).length=100:=(by rw[h.us];unfold sf;rw[kh,List.length_replicate]);rwa[cx]at h1
def V9.at_{y:Yd}{U:List UW}(h:V9 y m F H U){i:Nat}{a:Un}(hi:(sf y)[i]?=some a):∃x,U[i]?=some x/\x.u=a:=by rw[<-h.us]at hi;unfold bH at hi;rw[Uo]at hi;exact R7.1 hi
def GU{y:Yd}:(pL y).length=100:=by unfold pL;rw[kh,List.length_replicate]
def fh.lt{α:Type}[aL α]{b:Nat}{l:List α}(h:fh m b l):b<m.n:=by have⟨_,_,F,_⟩:=h;exact M.aM F
set_option maxHeartbeats 4000000 in
theorem Dw(hX:cp X)(k4:Di X)(hI:rC X)(hY:E1 X)(l4:N6 X)(hU:gD m)(a2:∀m1:M,Ext m m1->xw X 6 [] m1 VT m1){xs:List I6}{ks:List I4}{vb vk va:O}(hv:Oj m xs vb)(m4:∀x∈xs,x.ok)(hlen:xs.length < 9223372036854775808)(hk:wj m ks vk)(M2:∀x∈ks,x.ok)(b2:ks.length < 9223372036854775808)(n4:one va=true)
  {ws:List I6} {vw:O} (hw:wj m ws vw) (O2:∀x∈ws,x.ok) (d2:ws.length < 9223372036854775808) {i0 i1 i2 i3 i4 i5:Int} (h0:nK i0) (h1:nK i1) (h2:nK i2) (h3:nK i3) (h4:nK i4) (h5:nK i5):
  xw X 4 [.agg #[vb,vk,va],vw,.agg #[.int .i64 i0,.int .i64 i1,.int .i64 i2,.int .i64 i3,.int .i64 i4,.int .i64 i5]] m VT m:=by
 apply Cl.fG hX (U5 func4);rw[aa4];dsimp only[aH];refine ah λm1 y5 P2 o4=>?_;refine ah λm2 z5 T2 b3=>?_;have x2:Ext m m2:=⟨Z,J⟩;have g1:m2.get m.n=.cells [vb,vk,va] 25 none:=(b3 _ Z).trans P2;have g2:m2.get m1.n=.cells [.int .i64 i0,.int .i64 i1,.int .i64 i2,.int .i64 i3,.int .i64 i4,.int .i64 i5] 62 none:=T2;clear P2 o4 T2 b3;unfold ptrTo;apply aw (a2 m2 x2);rw[bB,Y,ag];show lY false _ _;rw[aT,show aC TE m2 25 (.pointer (some ⟨m.n,0,none⟩))=some (.agg #[vb,vk,va]) by rw[K3,aI (n:=3) g1 J];rfl,Y];obtain⟨y,r,r2,st,rc,mo,l,v,m9,c9,x9,hP,hV, -, -,A5,B5⟩:=M6 (m:=m2) hX (hv.ak x2) m4 hlen (hk.ak x2) M2 b2 n4 (hw.ak x2) O2 d2;apply aw c9;have n9:=x9.n;rw[aE,aE];simp only[XW,Q7,Y];refine ah λm13 k5 u1 c3=>?_;refine aj oH u1 rfl rfl hV.iy λm14 l5 v1 d3=>?_;have gY:m14.get m9.n=.cells (yc r r2 st rc mo) 37 none:=v1;have o1:Ext m9 m14:=⟨Z,J⟩;clear u1 c3 v1 d3;have e3:=hV.ak o1;rw[(eU gY).2.2.2.2,Y,show aC TE m14 62 (.pointer (some ⟨m1.n,0,none⟩))=some (.agg #[.int .i64 i0,.int .i64 i1,.int .i64 i2,.int .i64 i3,.int .i64 i4,.int .i64 i5]) by rw[UK,aI (n:=6) ((x9.trans o1).cells g2) J];rfl,Y];have⟨t,w,m19,r4,e2,P0,O5⟩:=Hm (m:=m14) hX e3 hP h0 h1 h2 h3 h4 h5;apply aw r4;have a6:=o1.n;have n19:=e2.n;refine ah λm21 m5 w1 g3=>?_;refine aj wA w1 rfl rfl (Tk.dp P0.one) λm22 n5 y1 j3=>?_;have gT:m22.get m19.n=.cells (t.c w) 58 none:=y1;have Q0:Ext m19 m22:=⟨Z,J⟩;clear w1 g3 y1 j3;have n22:=Q0.n;have A1:=o1.trans (e2.trans Q0);have B1:=(e2.trans Q0).cells gY;rw[(eU B1).2.2.2.2,Y,kW gT,Y];have k3:=x2.trans (x9.trans A1);have G1:=hV.ak A1;obtain⟨rv,l3,u4,a1,hR⟩:=adI (m:=m22) hX k4 hI hY l4 (hU.ak k3) G1 hP (P0.ak Q0) Z;apply aw u4;have n27:=a1.n;obtain⟨a,b,c,d,e,k,rfl,ho,hS,hN⟩:=Om hR;rw[aE,aE];simp only[XW,Q7,Y];refine ah λb6 o5 H1 m3=>?_;refine aj oH H1 rfl rfl ho λm32 r5 K1 n3=>?_;have gN:m32.get l3.n=.cells (yc a b c d e) 37 none:=K1;have B0:Ext l3 m32:=⟨Z,J⟩;clear H1 m3 K1 n3;have n32:=B0.n;have o3:=(a1.trans B0).cells B1;have r3:=(a1.trans B0).cells gT;have u3:=G1.ak (a1.trans B0);have j0:m.n<=m32.n:=Z;rw[bZ,Y,ag];refine af (λhk=>⟨rfl,Z⟩) (λhk=>?_);obtain⟨z,hz⟩:∃z,rT y t=some z:=(by cases hz:rT y t with|none=>rw[hN hz]at hk;cases hk|some z=>exact⟨z,rfl⟩);have w4:=(hS z hz).2.ak B0;have hL:=acw hP hz;have y4:mS z:=(by unfold rT at hz;split at hz;rename_i hf;exact BA hP hf hz;cases hz);rw[(eU o3).2.2.2.2,Y];have⟨bu,bm,U,A4,B4,b1,⟨c6,d6,e6⟩,hE⟩:=uZ (m:=m32) hX u3 hP;apply aw B4;have n37:=b1.n;rw[aE,aE];simp only[XW,Q7,Y];rw[(eU (b1.cells gN)).2.2.2.2,Y];have⟨w3,j2,U2,b0,O4,p1,⟨f6,g6,h6⟩,s0⟩:=uZ (m:=A4) hX (w4.ak b1) y4;apply aw O4;have i6:=p1.n;rw[aE,aE];simp only[XW,Q7,Y];have j6:=hE.u.lt;have k6:=hE.mr.lt;have O0:=hE.ak p1;have y3:=(b1.trans p1).cells r3;have A3:=(P0.ak Q0).ak ((a1.trans B0).trans (b1.trans p1));have R4:m.n<=b0.n:=Z;simp only[dE,dP,cU,cL,aW,Y]
 have c1:∀{mm:M} {l:List Pl} {w:O},(∀c,c≠bu->c < b0.n->mm.get c=b0.get c)->Sl b0 l w->Sl mm l w:=λhf h=>h.aX λc cs t g hc ht=>(hf c (λe=>by subst e;obtain⟨l6,g',h1, -, -⟩:=O0.u;rw[h1]at hc;cases hc;simp[aL.ty,aL.dN]at ht) (M.aM hc)).trans hc;have B3:=s0.len;refine Lp.intro (γ:=Nat) (λi=>100-i) (λi vs mm lo=>∃V,vs=[P6,.int .i64 i]/\i<=100/\m.n<=lo/\(∀c,c≠bu->c < b0.n->mm.get c=b0.get c)/\b0.n<=mm.n/\fh mm bu V/\V.length=100/\∀k,i<=k->V[k]?=U[k]?) 0 ⟨U,rfl,Vw _,by simp only[Nat.le_min];omega,λ_ _ _=>rfl,R8 _,O0.u,O0.len,λ_ _=>rfl⟩ ?_;rintro i vs mm lo ⟨V,rfl,hi,j0,k0,G3,o0,l0,p0⟩;rw[av,av,cI,Y,ag];have y0:=(k0 _ Z Z).trans y3;refine af (λq0=>?_) (λO3=>?_);have q0:i < 100:=(by have:=Mv q0;omega);have⟨ua,ub,W4,a5,F⟩:=hL.un i q0;obtain⟨xa,b4,d1⟩:=O0.at_ W4;obtain⟨xb,k2,L1⟩:=s0.at_ a5;have l2:V[i]?=some xa:=(p0 i (R8 _)).trans b4;have⟨r1,b5,o2⟩:=AJ o0 l0 l2;have d4:∀{mb:M},(∀c,c≠bu->c < b0.n->mb.get c=b0.get c)->fh mb w3 U2:=λhf=>s0.u.aX rfl (hf w3 Z s0.u.lt);have u2:=(O0.sh xa (QP b4));have e4:=(s0.sh xb (QP k2));refine xr (λvs m' d0=>∃V',vs=[P6]/\m.n<=d0/\(∀c,c≠bu->c < b0.n->m'.get c=b0.get c)/\b0.n<=m'.n/\fh m' bu V'/\V'.length=100/\∀k,i+1<=k->V'[k]?=U[k]?) (λQ hQ=>?_) ?_;refine xr (λvs m' d0=>vs=[.bool (decide (t.kind=1/\(i:Int)=t.un.id))]/\mm=m'/\m.n<=d0) (λQ1 r0=>?_) ?_;rw[(kX y0).1,Y,aJ,Y,ag];refine af (λc=>?_) (λc=>?_);have c:=Mv c;rw[(uO y0).1,Y,aJ,Y];exact r0 ⟨by simp[c],rfl,j0⟩;have c:=Z0 c;exact r0 ⟨by simp[c],rfl,j0⟩;rintro _ _ m6 ⟨rfl,rfl,O1⟩;rw[av,ag];refine af (λc=>?_) (λc=>?_);have c:=Mv c;rw[UG c]at F;obtain⟨e1,j1, -⟩:=AJ (d4 k0) B3 k2;refine xr (λvs m' d0=>vs=[P6]/\mm=m'/\m.n<=d0) (λQ2 A0=>?_) ?_;rw[r1,Y,bA,Y,o2,Y,(c1 k0 u2.1).len cO,an,d1,F.1,bZ,Y,ag];show lY false _ _;rw[aT,e1,Y,j1,Y,qA y0,Y];apply aw (yJ hX (c1 k0 e4.1) (c1 k0 A3) Z);rw[RO (show xb.u=t.un by rw[L1,F.2]),bB,Y];exact A0 ⟨rfl,rfl,Z⟩;rintro _ _ iH ⟨rfl,rfl,H⟩;rw[av,ag];show lY false _ _;rw[aT];exact hQ ⟨V,rfl,H,k0,G3,o0,l0,λk hk=>p0 k Z⟩;have c:=Z0 c;rw[ND c]at F;refine xr (λ_ m' d0=>∃V' k1,m.n<=d0/\(∀c,c≠bu->c < b0.n->m'.get c=b0.get c)/\b0.n<=m'.n/\fh m' bu V'/\V'.length=100/\(∀k,i+1<=k->V'[k]?=U[k]?)/\V'[i]?=some k1/\k1.w=xa.w/\k1.u.shape=xa.u.shape/\k1.u=ub) (λQ2 A0=>?_) ?_;refine xr (λvs m' d0=>vs=[.bool (decide (t.kind=4/\(i:Int)=t.id))]/\mm=m'/\m.n<=d0) (λQ1 r0=>?_) ?_;rw[(kX y0).1,Y,aJ,Y,ag];refine af (λc=>?_) (λc=>?_);have c:=Mv c;rw[(kX y0).2.1,Y,aJ,Y];exact r0 ⟨by simp[c],rfl,O1⟩;have c:=Z0 c;exact r0 ⟨by simp[c],rfl,O1⟩;rintro _ _ iH ⟨rfl,rfl,H⟩;rw[av,ag];refine af (λc4=>?_) (λc4=>?_);have c4:=Mv c4;rw[UG c4]at F;rw[(kX y0).2.2.2.2,Y,r1,Y,ck,Y];refine Qa o0 l2 λu5 c5 v2 w2=>?_;refine A0 ⟨_,_,Z,λc h1 h2=>(w2 c h1).trans (k0 c h1 h2),Z,v2,by rw[C7];exact l0,λk hk=>?_,M3 Z,rfl,rfl,?_⟩;rw[Xi Z];exact p0 k Z;rw[<-F,d1];have c4:=Z0 c4;rw[ND c4]at F;exact A0 ⟨V,xa,H,k0,G3,o0,l0,λk hk=>p0 k Z,l2,rfl,rfl,d1.trans F⟩;rintro _ n6 iH ⟨V',k1,H,n0,l1,e0,g0,u0,y2,d5,f4,e5⟩
 obtain⟨z2,A2, -⟩:=AJ e0 g0 y2;obtain⟨e1,j1, -⟩:=AJ (d4 n0) B3 k2;rw[z2,Y,A2,Y,e1,Y,j1,Y];apply aw (yJ hX (by rw[d5,f4];exact c1 n0 u2.1) (c1 n0 e4.1) (by rw[f4];have:=u2.2.1;omega));rw[RO (e5.trans L1.symm),bB,Y,ag];show lY false _ _;rw[aT];exact hQ ⟨V',rfl,Z,n0,l1,e0,g0,u0⟩;rintro _ o6 iH ⟨V',rfl,H,n0,l1,e0,g0,u0⟩;rw[av,aO,Y,wrap64];exact⟨i+1,Z,V',rfl,q0,H,n0,l1,e0,g0,u0⟩;clear O3 hi p0 l0 o0;have f5:∀{mb:M},(∀c,c≠bm->c < mm.n->mb.get c=mm.get c)->fh mb j2 (pL z):=λhf=>s0.mr.aX rfl ((hf j2 Z (by have:=s0.mr.lt;omega)).trans (k0 j2 Z s0.mr.lt));refine Lp.intro (γ:=Nat) (λi=>100-i) (λi vs mb lo=>∃V,vs=[P6,.int .i64 i]/\i<=100/\m.n<=lo/\(∀c,c≠bm->c < mm.n->mb.get c=mm.get c)/\fh mb bm V/\V.length=100/\∀k,i<=k->V[k]?=(pL y)[k]?) 0 ⟨pL y,rfl,Vw _,j0,λ_ _ _=>rfl,O0.mr.aX rfl (k0 bm Z Z),GU,λ_ _=>rfl⟩ ?_;clear j0;rintro i vs mb lo ⟨V,rfl,hi,j0,B2,o0,l0,p0⟩;rw[av,av,cI,Y,ag];have g4:=(B2 _ Z Z).trans y0;refine af (λq0=>?_) (λO3=>⟨rfl,j0⟩);have q0:i < 100:=(by have:=Mv q0;omega);have⟨p,q,hp,hq,F⟩:=hL.mkk i q0;have j4:V[i]?=some p:=(p0 i (R8 _)).trans hp;have⟨r1,b5,o2,g5⟩:=Fq o0 l0 j4;refine xr (λ_ m' d0=>∃V',m.n<=d0/\(∀c,c≠bm->c < mm.n->m'.get c=mm.get c)/\fh m' bm V'/\V'.length=100/\(∀k,i+1<=k->V'[k]?=(pL y)[k]?)/\V'[i]?=some q) (λQ2 A0=>?_) ?_;refine xr (λvs m' d0=>vs=[.bool (decide (t.kind=4/\0 < p.kind/\p.un=t.id))]/\mb=m'/\m.n<=d0) (λQ1 r0=>?_) ?_;rw[(kX g4).1,Y,aJ,Y,ag];refine af (λc=>?_) (λc=>?_);have c:=Mv c;rw[r1,Y,ja,Y,o2,Y,cC,Y,ag];refine af (λc2=>?_) (λc2=>?_);have c2:=Mv c2;rw[Y,cS,Y,g5,Y,(kX g4).2.1,Y,aJ,Y];exact r0 ⟨by simp[c,c2],rfl,j0⟩;have c2:=Z0 c2;exact r0 ⟨by simp[c,c2],rfl,j0⟩;have c:=Z0 c;exact r0 ⟨by simp[c],rfl,j0⟩;rintro _ _ iH ⟨rfl,rfl,H⟩;rw[av,ag];refine af (λc4=>?_) (λc4=>?_);have c4:=Mv c4;rw[UG c4]at F;subst F;have hp:=o0.put rfl (i:=i) Z cJ;rw[l0]at hp;rw[aeH,Y,hp.1,Y];refine hp.2 M4 M4.v _ nL rfl rfl _ λv5 j5 G2 L2=>?_;refine A0 ⟨_,Z,λc h1 h2=>(L2 c h1).trans (B2 c h1 h2),G2,by rw[C7];exact l0,λk hk=>?_,M3 Z⟩;rw[Xi Z];exact p0 k Z;have c4:=Z0 c4;rw[ND c4]at F;subst F;exact A0 ⟨V,H,B2,o0,l0,λk hk=>p0 k Z,j4⟩;rintro _ w5 iH ⟨V',H,T1,e0,g0,u0,y2⟩;obtain⟨z2,A2, -⟩:=Fq e0 g0 y2;obtain⟨e1,j1, -⟩:=Fq (f5 T1) GU hq;rw[z2,Y,A2,Y,e1,Y,j1,Y,abZ,Y,RO rfl,ag];show lY false _ _;rw[aT,aO,Y,wrap64];exact⟨i+1,Z,V',rfl,q0,H,T1,e0,g0,u0⟩
end
end Go.Proofs.YthffgohpkjpkbaaGreatDoor
namespace Go.D
open Go
variable{args:ν}
section
variable{E:Env}{call:aF}{n:Nat}
def flat:Code->List Code
 |.seq a b=>flat a++flat b
 |c=> [c]
def lg(f:Code->Fr->Option (Ex×Fr)):List Code->Fr->Option (Ex×Fr)
 |[],fr=>some (.normal,fr)
 |c::r,fr=>match f c fr with
  |some (.normal,fr)=>lg f r fr
  |r=>r
theorem zi(f:Code->Fr->Option (Ex×Fr)):∀(a b:List Code) (fr:Fr),lg f (a++b) fr=match lg f a fr with|some (.normal,fr)=>lg f b fr|r=>r
 |[],b,fr=>rfl
 |c::a,b,fr=>by(show(match f c fr with|some (.normal,fr)=>lg f (a++b) fr|r=>r)=match(match f c fr with|some (.normal,fr)=>lg f a fr|r=>r)with|some (.normal,fr)=>lg f b fr|r=>r);cases h:f c fr with|none=>rfl|some p=>have⟨e,F⟩:=p;cases e with|normal=>exact zi f a b F|exit id=>rfl|ret=>rfl
theorem zj:∀(c:Code) (fr:Fr),bF E call n c fr=lg (bF E call n) (flat c) fr
 |.seq a b,fr=>by
  rw[flat,zi,<-zj a fr];show(match bF E call n a fr with|some (.normal,fr)=>bF E call n b fr|r=>r)=_;cases h:bF E call n a fr with
  |none=>rfl
  |some p=>
   have⟨e,F⟩:=p;cases e with
   |normal=>exact zj b F
   |exit id=>rfl
   |ret=>rfl
 |.skip,fr=>iz _ fr
 |.region _ _ _,fr=>iz _ fr
 |.cond _ _ _,fr=>iz _ fr
 |.block _ _,fr=>iz _ fr
 |.loop _,fr=>iz _ fr
 |.exit _,fr=>iz _ fr
 |.ret,fr=>iz _ fr
 |.label _,fr=>iz _ fr
 |.goto _,fr=>iz _ fr
 |.rangeFunc _ _ _ _,fr=>iz _ fr
 |.scope _,fr=>iz _ fr
 |.refuse _,fr=>iz _ fr
where
 iz (c:Code) (fr:Fr):bF E call n c fr=lg (bF E call n) [c] fr:=by
  unfold lg;cases h:bF E call n c fr with
  |none=>rfl
  |some p=>
   have⟨e,F⟩:=p;cases e <;>rfl
def adG{f:Code->Fr->Option (Ex×Fr)}{l:List Code}{fr F:Fr}(a k:Nat)(h:lg f ((l.drop a).take k) fr=some (.normal,F)):lg f (l.drop a) fr=lg f (l.drop (a+k)) F:=by have e:l.drop a=(l.drop a).take k++l.drop (a+k):=(by rw[<-Xa,Jy]);rw[e,zi,h]
def Gh{X:aF}{f:FuncId}{fn:Func}{c:Code}{m:M}{fr:Fr}{v:O}(F:X (.func f) args m=none)(H:E.fn.get f=some fn)(hb:fn.body=some c)(hle:Nat.ble args.length fn.ntmps)
  (he:bF E (bT E X n) n c {T:=enter args 0,m:={m with low:=m.n}}=some (.ret,fr)) (hr:result? E fn fr.T fr.m=some v) (hv:aZ v) (hl:Nat.ble m.n fr.m.low):bT E X (n+1) (.func f) args m=some (v,m):=by unfold bT;grind
end
section
variable{P:Program}
def Cc(X wt:aF):aF:=λf args m=>match X f args m with |some r=>some r |none=>wt f args m
def uc{X wt:aF}{f:Fn}{m:M}{r:O×M}(h:Cc X wt f args m=some r):X f args m=some r\/wt f args m=some r:=by unfold Cc at h;cases F:X f args m with|none=>rw[F]at h;exact .inr h|some H=>rw[F]at h;exact .inl h
def mF{X wt:aF}(F:cP P X)(H:cP P wt):cP P (Cc X wt):=
 ⟨λf args m v m' h=>(uc h).elim (F.func f args m v m') (H.func f args m v m'),
  λl args m v m' h=>(uc h).elim (F.yield l args m v m') (H.yield l args m v m'),
  λf args m v m' h=>(uc h).elim (F.aX f args m v m') (H.aX f args m v m'),
  λa m v m' b h=>(uc h).elim (F.Oe a m v m' b) (H.Oe a m v m' b)⟩
def gH{X wt:aF}{f:Fn}{m:M}(F:X f args m=none)(H:wt f args m=none):Cc X wt f args m=none:=by unfold Cc;rw[F];exact H
end
end Go.D
namespace Go.Proofs.YthffgohpkjpkbaaGreatDoor
open Go Go.D Go.Proofs.Tryz
variable{m:M}
def wU:Nat->ν->Option (List Pl)
 |0,_=>some []
 |n+1,.int .i64 x::.int .i64 y::r=>match wU n r with |some l=>some (⟨x,y⟩::l) |none=>none
 |_+1,_=>none
def Qt(m:M)(v:O):Option (List Pl):=
 match v with
 |.slice none 0 0=>some []
 |.slice (some a) n _=>match a.spot,m.get a.block with
  |none,.cells cs e _=>bif Nat.beq e 46 && Nat.ble (a.off+n*2) cs.length then wU n (cs.drop a.off)else none
  |_,_=>none
 |_=>none
theorem BZ:∀{n:Nat} {cs:ν} {l:List Pl},wU n cs=some l->l.length=n/\∀i p,l[i]?=some p->(cs.drop (i*2)).take 2=p.c
 |0,_,l,h=>by cases h;exact⟨rfl,λi p hi=>by cases hi⟩
 |n+1,cs,l,h=>by unfold wU at h;split at h;omega;rename_i n' x y r H;(cases H;cases F:wU n r with|none=>rw[F]at h;cases h|some l'=>rw[F]at h;cases h;have⟨h1,h2⟩:=BZ F;refine⟨J,λi p hi=>?_⟩;match i with|0=>cases hi;rfl|i+1=>grind);cases h
def Qr{v:O}{l:List Pl}(h:Qt m v=some l):Sl m l v:=by unfold Qt at h;split at h;cases h;exact .inl ⟨rfl,rfl⟩;rename_i a n c;split at h;rename_i cs e g F hg;(cases H:(Nat.beq e 46 && Nat.ble (a.off+n*2) cs.length)with|false=>rw[H]at h;cases h|true=>rw[H,gc]at h;rw[G4]at H;obtain rfl:=L6 H.1;have hle:=Jg H.2;have⟨h1,h2⟩:=BZ h;have⟨ab,ao,sp⟩:=a;have F:sp=none:=F;subst F;refine .inr ⟨ab,ao,c,cs,g,by rw[h1],hg,by rw[h1];exact hle,λi p hi=>?_⟩;have:=h2 i p hi;rw[Xa]at this;exact this);cases h;cases h
def KK:cp Xv:=⟨λ_ _ _ _=>rfl⟩
def vA(m:M):ν->Option (List (List Pl))
 |[]=>some []
 |v::r=>match Qt m v,vA m r with
  |some l,some ls=>bif Nat.ble l.length 1000 then some (l::ls)else none
  |_,_=>none
def plX(k:Nat)(g:List (List Pl)->Option Bool):aF:=λfn args m=>
 match fn with
 |.func f=>bif Nat.beq f k then(match vA m args with
  |some ls=>(match g ls with |some b=>some (.bool b,m) |none=>none)
  |none=>none)else none
 |_=>none
def tZ{k:Nat}{g:List (List Pl)->Option Bool}{fn:Fn}{args:ν}{r:O×M}(h:plX k g fn args m=some r):fn=.func k/\∃ls b,vA m args=some ls/\g ls=some b/\r=(.bool b,m):=by unfold plX at h;split at h;rename_i f;(cases F:Nat.beq f k with|true=>obtain rfl:=L6 F;grind|false=>rw[F]at h;cases h);cases h
def Qv{k:Nat}{g:List (List Pl)->Option Bool}(hg:∀(m:M) args ls b,vA m args=some ls->g ls=some b->C Xv (.func k) args m m.n (.bool b) m)(hk:Nat.beq Ds k=false):cP Tryz.prog (plX k g):=by refine⟨λf args m v m' F σ w H hs hl=>?_,λl args m v m' F=>(by cases (tZ F).1),λf args m v m' F=>?_,λa m v m' b F=>by have:=(tZ F).1;simp_all⟩;have⟨e,ls,b,h1,h2,h3⟩:=tZ F;cases e;cases h3;have hc:=Cl.calls ai.ok Xu (hg m args ls b h1 h2) hs hl;exact⟨hc.1.mono λe w' h=>h.flat hs rfl,hc.2⟩;obtain⟨-,ls,b, -, -,h3⟩:=tZ F;cases h3;exact LK.refl
abbrev Qu:aF:=Cc (plX 78 λ|[l]=>some (bO l) |_=>none) (plX 79 λ|[a,b]=>some (ia a b) |_=>none)
def ko{v:O}{r:ν}{ls:List (List Pl)}(h:vA m (v::r)=some ls):∃l F,ls=l::F/\Sl m l v/\l.length<=1000/\vA m r=some F:=by unfold vA at h;split at h;rename_i l F h1 h2;(cases H:Nat.ble l.length 1000 with|false=>rw[H]at h;cases h|true=>rw[H]at h;cases h;exact⟨_,_,rfl,Qr h1,Jg H,h2⟩);cases h
def MS:cP Tryz.prog Qu:=mF
 (Qv (λm args ls b h hb=>by
  match args with
  |[]=>cases h;cases hb
  |[v]=>
   obtain⟨l,ks,rfl,H,h2,F⟩:=ko h;cases F;cases hb;exact mg KK H Z
  |_::_::_=>
   obtain⟨l,ks,rfl,H,h2,F⟩:=ko h;obtain⟨l,ks,rfl,H,h2,F⟩:=ko F;cases hb) rfl)
 (Qv (λm args ls b h hb=>by
  match args with
  |[]=>cases h;cases hb
  |[v]=>
   obtain⟨l,ks,rfl,H,h2,F⟩:=ko h;cases F;cases hb
  |[v,w]=>
   obtain⟨l,ks,rfl,H,h2,F⟩:=ko h;obtain⟨k,kt,rfl,h4,h5,h6⟩:=ko F;cases h6;cases hb;exact sB KK H h4 Z Z
  |_::_::_::_=>
   obtain⟨l,ks,rfl,H,h2,F⟩:=ko h;obtain⟨l,ks,rfl,H,h2,F⟩:=ko F;obtain⟨l,ks,rfl,H,h2,F⟩:=ko F;cases hb) rfl)
end Go.Proofs.YthffgohpkjpkbaaGreatDoor
namespace Go.D
open Go
variable{a b:O}{args':Array O}
variable{P:Program}{σ:Sg}{m m':M}{w w':World}
def bytes?:ν->Option (List UInt8)
 |[]=>some []
 |.int .u8 x::r=>bif decide (0<=x) && decide (x<=255)then match bytes? r with |some l=>some (UInt8.ofNat x.toNat::l) |none=>none else none
 |_=>none
theorem C6:∀{vs:ν} {l:List UInt8},bytes? vs=some l->vs=Lib.byteCells l
 |[],l,h=>by cases h;rfl
 |v::r,l,h=>by unfold bytes? at h;split at h;grind;rename_i x r' H;(cases H;cases F:(decide (0<=x) && decide (x<=255))with|false=>rw[F]at h;cases h|true=>rw[F,gc]at h;rw[G4,Xo,Xo]at F;split at h;rename_i l' hl;cases h;have hx:((UInt8.ofNat x.toNat).toNat:Int)=x:=(by rw[UInt8.toNat_ofNat'];grind);rw[C6 hl];simp only[Lib.byteCells,UM,hx];cases h);cases h
def ccX(T:Nat)(args:ν)(m:M):Option (O×M):=
 match args with
 |[.pointer (some a)]=>
  match m.get a.block with
  |.cells [.pointer none,s] e none=>bif Nat.beq e T && Nat.beq a.off 0 && a.spot.isNone then some (.tuple #[],m.set a.block (.cells [.pointer (some a),s] e none))else none
  |.cells [.pointer (some F),_] e none=>bif Nat.beq e T && Nat.beq a.off 0 && a.spot.isNone && Nat.beq F.block a.block && Nat.beq F.off 0 && F.spot.isNone then some (.tuple #[],m)else none
  |_=>none
 |_=>none
def IQ(T U:Nat)(args:ν)(m:M):Option (O×M):=
 match args with
 |[.pointer (some a)]=>
  match m.get a.block with
  |.cells [_,.slice none 0 0] e none=>bif Nat.beq e T && Nat.beq a.off 0 && a.spot.isNone then some (.string ⟨#[]⟩,m)else none
  |.cells [_,.slice (some r) n c] e none=>
   bif Nat.beq e T && Nat.beq a.off 0 && a.spot.isNone && Nat.beq r.off 0 && r.spot.isNone && Nat.ble 1 n && Nat.ble n c then
    match m.get r.block with
    |.cells cs F _=>
     bif Nat.beq F U && Nat.ble n cs.length && Nat.ble n 1048576 then
      match bytes? (cs.take n)with
      |some l=>some (.string ⟨l.toArray⟩,m.set r.block .dead)
      |none=>none
     else none
    |_=>none
   else none
  |_=>none
 |_=>none
structure Iv where
 cc:Nat
 st:Nat
 T:Nat
 U:Nat
variable{N:Iv}
def J0(N:Iv):aF:=λfn args m=>
 match fn with
 |.func f=>bif Nat.beq f N.cc then ccX N.T args m else bif Nat.beq f N.st then IQ N.T N.U args m else none
 |_=>none
def sy(b:Nat):O:=.pointer (some ⟨b,0,none⟩)
structure Iu(P:Program)(N:Iv):Prop where
 F6:∀f,(f=N.cc\/f=N.st)->∀args w,(callFunc f args).run P w=.ok (.enter f args) w
 fresh:∀(b:Nat) (w:World),w.cell? ⟨b,0,none⟩=some (.pointer none)->w.shape? b=some (N.T,2)->w.frozen? ⟨b,0,none⟩=false->
  Calls P N.cc #[sy b] w λe w'=>e=.returned (.tuple #[])/\w'=w.setCell ⟨b,0,none⟩ (sy b)
 used:∀(b:Nat) (w:World),w.cell? ⟨b,0,none⟩=some (sy b)->Calls P N.cc #[sy b] w λe w'=>e=.returned (.tuple #[])/\w'=w
 Wj:∀(b:Nat) (p:O) (w:World),w.heap[b]?=some (.cells #[p,.slice none 0 0] N.T (0,0))->Calls P N.st #[sy b] w λe w'=>e=.returned (.string ⟨#[]⟩)/\w'.heap=w.heap/\w'.os=w.os/\w'.tape=w.tape/\w'.output=w.output
 str:∀(b g c:Nat) (p:O) (cur:Array O) (l:List UInt8) (w:World),w.heap[b]?=some (.cells #[p,.slice (some ⟨g,0,none⟩) l.length c] N.T (0,0))->w.heap[g]?=some (.cells cur N.U (0,0))->l≠ []->l.length<=c->l.length<=cur.size->l.length<=1048576->
  cur.toList.take l.length=Lib.byteCells l->Calls P N.st #[sy b] w λe w'=>e=.returned (.string ⟨l.toArray⟩)/\(∀B,B≠g->w'.heap[B]?=w.heap[B]?)/\w'.heap.size=w.heap.size/\w'.os=w.os/\w'.tape=w.tape/\w'.output=w.output
def Fz(hl:bK σ [a] args'.toList):∃F,args'= #[F]/\bw σ a F:=by have⟨F,l1,h1,ha,H⟩:=hl.cases;have:=H.nil_eq;grind
def ad5(hl:bK σ [a,b] args'.toList):∃F H,args'= #[F,H]/\bw σ a F/\bw σ b H:=by have⟨F,l1,h1,ha,b0⟩:=hl.cases;have⟨H,l2,h2,hb,d0⟩:=b0.cases;have:=d0.nil_eq;grind
def tQ{row:Array O}(h:bK σ [a,b] (row.toList.take 2))(hs:row.size=2):∃F H,row= #[F,H]/\bw σ a F/\bw σ b H:=by have e:row.toList.take 2=row.toList:=MM J;rw[e]at h;exact ad5 h
def AK{v:O}(F:bw σ v v)(H:eW P σ m w)(h:Ev P σ m w σ m' w'):dR P σ m w v m' (.returned v) w':=⟨v,σ,rfl,F,h⟩
def cc_ok(K:Iu P N){args:ν}{v:O}(h:ccX N.T args m=some (v,m'))(hs:eW P σ m w){args':Array O}(hl:bK σ args args'.toList):Calls P N.cc args' w (dR P σ m w v m'):=by unfold ccX at h;split at h;rename_i a;obtain⟨x',rfl,hx⟩:=Fz hl;obtain⟨i,hi,h0,rfl⟩:=hx.fW;split at h;rename_i s e hg;(cases H:(Nat.beq e N.T && Nat.beq a.off 0 && a.spot.isNone)with|false=>rw[H]at h;cases h|true=>rw[H,gc]at h;cases h;simp only[G4]at H;have⟨⟨c1,c2⟩,_⟩:=H;obtain rfl:=L6 c1;have c2:=L6 c2;rw[c2];have⟨row,F,i0,b0,e0,d0⟩:=hs.cells hi hg;obtain⟨p',s',rfl,hp,j0⟩:=tQ b0 d0;have:=hp.bJ rfl;subst this;refine(K.fresh i.dL w (by simp[World.cell?,F]) (by simp[World.shape?,F]) (by simp[World.frozen?,F])).mono ?_;rintro en w2 ⟨rfl,rfl⟩;have k0:∀B,(w.setCell ⟨i.dL,0,none⟩ (sy i.dL)).heap[B]?=if B=i.dL then some (.cells #[sy i.dL,s'] N.T (0,0))else w.heap[B]?:=(by intro B;simp only[World.setCell,VS];grind);refine AK .undef hs (Ev.write hs hi J ?_ (λB hB=>J) dg rfl rfl rfl);refine⟨#[sy i.dL,s'],J,co,⟨rfl,λj u u' hu l0=>?_⟩,e0,rfl⟩;match j with|0=>cases hu;have:sy i.dL=u':=J;rw[<-this];have:=bw.ptr a i hi h0;rw[c2]at this;exact this|1=>grind|j+2=>simp at hu);rename_i a' s e hg;(cases H:(Nat.beq e N.T && Nat.beq a.off 0 && a.spot.isNone && Nat.beq a'.block a.block && Nat.beq a'.off 0 && a'.spot.isNone)with|false=>rw[H]at h;cases h|true=>rw[H,gc]at h;cases h;simp only[G4]at H;have⟨⟨⟨⟨⟨c1,c2⟩,_⟩,c4⟩,c5⟩,_⟩:=H;have c2:=L6 c2;have c4:=L6 c4;have c5:=L6 c5;rw[c2];have⟨row,F,i0,b0,e0,d0⟩:=hs.cells hi hg;obtain⟨p',s',rfl,hp,j0⟩:=tQ b0 d0;obtain⟨i',g0,_,rfl⟩:=hp.fW;rw[c4,hi]at g0;cases g0;refine(K.used i.dL w (by simp[World.cell?,F,c5,sy])).mono ?_;rintro en w2 ⟨rfl,rfl⟩;exact AK .undef hs (.refl hs));cases h;cases h
def PM(K:Iu P N){a:Addr}{v:O}{b:Nat}(h:IQ N.T N.U [.pointer (some a)] m=some (v,m'))(hb:vn m a=some b):
  m.get b≠.dead/\m'=m.set b .dead/\∀σ w (args':Array O),eW P σ m w->bK σ [.pointer (some a)] args'.toList->
   ∃i,σ b=some i/\Calls P N.st args' w λe w'=>dR P σ m w v m' e w'/\∀B,B≠i.dL->w'.heap[B]?=w.heap[B]?:=by unfold IQ at h;dsimp only at h;unfold vn at hb;split at h;grind;rename_i p r n c e hg;rw[hg]at hb;cases hb;rw[cond_eq_ite]at h;split at h;rename_i hc;simp only[G4]at hc;have⟨⟨⟨⟨⟨⟨c1,c2⟩,_⟩,c4⟩,c5⟩,c6⟩,c7⟩:=hc;have c7:=Jg c7;obtain rfl:=L6 c1;have c2:=L6 c2;have c4:=L6 c4;have c6:=Jg c6;split at h;rename_i cs e' g d0;rw[cond_eq_ite]at h;split at h;rename_i hd;simp only[G4]at hd;have⟨⟨d1,d2⟩,d3⟩:=hd;obtain rfl:=L6 d1;have d2:=Jg d2;have d3:=Jg d3;split at h;rename_i l e0;cases h;have H:=C6 e0;have hlen:l.length=n:=(by have:=congrArg List.length H;rw[Lib.byteCells_length,ZO]at this;omega);refine⟨J,rfl,λσ w args' hs hl=>?_⟩;obtain⟨x',rfl,hx⟩:=Fz hl;obtain⟨i,hi,q0,rfl⟩:=hx.fW;rw[c2];have⟨row,r0,s0,g0,u0,h0⟩:=hs.cells hi hg;obtain⟨p',s',rfl,hp,i0⟩:=tQ g0 h0;obtain⟨j,a',c',hj,rfl,j0⟩:=i0.ee;have k0:a'=⟨j.dL,r.off,none⟩/\c<=c':=(by grind);obtain⟨rfl,y0⟩:=k0;have⟨cur,l0,A0,n0,B0⟩:=hs.cells hj d0;have b0:cur.toList.take l.length=Lib.byteCells l:=(by rw[<-H,hlen];have e1:(cur.toList.take cs.length).take n=cs.take n:=(by apply Xx;intro k;by_cases hk:k<n;rw[XM hk,XM hk];have F:k<cs.length:=Z;have⟨u,o0,p0⟩:=n0.get (QC F);rw[o0,QC F];have:bL cs[k]:=(by have e2:cs[k]?=(Lib.byteCells l)[k]?:=J;rw[QC F]at e2;unfold Lib.byteCells at e2;rw[Uo,QC Z]at e2;simp only[F4,DS]at e2;rw[e2];rfl);rw[p0.bJ this];grind);grind);refine⟨j,hj,(K.str i.dL j.dL c' p' cur l w J l0 (λq=>J) Z Z Z b0).mono ?_⟩;rintro en w2 ⟨rfl,h1,h2,h3,h4,h5⟩;exact⟨AK (.flat _ rfl) hs (Ev.write hs hj J trivial h1 h2 h3 h4 h5),h1⟩;cases h;cases h;cases h;cases h;cases h
def st_ok(K:Iu P N){args:ν}{v:O}(h:IQ N.T N.U args m=some (v,m'))(F:eW P σ m w){args':Array O}(hl:bK σ args args'.toList):Calls P N.st args' w (dR P σ m w v m'):=by have h0:=h;unfold IQ at h;split at h;rename_i a;split at h;rename_i p e hg;rw[cond_eq_ite]at h;split at h;rename_i H;cases h;simp only[G4]at H;have⟨⟨c1,c2⟩,_⟩:=H;obtain⟨x',rfl,hx⟩:=Fz hl;obtain⟨i,hi,i0,rfl⟩:=hx.fW;obtain rfl:=L6 c1;have c2:=L6 c2;rw[c2];have⟨row,b0,j0,d0,k0,e0⟩:=F.cells hi hg;obtain⟨p',s',rfl,hp,g0⟩:=tQ d0 e0;have:=g0.bJ rfl;subst this;refine(K.Wj i.dL p' w b0).mono ?_;rintro en w2 ⟨rfl,h1,h2,h3,h4⟩;exact AK (.flat _ rfl) F (.of_heap F h1 h2 h3 h4);cases h;rename_i p r n c e hg;obtain⟨_,_,h3⟩:=PM K h0 (b:=r.block) (by unfold vn;rw[hg]);have⟨i,_,H⟩:=h3 σ w args' F hl;exact H.mono λe w' q=>q.1;cases h;cases h
def acy{T:Nat}{args:ν}{v:O}(h:ccX T args m=some (v,m')):LK m m':=by unfold ccX at h;split at h;split at h;rename_i F;rw[cond_eq_ite]at h;split at h;cases h;exact LK.set (λr q=>J);cases h;rw[cond_eq_ite]at h;split at h;cases h;exact LK.refl;cases h;cases h;cases h
def aaP{T U:Nat}{args:ν}{v:O}(h:IQ T U args m=some (v,m')):LK m m':=by unfold IQ at h;split at h;split at h;rw[cond_eq_ite]at h;split at h;cases h;exact LK.refl;cases h;rw[cond_eq_ite]at h;split at h;split at h;rename_i F;rw[cond_eq_ite]at h;split at h;split at h;cases h;exact LK.set (λr q=>J);cases h;cases h;cases h;cases h;cases h;cases h
def acR(N:Iv):iL (J0 N):=by intro f args m v m' h;unfold J0 at h;cases f with|func f=>dsimp only at h;simp only[cond_eq_ite]at h;split at h;exact acy h;split at h;exact aaP h;cases h|_=>cases h
def VU(K:Iu P N)(b0:N.st=Ds)(d0:Nat.beq Ds N.cc=false):cP P (J0 N):=by refine⟨λf args m v m' H σ w F hs hl=>?_,λl args m v m' H=>by simp[J0]at H,acR N,λa m v m' b H hb=>?_⟩;rotate_left;have h2:Nat.beq Ds N.st:=dg;simp only[J0,d0,h2,I2,gc]at H;have⟨q1,q2,q3⟩:=PM K H hb;refine⟨q1,q2,λσ w F hs hl=>?_⟩;have⟨i,hi,hc⟩:=q3 σ w F hs hl;rw[b0]at hc;exact⟨i,hi,callsIn_wide.2 hc,by have:=K.F6 N.st (.inr rfl) F w;rw[b0]at this;exact this⟩;unfold J0 at H;dsimp only at H;cases h1:Nat.beq f N.cc with|true=>obtain rfl:=L6 h1;rw[h1,gc]at H;exact⟨callsIn_wide.2 (cc_ok K H hs hl),K.F6 _ (.inl rfl) _ _⟩|false=>rw[h1,I2]at H;cases h2:Nat.beq f N.st with|true=>obtain rfl:=L6 h2;rw[h2,gc]at H;exact⟨callsIn_wide.2 (st_ok K H hs hl),K.F6 _ (.inr rfl) _ _⟩|false=>rw[h2]at H;cases H
inductive Kb
 |val (v:O)
 |row (l:ν) (t:Nat)
def HS(k:Nat)(g:ν->Option Kb):aF:=λfn args m=>
 match fn with
 |.func f=>bif Nat.beq f k then(match g args with
  |some (.val v)=>some (v,m)
  |some (.row l t)=>some (.slice (some ⟨m.n,0,none⟩) l.length l.length,m.push (.cells l t none))
  |none=>none)else none
 |_=>none
def FunRes(w:World)(e:Ending)(w':World):Kb->Prop
 |.val v=>aZ v=true/\e=.returned v/\(∀B,B < w.heap.size->w'.heap[B]?=w.heap[B]?)/\w.heap.size<=w'.heap.size/\w'.os=w.os/\w'.tape=w.tape/\w'.output=w.output
 |.row l t=>l.all bL=true/\e=.returned (.slice (some ⟨w.heap.size,0,none⟩) l.length l.length)/\w'=w.alloc (.cells l.toArray t)
structure LN(P:Program)(k:Nat)(g:ν->Option Kb):Prop where
 F6:∀args w,(callFunc k args).run P w=.ok (.enter k args) w
 flat:∀args r,g args=some r->args.all bL=true
 go:∀args r w,g args=some r->Calls P k args.toArray w λe w'=>FunRes w e w' r
theorem bK.CT:∀{l H:ν},bK σ l H->l.all bL->H=l
 |[],_,h,_=>h.nil_eq
 |v::r,_,h,F=>by obtain⟨v',l1,rfl,hv,hl⟩:=h.cases;rw[V2,G4]at F;rw[hv.bJ F.1,hl.CT F.2]
def FY{k:Nat}{g:ν->Option Kb}(K:LN P k g)(hk:Nat.beq Ds k=false):cP P (HS k g):=by
 refine⟨λf args m v m' F σ w H hs hl=>?_,λl args m v m' F=>by simp[HS]at F,λf args m v m' F=>?_,λa m v m' b F=>by simp only[HS,hk,I2]at F;cases F⟩;unfold HS at F;dsimp only at F;(cases h1:Nat.beq f k with|false=>rw[h1]at F;cases F|true=>obtain rfl:=L6 h1;rw[h1,gc]at F;refine⟨callsIn_wide.2 ?_,K.F6 H w⟩;cases hg:g args with|none=>rw[hg]at F;cases F|some r=>rw[hg]at F;obtain rfl:H=args.toArray:=Qd (hl.CT (K.flat _ _ hg));refine(K.go args r w hg).mono λe w2 hr=>?_;cases r with|val u=>cases F;obtain⟨hf,rfl,h2,h3,h4,h5,h6⟩:=hr;exact⟨v,σ,rfl,.gI hf,Ev.kept hs h2 h3 h4 h5 h6⟩|row l t=>cases F;obtain⟨hf,rfl,rfl⟩:=hr;have d0:=Ev.uq (ob:=.cells l t none) (o:=.cells l.toArray t) (gr:=none) hs ⟨_,heap_alloc_new w _,co,⟨co,λj u u' hu b0=>by rw[MM co]at b0;simp only at b0;rw[hu]at b0;cases b0;exact .flat _ (SB.1 hf u (QP hu))⟩,rfl,co⟩;exact⟨_,_,rfl,.slice ⟨m.n,0,none⟩ ⟨w.heap.size,none⟩ _ _ (by unfold Sg.add;rw[UG rfl]) rfl rfl,d0⟩);unfold HS at F;cases f with|func f=>dsimp only at F;rw[cond_eq_ite]at F;split at F;split at F;cases F;exact LK.refl;cases F;exact LK.push;cases F;cases F|_=>cases F
