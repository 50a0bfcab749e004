/- EvidenceFewer: the walk. -/
import Derived.Test.YtigpcbodmjjaiaaGreatDoorG10J
set_option maxRecDepth 100000
noncomputable section
namespace Go.Proofs.YtigpcbodmjjaiaaGreatDoor
open Go Go.D Go.Proofs.Tryz
variable {X:aM} {m:M}
set_option maxHeartbeats 4000000 in
theorem uJ(hX:cy X)(hI:Bc X){sf:List Fc->List Fc}(hS:zS X sf)(T1:∀m1:M,m.n<=m1.n->C X (.func 6) [] m1 m1.n aex m1){xs:List I6}{ks:List I4}{vb vk va:aes}(hv:ED m xs vb)(z4:∀x∈xs,x.ok)(hlen:xs.length < 9223372036854775808)(hk:oG m ks vk)(J2:∀x∈ks,x.ok)(c2:ks.length < 9223372036854775808)(A4:one va=true)
  {ws:List I6} {vw:aes} (hw:ED m ws vw) (K2:∀x∈ws,x.ok) (d2:ws.length < 9223372036854775808) {ps:List Int} {vp:aes} (hp:oG m ps vp) (L2:∀x∈ps,ka x) (g2:ps.length < 9223372036854775808)
  {qs:List I4} {vq:aes} (hq:oG m qs vq) (M2:∀x∈qs,x.ok) (i2:qs.length < 9223372036854775808) {wh sd ai bi:Int} (B4:ka wh) (C4:ka sd) (D4:ka ai) (E4:ka bi):
  C X (.func 4) [.agg #[vb,vk,va],vw,vp,vq,.int .i64 wh,.int .i64 sd,.int .i64 ai,.int .i64 bi] m m.n aex m:=by
 refine Cl.fG hX (aaU func4) ?_;rw[F4];dsimp only[aO];refine aw λm1 u6 G4 H4=>?_;have x1:Ext m m1:=⟨by omega,H4⟩
 have g1:m1.get m.n=.cells [vb,vk,va] 25 none:=G4;unfold ptrTo;simp only[fX,fW,iH,iG,cT,dm,ae];refine aH (T1 m1 (by omega)) ?_;rw[bE,ae,ak];show gG false _ _;rw[aT,show ah TE m1 25 (.pointer (some ⟨m.n,0,none⟩))=some (.agg #[vb,vk,va]) by rw[BN,aP (n:=3) g1 (by show 0+3<=3;decide)];rfl,ae];have⟨s,r,r2,st,rc,mo,tv,pv,qv,m8,c8,x8,hM,hW⟩:=Jp (m:=m1) hX (hv.aG x1) z4 hlen (hk.aG x1) J2 c2 A4 (hw.aG x1) K2 d2 (hp.aG x1) L2 g2 (hq.aG x1) M2 i2;refine aH c8 ?_;have n8:=x8.n;have hP:=hM.toEA;have⟨hV,lq,N2⟩:=hW;refine aw λm10 G5 O2 H5=>?_;refine aD Mb O2 rfl rfl hV.ee λm11 I5 P2 J5=>?_;have gS:m11.get m8.n=.cells (scc r r2 st rc mo tv pv qv) 43 none:=P2;have Q2:Ext m8 m11:=⟨by omega,by grind⟩
 rw[(rX gS).2.2.2.2,ae];have⟨lv,m15,J4,j2,k2⟩:=Ei hX hS hP (hV.aG Q2);refine aH J4 ?_;have n15:=j2.n;rw[aJ,aJ];simp only[aaY,aaX,ae];rw[bZ,ae,ak];show gG false _ _;have y1:=j2.cells gS;have z1:=Q2.trans j2;have T2:=hV.aG z1;have hL:=uw hS hP;obtain⟨L,l2⟩:∃L,L=eB sf s:=⟨_,rfl⟩
 rw[<-l2]at k2 hL;rw[aT,(rX y1).2.2.2.2,ae,ae,ae,RE,aA];obtain⟨m24,p0⟩:∃q,q=m15.push (.cells (scc r r2 st rc mo tv pv qv++(scc r r2 st rc mo tv pv qv++scc r r2 st rc mo tv pv qv)) 43 none):=⟨_,rfl⟩
 have y0:Ext m15 m24:=p0 ▸ Ext.refl.push;have gB:m24.get m15.n=.cells (scc r r2 st rc mo tv pv qv++(scc r r2 st rc mo tv pv qv++scc r r2 st rc mo tv pv qv)) 43 none:=by rw[p0];exact M.aY
 have n24:m24.n=m15.n+1:=by rw[p0];rfl
 rw[<-p0];have e0:=T2.aG y0;have i0:=y0.cells y1;have S0:uW sf s m24 (scc r r2 st rc mo tv pv qv):=⟨s,r,r2,st,rc,mo,tv,pv,qv,rfl,hP,e0,λx hx=>⟨x,hx,rfl,rfl⟩⟩
 have B1:xA m24 lq qv:=rS N2 λc cs t g H _=>(z1.trans y0).cells H;have m2:m8.n < m24.n:=by grind
 have tQ:∀t,t∈aZ.ty QW::aZ.dd QW->t≠43:=λt h=>by simp only[aZ.ty,aZ.dd,abc,abn,or_false]at h;subst h;decide
 have tL:∀t,t∈aZ.ty Ls::aZ.dd Ls->t≠43:=λt h=>by simp only[aZ.ty,aZ.dd,abc,abn,or_false]at h;subst h;decide
 have tP:∀t,t∈aZ.ty (Nat×Nat)::aZ.dd (Nat×Nat)->t≠43:=λt h=>by simp only[aZ.ty,aZ.dd,abc,abn,or_false]at h;subst h;decide
 have nB:∀{ma:M},(∀c,c < m24.n->c≠m15.n->ma.get c=m24.get c)->∀c cs t g,m24.get c=.cells cs t g->t≠43->ma.get c=.cells cs t g:=λhk c cs t g H ht=>(hk c (M.bk H) λe=>by grind).trans H;refine bA (λvs m' z0=>vs=[]/\m.n<=z0/\m24.n<=m'.n/\(∀c,c < m24.n->c≠m15.n->m'.get c=m24.get c)/\∃A,m'.get m15.n=.cells (A++(scc r r2 st rc mo tv pv qv++scc r r2 st rc mo tv pv qv)) 43 none/\uW sf s m' A) (λQ hQ=>?_) ?_
 ·have⟨ql,C1,r1,K4⟩:=e0.qs;have L4:=hP.ql;rw[<-C1,abK]at L4;rw[(rX i0).2.2.2.1,ae,r1.len nj,aA,bX,ae,ak];refine av (λh0=>?_) (λ_=>hQ _ _ _ ⟨rfl,by omega,aaV _,λ_ _ _=>rfl,_,gB,S0⟩);have h0:0 < ql.length:=by grind
  rw[ae,r1.len nj,aA];have⟨k,u2,e⟩:=fQ (c:=wh) (n:=ql.length) h0;refine aH (nz hX B4 (by omega)) ?_;rw[e,show aI TE m24 41 0 []=some (.slice (some ⟨m24.n,0,none⟩) 0 0,m24.push (.cells [] 79 none)) by kernel_rfl,aA];obtain⟨u1,B0⟩:∃q,q=m24.push (.cells [] 79 none):=⟨_,rfl⟩
  have C0:Ext m24 u1:=B0 ▸ Ext.refl.push;have N4:u1.get m24.n=.cells [] 79 none:=by rw[B0];exact M.aY
  have n40:=C0.n;rw[<-B0,(rX (C0.cells i0)).2.2.2.1,ae];have c3:xA u1 ql qv:=Mx (r1.aG C0) (rS B1 λc cs t g H _=>C0.cells H);obtain⟨v6,O4,R4⟩:=c3.to nj (by kernel_rfl) (i:=k) (by omega);rw[O4,ae];obtain⟨v44,v2,W4,c5,n45,d5,e5⟩:=PI.append (m:=u1) (n1:=m24.n) (l:=([]:List QW)) Gu rfl (.inr ⟨rfl,m24.n,rfl,aaV _,N4⟩) (.inl R4) (by omega) (by grind);have d3:=d5.2 rfl;rw[W4,aA];refine⟨d3,?_⟩;have q0:∀c,c < m24.n->v2.get c=m24.get c:=λc H=>(e5 c H).trans (C0.get c H);have g3:=(q0 m8.n m2).trans i0;have i3:xA v2 ql qv:=Mx (r1.bs λc cs t g H _=>(q0 c (M.bk H)).trans H) (rS B1 λc cs t g H _=>(q0 c (M.bk H)).trans H);obtain⟨v49,w2,f5⟩:=i3.from nj (by kernel_rfl) (i:=k+1) (by omega);have w2:slice? TE v2 41 qv (some (.int .i64 ((k:Int)+1))) none none=some v49:=w2
  rw[(rX g3).2.2.2.1,ae,aS,ae,wrap64,w2,ae];obtain⟨v50,g5,h5,y2,n51,w6,i5⟩:=c5.append Gu rfl f5 (by omega) (by grind);rw[h5,aA,show an TE 66 (.slice (some ⟨m15.n,0,none⟩) 3 3) (.int .i64 0)=_ from FE 0 (by decide),ae,iG,ae];have D1:∀c,c < m24.n->g5.get c=m24.get c:=λc H=>(i5 c H).trans (q0 c H);have j3:=(D1 m15.n (by omega)).trans gB;have cn:=y2.sl.cells;refine bY Ww j3 (by rw[cn];rfl) (by grind) (by rw[cn];simp[y2.sl.one]) λk3 K5 l3 E1=>?_;have j5:k3.get m15.n=.cells (scc r r2 st rc mo tv pv v50++(scc r r2 st rc mo tv pv qv++scc r r2 st rc mo tv pv qv)) 43 none:=by rw[l3,cn];rfl
  have f54:∀c,c < m24.n->c≠m15.n->k3.get c=m24.get c:=λc H h=>(E1 c h).trans (D1 c H);have F1:(ql.take k++ql.drop (k+1)).Sublist ql:=by rw[<-List.eraseIdx_eq_take_drop_succ];exact List.eraseIdx_sublist _ _
  have D0:((ql.take k++ql.drop (k+1)).map QW.q).Sublist s.qs:=C1 ▸ F1.map QW.q;have E0:=e0.bs λc cs t g H h1 _=>nB f54 c cs t g H h1;refine hQ _ _ _ ⟨rfl,by omega,by omega,f54,_,j5,⟨s.y,s.ts,s.ps,_⟩,r,r2,st,rc,mo,tv,pv,v50,rfl,hP.X3 D0,⟨E0.y,E0.ts,E0.ps,_,rfl,y2.sl.bs λc cs t g H ht=>(E1 c λe=>by grind).trans H,λx hx=>?_⟩,λx hx=>?_⟩;·exact(K4.bs λc cs g H=>nB f54 c cs _ g H (by decide)) x (F1.mem hx)
  exact rf (s:=s) (s':=⟨s.y,s.ts,s.ps,(ql.take k++ql.drop (k+1)).map QW.q⟩) rfl rfl (λf h=>h) (λq hq=>D0.mem hq) (λb a h=>h) hx
 rintro _ z2 L5 ⟨rfl,k5,n27,v0,A,m3,hA⟩;refine bA (λvs m' z0=>vs=[aey]/\m.n<=z0/\m24.n<=m'.n/\(∀c,c < m24.n->c≠m15.n->m'.get c=m24.get c)/\∃A A1,m'.get m15.n=.cells (A++(A1++scc r r2 st rc mo tv pv qv)) 43 none/\uW sf s m' A/\uW sf s m' A1) (λQ hQ=>?_) ?_
 ·have n3:Sl z2 L lv:=(k2.aG y0).bs λc cs t g H ht=>nB v0 c cs t g H (tL t ht);rw[n3.len Bq,aA,bX,ae,ak];refine av (λh0=>?_) (λ_=>hQ _ _ _ ⟨rfl,by omega,n27,v0,A,_,m3,hA,S0.bs λc cs t g H h1 _=>nB v0 c cs t g H h1⟩);have h0:0 < L.length:=by grind
  rw[aA];have⟨k,u2,e⟩:=fQ (c:=sd) (n:=L.length) h0;refine aH (nz hX C4 (by omega)) ?_;obtain⟨z,hz⟩:∃z,L[k]?=some z:=⟨_,aaW u2⟩
  have⟨b,o,e1,e2,e3⟩:=Nh n3 hz;rw[e,e1,ae,lA,ae,e3,ae];refine aw λy6 N5 o3 O5=>?_;refine aD oQ o3 rfl rfl rfl λF0 c6 r3 d6=>?_;have u3:F0.get z2.n=.cells z.f.c 53 none:=r3;have v3:Ext z2 F0:=⟨by omega,by grind⟩
  have w3:=v3.cells ((v0 m8.n m2 (by omega)).trans i0);rw[(rX w3).1,ae,(oC u3).1,ae,(oC u3).2.1,ae,RD,ae,BE (x:=⟨nw z.f,aew⟩),aA];obtain⟨A2,G0⟩:∃q,q=F0.push (.cells (TW.c ⟨nw z.f,aew⟩) 62 none):=⟨_,rfl⟩
  have l5:Ext F0 A2:=G0 ▸ Ext.refl.push;have m5:A2.get F0.n=.cells (TW.c ⟨nw z.f,aew⟩) 62 none:=by rw[G0];exact M.aY
  have k0:=v3.trans l5;have z6:=k0.n;rw[<-G0];obtain⟨_,_,t,yq, -, -, -,y3,n5,z3,o5, -⟩:=Ay (l2 ▸ aa2 hz);have⟨u,hu,r5⟩:=FW hS.perm hP.y.qk n5;have A3:=(e0.bs λc cs t g H h1 _=>nB v0 c cs t g H h1).aG k0;obtain⟨rv,B3,u5,C3,a,b',c,d,f,nn,rfl,B2⟩:=PK (m:=A2) hX hI A3.y hP.y ((hP.qs yq (aa2 y3)).ok _ z3) hu r5 hM.rc9 o5 (gH (x:=(⟨nw z.f,aew⟩:TW)) m5 ⟨rfl,rfl⟩);refine aH u5 ?_;have A6:=C3.n;rw[aJ,aJ,aJ];simp only[aaY,aaX,ae];refine aw λB6 e6 D3 f6=>?_;refine aD gQ D3 rfl rfl B2.ee λC2 g6 E3 h6=>?_;have v5:C2.get B3.n=.cells (yc a b' c d f) 38 none:=E3;have F3:Ext B3 C2:=⟨by omega,by grind⟩
  have g0:=k0.trans (C3.trans F3);obtain⟨sA,a0,a1,a2,a3,a4,a5,a6,a7,rfl,w5⟩:=hA;have G3:=g0.cells m3;rw[show aC TE .neq 46 (.int .i64 0) (.int .i64 0)=some aey by kernel_rfl,ae,ak,aT,(dP v5).2.2.2.2,ae,show an TE 66 (.slice (some ⟨m15.n,0,none⟩) 3 3) (.int .i64 1)=_ from FE 1 (by decide),ae,fX,ae];refine bY gQ G3 rfl (by grind) B2.ee λD2 i6 H3 G1=>?_;have y5:D2.get m15.n=.cells (scc a0 a1 a2 a3 a4 a5 a6 a7++(scc a b' c d f tv pv qv++scc r r2 st rc mo tv pv qv)) 43 none:=H3;have I3:∀c cs t g,C2.get c=.cells cs t g->t≠43->D2.get c=.cells cs t g:=λc cs t g H ht=>(G1 c λe=>by grind).trans H;have f94:∀c,c < m24.n->c≠m15.n->D2.get c=m24.get c:=λc H h=>by rw[G1 c h,g0.get c (by omega),v0 c H h]
  have H0:=e0.bs λc cs t g H h1 _=>nB f94 c cs t g H h1;have C6:=g0.n
  exact hQ _ _ _ ⟨rfl,by omega,by omega,f94,_,_,y5,uW.bs ⟨sA,a0,a1,a2,a3,a4,a5,a6,a7,rfl,w5⟩ λc cs t g H h1 _=>I3 c cs t g (g0.cells H) h1,⟨{s.y with rc:=nF s.y.rc z.f},s.ts,s.ps,s.qs⟩,a,b',c,d,f,tv,pv,qv,rfl,
   ⟨PJ hP.y ((hP.qs yq (aa2 y3)).ok _ z3) hM.rc9,hP.ts,hP.od,hP.qs,hP.ql,hP.uS⟩,⟨(B2.aG F3).bs λc cs t g H ht=>I3 c cs t g H (by grind),H0.ts,H0.ps,H0.qs⟩,λx hx=>rf (s:=s) (s':=⟨{s.y with rc:=nF s.y.rc z.f},s.ts,s.ps,s.qs⟩) rfl rfl (λf h=>NC h) (λq h=>h) (λb a h=>h) hx⟩
 rintro _ d0 j6 ⟨rfl,z5,J3,I0,A0,A1,K3,L3,N3⟩;rw[aE];refine bA (λvs m' z0=>vs=[]/\m.n<=z0/\m24.n<=m'.n/\(∀c,c < m24.n->c≠m15.n->m'.get c=m24.get c)/\GB sf s m' m15.n) (λQ hQ=>?_) ?_
 ·have J0:=e0.bs λc cs t g H h1 _=>nB I0 c cs t g H h1;have K0:=(I0 m8.n m2 (by omega)).trans i0;have H1:GB sf s d0 m15.n:=⟨A0,A1,_,K3,L3,N3,S0.bs λc cs t g H h1 _=>nB I0 c cs t g H h1⟩
  have⟨tl,k6,E2,D6⟩:=J0.ts;have l6:=hM.tl6;have m6:tl.length=s.ts.length:=by grind
  rw[(rX K0).2.1,ae,E2.len iy,aA,bX,ae,ak];refine av (λh1=>?_) (λ_=>hQ _ _ _ ⟨rfl,by omega,J3,I0,H1⟩);have h1:1 < tl.length:=by grind
  rw[ae,E2.len iy,aA];obtain⟨i,E6,e⟩:=fQ (c:=ai) (n:=tl.length) (by omega);refine aH (nz hX D4 (by omega)) ?_;rw[e,(rX K0).2.1,ae,E2.len iy,aA];obtain⟨k,u2,e'⟩:=fQ (c:=bi) (n:=tl.length) (by omega);refine aH (nz hX E4 (by omega)) ?_;rw[e',aQ,ae,ak];refine av (λO3=>?_) (λ_=>hQ _ _ _ ⟨rfl,by omega,J3,I0,H1⟩);have O3:i < k:=by grind
  rw[show aI TE d0 40 0 []=some (.slice (some ⟨d0.n,0,none⟩) 0 0,d0.push (.cells [] 69 none)) by kernel_rfl,aA];obtain⟨L0,l0⟩:∃q,q=d0.push (.cells [] 69 none):=⟨_,rfl⟩
  have r0:Ext d0 L0:=l0 ▸ Ext.refl.push;have c4:L0.get d0.n=.cells [] 69 none:=by rw[l0];exact M.aY
  have n120:=r0.n;have F6:=hM.YF;rw[<-l0,(rX (r0.cells K0)).2.2.1,ae];obtain⟨n6,N0,d4,e4,n124,o6,f4⟩:=PI.append (m:=L0) (n1:=d0.n) (l:=([]:List (Nat×Nat))) Gv rfl (.inr ⟨rfl,d0.n,rfl,aaV _,c4⟩) (.inl (J0.ps.aG r0)) (by omega) (by grind);rw[d4,aA,show aK TE 69 [(0,.int .i64 (i:Nat)),(1,.int .i64 (k:Nat))]=some (.agg (Hb (i,k)).toArray) by kernel_rfl,ae,M0,aA];obtain⟨I1,m0⟩:∃q,q=N0.push (.cells (Hb (i,k)) 69 none):=⟨_,rfl⟩
  have O0:Ext N0 I1:=m0 ▸ Ext.refl.push;have g4:I1.get N0.n=.cells (Hb (i,k)) 69 none:=by rw[m0];exact M.aY
  have n127:=O0.n;rw[<-m0];obtain⟨J1,K1,h4,P0,n129,r6,j4⟩:=(e4.aG O0).append (ys:=[(i,k)]) Gv rfl (.inl (gH g4 rfl)) (by omega) (by grind);have c1:∀c,c < d0.n->K1.get c=d0.get c:=λc H=>by rw[j4 c H,O0.get c (by omega),f4 c H,r0.get c H]
  obtain⟨sA,a0,a1,a2,a3,a4,a5,a6,a7,rfl,k4⟩:=L3;obtain⟨sB,b0,b1,b2,b3,b4,b5,b6,b7,rfl,l4⟩:=N3;have F2:=(c1 m15.n (by omega)).trans K3;have cn:=P0.sl.cells;rw[h4,aA,show an TE 66 (.slice (some ⟨m15.n,0,none⟩) 3 3) (.int .i64 2)=_ from FE 2 (by decide),ae,iH,ae];refine bY RZ F2 (by rw[cn];rfl) (by rw[cn];show 2*8+6+1<=24;decide) (by rw[cn];simp[P0.sl.one]) λs0 A5 G2 H2=>?_;have m4:s0.get m15.n=.cells (scc a0 a1 a2 a3 a4 a5 a6 a7++(scc b0 b1 b2 b3 b4 b5 b6 b7++scc r r2 st rc mo tv J1 qv)) 43 none:=by rw[G2,cn];rfl
  have L1:∀c cs t g,K1.get c=.cells cs t g->t≠43->s0.get c=.cells cs t g:=λc cs t g H ht=>(H2 c λe=>by grind).trans H;have d1:∀c cs t g,d0.get c=.cells cs t g->t≠43->s0.get c=.cells cs t g:=λc cs t g H ht=>L1 c cs t g ((c1 c (M.bk H)).trans H) ht;have f132:∀c,c < m24.n->c≠m15.n->s0.get c=m24.get c:=λc H h=>by grind
  have n0:=J0.bs λc cs t g H h1 _=>d1 c cs t g H h1
  have n4:∀p∈s.ps++ [(i,k)],p.1 < p.2/\p.2 < s.ts.length:=λp hp=>by
   rcases abp.1 hp with hp |hp;·exact hM.Yu p hp
   cases abr.1 hp;exact⟨O3,by omega⟩
  refine hQ _ _ _ ⟨rfl,by omega,by omega,f132,_,_,_,m4,uW.bs ⟨sA,a0,a1,a2,a3,a4,a5,a6,a7,rfl,k4⟩ λc cs t g H h1 _=>d1 c cs t g H h1,uW.bs ⟨sB,b0,b1,b2,b3,b4,b5,b6,b7,rfl,l4⟩ λc cs t g H h1 _=>d1 c cs t g H h1,⟨s.y,s.ts,s.ps++ [(i,k)],s.qs⟩,r,r2,st,rc,mo,tv,J1,qv,rfl,
   ⟨hP.y,hP.ts,.of_lt (by grind) (by grind) n4,hP.qs,hP.ql,hP.uS⟩,⟨n0.y,n0.ts,P0.sl.bs λc cs t g H ht=>L1 c cs t g H (tP t ht),n0.qs⟩,λx hx=>rf (s:=s) (s':=⟨s.y,s.ts,s.ps++ [(i,k)],s.qs⟩) rfl rfl (λf h=>h) (λq h=>h) (λb a h=>FZ (n:=s.ts.length) (ps:=s.ps) (qs:=s.ps++ [(i,k)]) (by omega) (λp hp=>?_) (λp hp=>?_) (λp hp=>List.mem_append_left _ hp) b a h) hx⟩
  ·have:=hM.Yu p hp;omega
  have:=n4 p hp;omega
 rintro _ N1 B5 ⟨rfl,v1,n100,o4,hR⟩;have r4:Sl N1 L lv:=(k2.aG y0).bs λc cs t g H ht=>nB o4 c cs t g H (tL t ht);refine Lp.intro (γ:=Nat) (λi=>3-i) (λi vs mm lo=>∃b,vs=[b,.int .i64 i]/\i<=3/\m.n<=lo/\Ext N1 mm) 0 ⟨_,rfl,by omega,v1,.refl⟩ ?_;rintro i vs mm lo ⟨bv,rfl,hi,C5,w1⟩;rw[aE,aE,aQ,ae,ak];refine av (λI2=>?_) (λG6=>⟨rfl,C5⟩);have I2:i < 3:=by grind
 have⟨a,s',q1,q2,q3,q4,q5,q6,q7,q8,e1,e2,u4,D5,o0⟩:=(hR.aG w1).at I2;rw[e1,ae,e2,ae];have⟨H6,O1,v4,i1,j1⟩:=Ei hX hS u4 D5;refine aH v4 ?_;have n146:=i1.n;have J6:=w1.n;rw[aJ,aJ];simp only[aaY,aaX,ae];rw[bZ,ae,ak];show gG false _ _;have E5:=uw hS u4;obtain⟨L',w4⟩:∃L',L'=eB sf s':=⟨_,rfl⟩
 rw[<-w4]at j1 E5 o0;rw[<-l2]at o0;have k1:=r4.aG (w1.trans i1);rw[aT];refine Lp.intro (γ:=Nat) (λk=>L'.length-k) (λk vs ma lo=>∃b,vs=[b,.int .i64 k]/\k<=L'.length/\O1=ma/\m.n<=lo) 0 ⟨_,rfl,aa6 _,rfl,by omega⟩ ?_;rintro k vs ma gh ⟨K6,rfl,hk,rfl,y4⟩;rw[aE,aE,j1.len Bq,aA,aQ,ae,ak];refine av (λl1=>?_) (λs6=>?_)
 ·have l1:k < L'.length:=by grind
  obtain⟨x,hx⟩:∃x,L'[k]?=some x:=⟨_,aaW l1⟩
  have hw:=PM (o0 x (aa2 hx));refine Lp.intro (γ:=Nat) (λn=>L.length-n) (λn vs ma lo=>vs=[.bool (Lb (L.take n) x),.int .i64 n]/\n<=L.length/\O1=ma/\m.n<=lo) 0 ⟨rfl,aa6 _,rfl,by omega⟩ ?_;rintro n vs ma L6 ⟨rfl,hn,rfl,u0⟩;rw[aE,aE,k1.len Bq,aA,aQ,ae,ak];refine av (λj0=>?_) (λP1=>?_)
  ·have j0:n < L.length:=by grind
   obtain⟨z,hz⟩:∃z,L[n]?=some z:=⟨_,aaW j0⟩
   have N6:=Ih (x:=x) hz;rw[ak];refine av (λhb=>?_) (λhb=>?_)
   ·rw[aS,ae,wrap64];exact⟨n+1,by omega,by grind,j0,rfl,u0⟩
   have⟨p1,o1,f1,f2,f3⟩:=Nh k1 hz;have⟨p2,o2,h1,h2,h3⟩:=Nh j1 hx;rw[f1,ae,pD,ae,f2,ae,h1,ae,pD,ae,h2,ae,aW,ae,ak];refine av (λht=>?_) (λht=>?_)
   ·rw[ae,lA,ae,f3,ae,ae,lA,ae,h3,ae,HK,ae,aS,ae,wrap64];exact⟨n+1,by omega,by grind,j0,rfl,u0⟩
   rw[aS,ae,wrap64];exact⟨n+1,by omega,by grind,j0,rfl,u0⟩
  have P1:n=L.length:=by grind
  subst P1;rw[abD,hw,bE,ae,ak];show gG false _ _;rw[aT,aS,ae,wrap64];exact⟨k+1,by omega,_,rfl,l1,rfl,u0⟩
 rw[aS,ae,wrap64];exact⟨i+1,by omega,_,rfl,I2,y4,w1.trans i1⟩
end Go.Proofs.YtigpcbodmjjaiaaGreatDoor
namespace Go.Proofs
open Go.D Go.Shelf Go.RowKit Go.Lib
set_option maxHeartbeats 4000000 in
theorem Tryz.DO(B V n i C:Nat)(row H:Array aes)(w:World)(hB:w.heap[B]?=some (.cells row 53 (0,0)))(hV:w.heap[V]?=some (.cells H 53 (0,0)))(o0:V≠B)(hi:i < n)(v0:n<=C)(hC:C*2<=row.size)(y0:H.size=2)(hn:n < 1000000)
  (h1:∀u∈row.toList.take (n*2),u.oneCell'=true) (h2:∀u∈H.toList,u.oneCell'=true) (h0:n+1<=C):
  Calls Tryz.prog 163 #[.slice (some ⟨B,0,none⟩) n C,.int .i64 i,.slice (some ⟨V,0,none⟩) 1 1] w λe w'=>e=.returned (.slice (some ⟨B,0,none⟩) (n+1) C)/\
   ∃r1:Array aes,w'=(w.drew.setRow B r1).setRow B (row.toList.take (i*2)++(H.toList++(row.toList.take (n*2)).drop (i*2))++row.toList.drop ((n+1)*2)).toArray:=by
 have hu:Tryz.prog.underlying 35=some (.slice 53):=by kernel_rfl
 obtain⟨ei,i0,I0,j0,J0⟩:=info_parts (P:=Tryz.prog) (e:=53) (z:=.agg #[.int .i64 0,.int .i64 0]) (size:=2) (bytes:=16) (by kernel_rfl)
 have z0:i*2+2<=n*2:=by have:=abC 2 (show i+1<=n from hi);omega
 have A0:n*2<=C*2:=abC _ v0
 have K0:¬((i:Int)=(n:Int)):=by omega
 have L0:IntKind.i64.wrap ((i:Int)+1)=(i:Int)+1:=by rw[IntKind.wrap_i64];omega
 have N0:IntKind.i64.wrap ((n:Int)+1)=(n:Int)+1:=by rw[IntKind.wrap_i64];omega
 have O0:i<=n:=by omega
 have P0:(0:Int)<=(i:Int)+1:=by omega
 have S0:(0:Int)<=(n:Int)+1:=by omega
 have a1:((i:Int)+1).toNat=i+1:=by omega
 have H0:((n:Int)+1).toNat=n+1:=by omega
 have u0:=aa9 hu
 have mixed:Tryz.prog.follows .mixedOrders=true:=by kernel_rfl
 obtain⟨a0,b0⟩:∃a0,a0=(row.toList.take (n*2)).drop (i*2):=⟨_,rfl⟩
 have d0:a0.length=(n-i)*2:=by rw[b0,acq,abP,abI,acy];omega
 have B0:∀v∈a0,v.oneCell'=true:=λv hv=>h1 v (by rw[b0]at hv;exact adn hv)
 have p0:∀j v,a0[j]?=some v->row[i*2+j]?=some v:=λj v hj=>by
  rw[b0,ab0,acX]at hj;split at hj;·rwa[ace]at hj
  cases hj
 have k0:H.toList.length=1*2:=by rw[abI,y0,aco]
 have hmul:n*2+2<=row.size:=by have:=abC 2 h0;omega
 have C0:∀w,(Go.sizeOf 53).run Tryz.prog w=.ok 2 w:=λw=>by simp[Go.sizeOf,typeInfo,i0,j0]
 have D0:∀lb cb,(callFunc 212 #[.slice (some ⟨V,0,none⟩) 1 1,.slice (some ⟨B,(i+1)*2,none⟩) lb cb]).run Tryz.prog w=.ok (.value aey) w:=λlb cb=>by
  rw[run_callFunc_extern func212 (by kernel_rfl) (by kernel_rfl) (by kernel_rfl) (e:=Extern.SlicesOverlaps.overlaps #[35,35] #[4]) (by kernel_rfl),
   Lib.run_overlaps_apart w 35 4 53 hu 2 C0 ⟨V,0,none⟩ ⟨B,(i+1)*2,none⟩ 1 1 lb cb o0 53 53 H.size row.size (by simp[World.shape?,hV]) (by simp[World.shape?,hB]) (by omega) (by simp[World.frozen?,hV]) (by simp[World.frozen?,hV])]
  rfl
 have b1:¬(C=i+1):=by omega
 have c1:(i:Int)<=(n:Int)+1:=by omega
 have d1:¬(C=i):=by omega
 obtain⟨r1,g0⟩:∃r1:Array aes,r1=(row.toList.take ((i+1)*2)++a0++row.toList.drop ((i+1)*2+a0.length)).toArray:=⟨_,rfl⟩
 have l0:w.drew.heap[B]?=some (.cells row 53 (0,0)):=hB
 have q0:∀ty dc sc,(Builtin.copy_ #[35,35] ty #[.slice (some ⟨B,(i+1)*2,none⟩) (n-i) dc,.slice (some ⟨B,i*2,none⟩) (n+1-i) sc]).run Tryz.prog w.drew=.ok (goInt (min (n+1-i) (n-i):Nat)) (w.drew.setRow B r1):=λty dc sc=>by
  rw[g0]
  exact jg w.drew _ _ ty 53 B ((i+1)*2) (n-i) dc ⟨B,i*2,none⟩ (n+1-i) sc row 53 a0 hu i0 l0
   (by rw[d0,j0];congr 1;omega) (λj v hj=>by rw[Addr.add_lit,pK l0];exact p0 j v hj) (by rw[d0,acy,abx];omega) B0
 have E0:(w.drew.setRow B r1).heap[B]?=some (.cells r1 53 (0,0)):=pW l0
 have F0:(w.drew.setRow B r1).heap[V]?=some (.cells H 53 (0,0)):=by rw[pV o0];exact hV
 have e0:(row.toList.take ((i+1)*2)++a0).length=(n+1)*2:=by rw[abq,d0,abP,abI,abx,abx,acy];omega
 have r0:r1.size=row.size:=by rw[g0,acF,abq,e0,acq,abI,d0,abx,abx,acy];omega
 obtain⟨r2,m0⟩:∃r2:Array aes,r2=(r1.toList.take (i*2)++H.toList++r1.toList.drop (i*2+H.toList.length)).toArray:=⟨_,rfl⟩
 have s0:∀ty dc,(Builtin.copy_ #[35,35] ty #[.slice (some ⟨B,i*2,none⟩) (n+1-i) dc,.slice (some ⟨V,0,none⟩) 1 1]).run Tryz.prog (w.drew.setRow B r1)=.ok (goInt (min 1 (n+1-i):Nat)) ((w.drew.setRow B r1).setRow B r2):=λty dc=>by
  rw[m0]
  exact jg _ _ _ ty 53 B (i*2) (n+1-i) dc ⟨V,0,none⟩ 1 1 r1 53 H.toList hu i0 E0
   (by rw[k0,j0];congr 1;omega) (λj v hj=>by rw[Addr.add_lit,pK F0,abA];rwa[ace]at hj) (by rw[k0,r0];omega) h2
 have e2:r2=(row.toList.take (i*2)++(H.toList++(row.toList.take (n*2)).drop (i*2))++row.toList.drop ((n+1)*2)).toArray:=by
  have ht:(i+1)*2+a0.length=(n+1)*2:=by rw[d0,abx,abx,acy];omega
  have n0:(row.toList.take ((i+1)*2)).length=(i+1)*2:=by rw[abP,abI,abx];omega
  have G0:i*2+H.toList.length=(i+1)*2:=by rw[k0,abx]
  rw[m0,g0,ht,G0]
  congr 1
  simp only[abv]
  rw[adg (by rw[n0,abx];omega),adz,ada (by rw[abx];omega),adL (by rw[n0];exact aaV _),acp (by rw[n0];exact aaV _),abZ,b0]
 rw[<-b0]at e2⊢
 rw[<-e2]
 clear d0 p0 e0 g0 m0 e2 z0 A0 hmul
 go_enter func163,ntmps163
 go_wp2_with (simp only[D0])
 go_region_law_o (refine step_copy_runI rfl _ _ 35 35 rfl _ _ (by simp[Act.eval,Act.put]) (by simp[Act.eval,Act.put]) (q0 _ _ _) ?_)
 go_wp2_with (at_builtin;refine wpList_copy_runI _ rfl _ _ 35 35 rfl _ _ rfl rfl (s0 _ _) ?_)
 go_ret
 exact⟨rfl,r1,rfl⟩
set_option maxHeartbeats 4000000 in
theorem Tryz.DP(B V n i C:Nat)(row a0:Array aes)(w:World)(hB:w.heap[B]?=some (.cells row 53 (0,0)))(hV:w.heap[V]?=some (.cells a0 53 (0,0)))(j1:V≠B)(hi:i < n)(L0:n<=C)(hC:C*2<=row.size)(N0:a0.size=2)(hn:n < 1000000)
  (h1:∀u∈row.toList.take (n*2),u.oneCell'=true) (h2:∀u∈a0.toList,u.oneCell'=true) (o0:C < n+1):
  Calls Tryz.prog 163 #[.slice (some ⟨B,0,none⟩) n C,.int .i64 i,.slice (some ⟨V,0,none⟩) 1 1] w λe w'=>∃(D:Nat) (rest:aet) (H r1:Array aes),n+1<=D/\rest.length=(D-(n+1))*2/\e=.returned (.slice (some ⟨w.heap.size,0,none⟩) (n+1) D)/\
   w'=((w.alloc (.cells H 53)).drew.setRow w.heap.size r1).drew.setRow w.heap.size (row.toList.take (i*2)++(a0.toList++(row.toList.take (n*2)).drop (i*2))++rest).toArray:=by
 have hu:Tryz.prog.underlying 35=some (.slice 53):=by kernel_rfl
 obtain⟨ei,p0,z0,q0,A0⟩:=info_parts (P:=Tryz.prog) (e:=53) (z:=.agg #[.int .i64 0,.int .i64 0]) (size:=2) (bytes:=16) (by kernel_rfl)
 have O0:i*2+2<=n*2:=by have:=abC 2 (show i+1<=n from hi);omega
 have P0:n*2<=C*2:=abC _ L0
 have k1:¬((i:Int)=(n:Int)):=by omega
 have l1:IntKind.i64.wrap ((i:Int)+1)=(i:Int)+1:=by rw[IntKind.wrap_i64];omega
 have o1:IntKind.i64.wrap ((n:Int)+1)=(n:Int)+1:=by rw[IntKind.wrap_i64];omega
 have p1:i<=n:=by omega
 have u1:(0:Int)<=(i:Int)+1:=by omega
 have v1:(0:Int)<=(n:Int)+1:=by omega
 have w1:((i:Int)+1).toNat=i+1:=by omega
 have e1:((n:Int)+1).toNat=n+1:=by omega
 have u0:=aa9 hu
 have mixed:Tryz.prog.follows .mixedOrders=true:=by kernel_rfl
 obtain⟨d0,e0⟩:∃d0,d0=(row.toList.take (n*2)).drop (i*2):=⟨_,rfl⟩
 have j0:d0.length=(n-i)*2:=by rw[e0,acq,abP,abI,acy];omega
 have S0:∀v∈d0,v.oneCell'=true:=λv hv=>h1 v (by rw[e0]at hv;exact adn hv)
 have B0:∀j v,d0[j]?=some v->row[i*2+j]?=some v:=λj v hj=>by
  rw[e0,ab0,acX]at hj;split at hj;·rwa[ace]at hj
  cases hj
 have k0:a0.toList.length=1*2:=by rw[abI,N0,aco]
 have y1:(C:Int)< (n:Int)+1:=by omega
 have C0:(n:Int)+1-(i:Int)=((n+1-i:Nat):Int):=by omega
 have z1:IntKind.i64.wrap ((n:Int)+1-(i:Int))=(n:Int)+1-(i:Int):=by rw[IntKind.wrap_i64];omega
 have r0:i+(n+1-i)=n+1:=by omega
 have D0:B < w.heap.size:=(abL.1 hB).1
 have E0:V < w.heap.size:=(abL.1 hV).1
 have a1:w.drew.heap[B]?=some (.cells row 53 (0,0)):=hB
 obtain⟨b0,holds⟩:∃b0,b0=row.toList.take (i*2):=⟨_,rfl⟩
 have i0:b0.length=i*2:=by rw[holds,abP,abI];omega
 have hold:(Builtin.firstCells ei.size i (.slice (some ⟨B,0,none⟩) i C)).run Tryz.prog w.drew=.ok b0.toArray w.drew:=by
  rw[q0]
  exact run_firstCells_some w.drew 2 i ⟨B,0,none⟩ i C b0 i0 (λj v hj=>by
   rw[Addr.add_lit,pK a1,abA];rw[holds,acX]at hj;split at hj;·rwa[ace]at hj
   cases hj)
 obtain⟨G,hG⟩:∃G,G=grownCap w (n+1) C 53:=⟨_,rfl⟩
 obtain⟨z,hz⟩:∃z:aes,z=.agg #[.int .i64 0,.int .i64 0]:=⟨_,rfl⟩
 rw[<-hz]at z0
 have s0:z.cells.size=2:=by rw[hz];rfl
 have b1:n+1<=G:=by rw[hG];exact grownCap_ge w _ _ _
 obtain⟨H,h0⟩:∃H:Array aes,H=b0.toArray++Builtin.zeroCells z.cells (n+1-i)++Builtin.zeroCells z.cells (G-(n+1)):=⟨_,rfl⟩
 have F0:∀ty,(Builtin.append_ #[35,3] ty #[.slice (some ⟨B,0,none⟩) i C,.int .i64 ((n:Int)+1-(i:Int))]).run Tryz.prog w=.ok (.slice (some ⟨w.heap.size,0,none⟩) (n+1) G) (w.drew.alloc (.cells H 53)):=λty=>by have h:=Lib.run_append_grow_zeros w 35 3 ty 53 ei z .i64 .i64 hu (by kernel_rfl) p0 z0 (some ⟨B,0,none⟩) i C b0 hold (n+1-i) (by omega) (by omega) (by omega) (by omega) (by rw[A0];omega) (by rw[A0,r0];exact growslice_fits o0 (by omega));rw[r0,<-hG,<-h0]at h;rw[C0];exact h
 obtain⟨N,hN⟩:∃N,N=w.heap.size:=⟨_,rfl⟩
 rw[<-hN]at F0⊢
 have v0:H.size=n*2+2+(G-(n+1))*2:=by rw[h0];simp only[Array.size_append,acF,size_zeroCells,s0,i0,acy,abx];omega
 have c1:B≠N:=by omega
 have A1:V≠N:=by omega
 have aN:(w.alloc (.cells H 53)).heap[N]?=some (.cells H 53 (0,0)):=by rw[hN];show(w.heap.push _)[w.heap.size]?=_;simp
 have aB:(w.alloc (.cells H 53)).heap[B]?=some (.cells row 53 (0,0)):=by rw[<-hB];show(w.heap.push _)[B]?=_;rw[acT D0,adr D0]
 have aV:(w.alloc (.cells H 53)).heap[V]?=some (.cells a0 53 (0,0)):=by rw[<-hV];show(w.heap.push _)[V]?=_;rw[acT E0,adr E0]
 obtain⟨r1,l0⟩:∃r1:Array aes,r1=(H.toList.take (i*2)++a0.toList++H.toList.drop (i*2+a0.toList.length)).toArray:=⟨_,rfl⟩
 have G0:∀(W:World),W.heap=(w.alloc (.cells H 53)).heap->∀ty dc,(Builtin.copy_ #[35,35] ty #[.slice (some ⟨N,i*2,none⟩) (n+1-i) dc,.slice (some ⟨V,0,none⟩) 1 1]).run Tryz.prog W=.ok (goInt (min 1 (n+1-i):Nat)) (W.setRow N r1):=λW hW ty dc=>by
  rw[l0]
  exact jg W _ _ ty 53 N (i*2) (n+1-i) dc ⟨V,0,none⟩ 1 1 H 53 a0.toList hu p0 (by rw[hW];exact aN)
   (by rw[k0,q0];congr 1;omega) (λj v hj=>by rw[Addr.add_lit,pK (by rw[hW];exact aV),abA];rwa[ace]at hj) (by rw[k0,v0];omega) h2
 have m0:r1.size=H.size:=by rw[l0,acF,abq,abq,k0,abP,acq,abI];omega
 obtain⟨r2,y0⟩:∃r2:Array aes,r2=(r1.toList.take ((i+1)*2)++d0++r1.toList.drop ((i+1)*2+d0.length)).toArray:=⟨_,rfl⟩
 have H0:∀(W:World),W.heap=((w.alloc (.cells H 53)).setRow N r1).heap->∀ty dc sc,(Builtin.copy_ #[35,35] ty #[.slice (some ⟨N,(i+1)*2,none⟩) (n-i) dc,.slice (some ⟨B,i*2,none⟩) (n-i) sc]).run Tryz.prog W=.ok (goInt (min (n-i) (n-i):Nat)) (W.setRow N r2):=λW hW ty dc sc=>by
  rw[y0]
  exact jg W _ _ ty 53 N ((i+1)*2) (n-i) dc ⟨B,i*2,none⟩ (n-i) sc r1 53 d0 hu p0 (by rw[hW];exact pW aN)
   (by rw[j0,q0,adJ]) (λj v hj=>by rw[Addr.add_lit,pK (by rw[hW,pV c1];exact aB)];exact B0 j v hj) (by rw[j0,m0,v0,abx,acy];omega) S0
 obtain⟨rest,g0⟩:∃rest,rest=(Builtin.zeroCells z.cells (G-(n+1))).toList:=⟨_,rfl⟩
 have e2:r2=(b0++(a0.toList++d0)++rest).toArray:=by
  have I0:i*2+a0.toList.length=(i+1)*2:=by rw[k0,abx]
  have hL:H.toList=b0++((Builtin.zeroCells z.cells (n+1-i)).toList++rest):=by rw[h0,g0,adp,adp,abv]
  have J0:(Builtin.zeroCells z.cells (n+1-i)).toList.length=(n+1-i)*2:=by rw[abI,size_zeroCells,s0]
  have hA:(b0++a0.toList).length=(i+1)*2:=by rw[abq,i0,I0]
  have hD:(i+1)*2+d0.length=(n+1)*2:=by rw[j0,abx,abx,acy];omega
  have d1:(H.toList.drop ((i+1)*2)).drop d0.length=rest:=by rw[acE,hD,hL,<-abv,adC,abq,i0,J0,acp (by rw[abq,i0,J0,acy,abx];omega)];rw[show(n+1)*2-(i*2+(n+1-i)*2)=0 by rw[acy,abx];omega];rfl
  have ht:H.toList.take (i*2)=b0:=by rw[hL,adg (by omega),abk (by omega)]
  rw[y0,l0,I0,ht]
  congr 1
  rw[adN,adK hA,adC,hA,acp (by rw[hA];omega),abZ,adB,d1]
  simp only[abv]
 have K0:rest.length=(G-(n+1))*2:=by rw[g0,abI,size_zeroCells,s0]
 have g1:G<=9223372036854775807:=by have:=grownCap_le_maxLen w (n+1) C 53 (by unfold maxLen;omega);rw[<-hG]at this;unfold maxLen at this;omega
 have B1:¬(G=i):=by omega
 have i1:¬(G=i+1):=by omega
 have C1:¬(C=i):=by omega
 have D1:(i:Int)<=(n:Int):=by omega
 rw[<-e0,<-holds]
 have n0:∀e w',e=Ending.returned (.slice (some ⟨N,0,none⟩) (n+1) G)->w'=((w.alloc (.cells H 53)).drew.setRow N r1).drew.setRow N r2->∃(D:Nat) (rest:aet) (H r1:Array aes),n+1<=D/\rest.length=(D-(n+1))*2/\e=.returned (.slice (some ⟨N,0,none⟩) (n+1) D)/\
  w'=((w.alloc (.cells H 53)).drew.setRow N r1).drew.setRow N (b0++(a0.toList++d0)++rest).toArray:=λe w' h1 h2=>⟨G,rest,H,r1,b1,K0,h1,by rw[h2,e2]⟩
 clear C0 r0 hold h0 hG v0 j0 B0 i0 g0 e2 l0 y0 m0 holds e0 O0 P0 K0 hN
 refine Calls.mono (R:=λe w'=>e=Ending.returned (.slice (some ⟨N,0,none⟩) (n+1) G)/\w'=((w.alloc (.cells H 53)).drew.setRow N r1).drew.setRow N r2) ?_ (λe w' h=>n0 e w' h.1 h.2)
 clear n0
 have hE:(w.alloc (.cells H 53)).drew.heap=(w.alloc (.cells H 53)).heap:=rfl
 have hF:((w.alloc (.cells H 53)).drew.setRow N r1).drew.heap=((w.alloc (.cells H 53)).setRow N r1).heap:=rfl
 go_enter func163,ntmps163
 go_wp2_with (first
  |(at_builtin;refine Lib.wpList_append_run _ rfl _ _ _ _ rfl _ _ rfl rfl _ _ (F0 _) ?_)
  |(at_builtin;refine wpList_copy_runI _ rfl _ _ 35 35 rfl _ _ rfl rfl (G0 _ hE _ _) ?_))
 go_region_law_o (refine step_copy_runI rfl _ _ 35 35 rfl _ _ (by simp[Act.eval,Act.put]) (by simp[Act.eval,Act.put]) (H0 _ hF _ _ _) ?_)
 go_wp2
 go_ret
 exact⟨rfl,rfl⟩
theorem Tryz.Ty:SF Tryz.prog ⟨163,2,53⟩ where
 Wk:=enters_of func163 (by kernel_rfl) rfl
 pos:=by show 0 < 2;decide
 go:=λB V n i C row a0 w hB hV d0 hi e0 hC g0 hn h1 h2=>by
  by_cases H:n+1<=C
  ·refine(Tryz.DO B V n i C row a0 w hB hV d0 hi e0 hC g0 hn h1 h2 H).mono ?_
   rintro e w' ⟨rfl,r1,rfl⟩
   refine⟨⟨rfl,rfl,rfl⟩,.inl ⟨H,rfl,?_,λb hb=>?_,?_⟩⟩
   ·rw[setRow_size,setRow_size];rfl
   ·rw[pV hb,pV hb];rfl
   ·exact pW (pW (show w.drew.heap[B]?=_ from hB))
  ·refine(Tryz.DP B V n i C row a0 w hB hV d0 hi e0 hC g0 hn h1 h2 (by omega)).mono ?_
   rintro e w' ⟨D,rest,h0,r1,hD,b0,rfl,rfl⟩
   refine⟨⟨rfl,rfl,rfl⟩,.inr ⟨D,rest,hD,b0,rfl,?_⟩⟩
   have h:∀r2:Array aes,(((w.alloc (.cells h0 53)).setRow w.heap.size r1).setRow w.heap.size r2)=w.alloc (.cells r2 53):=λr2=>by rw[World.setRow_alloc_new,World.setRow_alloc_new]
   exact congrArg World.heap (h _)
end Go.Proofs
namespace Go.D
open Go
section
section
variable {E:Env} {call:aM} {n:Nat}
def flat:Code->List Code
 |.seq a b=>flat a++flat b
 |c=> [c]
def iM(f:Code->Fr->Option (Ex×Fr)):List Code->Fr->Option (Ex×Fr)
 |[],fr=>some (.normal,fr)
 |c::r,fr=>match f c fr with
  |some (.normal,fr)=>iM f r fr
  |r=>r
theorem uG(f:Code->Fr->Option (Ex×Fr)):∀(a b:List Code) (fr:Fr),iM f (a++b) fr=match iM f a fr with |some (.normal,fr)=>iM f b fr |r=>r
 |[],b,fr=>rfl
 |c::a,b,fr=>by
  show(match f c fr with |some (.normal,fr)=>iM f (a++b) fr |r=>r)=match(match f c fr with |some (.normal,fr)=>iM f a fr |r=>r)with |some (.normal,fr)=>iM f b fr |r=>r
  cases h:f c fr with
  |none=>rfl
  |some p=>
   have⟨e,H⟩:=p
   cases e with
   |normal=>exact uG f a b H
   |exit id=>rfl
   |ret=>rfl
theorem uH:∀(c:Code) (fr:Fr),bU E call n c fr=iM (bU E call n) (flat c) fr
 |.seq a b,fr=>by
  rw[flat,uG,<-uH a fr]
  show(match bU E call n a fr with |some (.normal,fr)=>bU E call n b fr |r=>r)=_
  cases h:bU E call n a fr with
  |none=>rfl
  |some p=>
   have⟨e,H⟩:=p
   cases e with
   |normal=>exact uH b H
   |exit id=>rfl
   |ret=>rfl
 |.skip,fr=>fq _ fr
 |.region _ _ _,fr=>fq _ fr
 |.cond _ _ _,fr=>fq _ fr
 |.block _ _,fr=>fq _ fr
 |.loop _,fr=>fq _ fr
 |.exit _,fr=>fq _ fr
 |.ret,fr=>fq _ fr
 |.label _,fr=>fq _ fr
 |.goto _,fr=>fq _ fr
 |.rangeFunc _ _ _ _,fr=>fq _ fr
 |.scope _,fr=>fq _ fr
 |.refuse _,fr=>fq _ fr
where
 fq (c:Code) (fr:Fr):bU E call n c fr=iM (bU E call n) [c] fr:=by
  unfold iM
  cases h:bU E call n c fr with
  |none=>rfl
  |some p=>
   have⟨e,H⟩:=p
   cases e <;>rfl
theorem Kg{f:Code->Fr->Option (Ex×Fr)}{l:List Code}{fr H:Fr}(a k:Nat)(h:iM f ((l.drop a).take k) fr=some (.normal,H)):iM f (l.drop a) fr=iM f (l.drop (a+k)) H:=by
 have e:l.drop a=(l.drop a).take k++l.drop (a+k):=by rw[<-acE,abW]
 rw[e,uG,h]
theorem Co{X:aM}{f:FuncId}{fn:Func}{c:Code}{args:aet}{m:M}{fr:Fr}{v:aes}(H:X (.func f) args m=none)(hf:E.fn.get f=some fn)(hb:fn.body=some c)(hle:Nat.ble args.length fn.ntmps)
  (he:bU E (cJ E X n) n c {T:=enter args 0,m:={m with low:=m.n}}=some (.ret,fr)) (hr:result? E fn fr.T fr.m=some v) (hv:bF v) (hl:Nat.ble m.n fr.m.low):cJ E X (n+1) (.func f) args m=some (v,m):=by
 unfold cJ
 grind
end
end
section
section
variable {P:Program}
def zA(X Y:aM):aM:=λf args m=>match X f args m with |some r=>some r |none=>Y f args m
theorem ud{X Y:aM}{f:Fn}{args:aet}{m:M}{r:aes×M}(h:zA X Y f args m=some r):X f args m=some r\/Y f args m=some r:=by
 unfold zA at h
 cases H:X f args m with
 |none=>rw[H]at h;exact .inr h
 |some r'=>rw[H]at h;exact .inl h
theorem Fk{X Y:aM}(hX:du P X)(hY:du P Y):du P (zA X Y):=
 ⟨λf args m v H h=>(ud h).elim (hX.func f args m v H) (hY.func f args m v H),
  λl args m v H h=>(ud h).elim (hX.yield l args m v H) (hY.yield l args m v H),
  λf args m v H h=>(ud h).elim (hX.bs f args m v H) (hY.bs f args m v H)⟩
theorem oZ{X Y:aM}{f:Fn}{args:aet}{m:M}(h1:X f args m=none)(H:Y f args m=none):zA X Y f args m=none:=by unfold zA;rw[h1];exact H
end
section
variable {E:Env} {call:aM}
end
end
end Go.D
namespace Go.Proofs.YtigpcbodmjjaiaaGreatDoor
open Go Go.D Go.Proofs.Tryz
section
variable {m:M}
def sE:Nat->aet->Option (List Pl)
 |0,_=>some []
 |n+1,.int .i64 x::.int .i64 y::r=>match sE n r with |some l=>some (⟨x,y⟩::l) |none=>none
 |_+1,_=>none
def MT(m:M)(v:aes):Option (List Pl):=
 match v with
 |.slice none 0 0=>some []
 |.slice (some a) n _=>match a.spot,m.get a.block with
  |none,.cells cs e _=>bif Nat.beq e 141 && Nat.ble (a.off+n*2) cs.length then sE n (cs.drop a.off)else none
  |_,_=>none
 |_=>none
theorem yl:∀{n:Nat} {cs:aet} {l:List Pl},sE n cs=some l->l.length=n/\∀i p,l[i]?=some p->(cs.drop (i*2)).take 2=p.c
 |0,_,l,h=>by cases h;exact⟨rfl,λi p hi=>by cases hi⟩
 |n+1,cs,l,h=>by
  unfold sE at h
  split at h
  ·omega
  ·rename_i n' x y r hn
   cases hn
   cases H:sE n r with
   |none=>rw[H]at h;cases h
   |some l'=>
    rw[H]at h
    cases h
    have⟨h1,h2⟩:=yl H
    refine⟨by grind,λi p hi=>?_⟩
    match i with
    |0=>cases hi;rfl
    |i+1=>
     grind
  ·cases h
theorem MS{v:aes}{l:List Pl}(h:MT m v=some l):Sl m l v:=by
 unfold MT at h;split at h;·cases h;exact .inl ⟨rfl,rfl⟩
 ·rename_i a n c;split at h
  ·rename_i cs e g H hg
   cases hc:(Nat.beq e 141 && Nat.ble (a.off+n*2) cs.length)with
   |false=>rw[hc]at h;cases h
   |true=>rw[hc,cond_true]at h;rw[aa3]at hc;obtain rfl:=aba hc.1;have hle:=abz hc.2;have⟨h1,h2⟩:=yl h;have⟨ab,ao,sp⟩:=a;have H:sp=none:=H;subst H;refine .inr ⟨ab,ao,c,cs,g,by rw[h1],hg,by rw[h1];exact hle,λi p hi=>?_⟩;have:=h2 i p hi;rw[acE]at this;exact this
  cases h
 cases h
theorem Qy:cy WH:=⟨λ_ _ _ _=>rfl⟩
def yj:aM:=λfn args m=>
 match fn with
 |.func f=>
  bif Nat.beq f 170 then
   match args with
   |[v]=>match MT m v with |some l=>bif Nat.ble l.length 1000 then some (.bool (bM l),m)else none |none=>none
   |_=>none
  else none
 |_=>none
theorem Jg:du Tryz.prog yj:=by
 refine⟨λf args m v m' H σ w a0 hs hl=>?_,λl args m v m' H=>by simp[yj]at H,λf args m v m' H=>?_⟩
 ·unfold yj at H
  dsimp only at H
  cases h1:Nat.beq f 170 with
  |true=>
   obtain rfl:=aba h1;rw[h1,cond_true]at H;split at H
   ·rename_i v0;split at H
    ·rename_i l hp
     cases hlen:Nat.ble l.length 1000 with
     |false=>rw[hlen]at H;cases H
     |true=>rw[hlen,cond_true]at H;cases H;have hle:=abz hlen;have hc:=Cl.calls ag.ok Tm (jq Qy (MS hp) (by omega)) hs hl;exact⟨hc.1.mono λe w' h=>h.flat hs rfl,hc.2⟩
    cases H
   cases H
  |false=>
   grind
 ·unfold yj at H
  cases f with
  |func f=>
   dsimp only at H
   cases h1:Nat.beq f 170 with
   |true=>
    rw[h1,cond_true]at H;split at H
    ·split at H
     ·rename_i l hp
      cases hlen:Nat.ble l.length 1000 with
      |false=>rw[hlen]at H;cases H
      |true=>rw[hlen,cond_true]at H;cases H;exact LK.refl
     cases H
    cases H
   |false=>
    grind
  |_=>cases H
end
end Go.Proofs.YtigpcbodmjjaiaaGreatDoor
