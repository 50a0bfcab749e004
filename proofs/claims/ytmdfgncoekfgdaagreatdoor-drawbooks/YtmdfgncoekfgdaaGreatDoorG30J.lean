/- draw.Unfold: the book. -/
import Derived.Test.YtmdfgncoekfgdaaGreatDoorG29J
namespace Go.Proofs.YtmdfgncoekfgdaaGreatDoor
open Go Go.D
variable {X:aF} {m:M}
theorem _root_.Go.D.Lp.lQ{F:(List Value->M->Nat->Prop)->List Value->M->Nat->Prop}{vs:List Value}{m:M}{lo:Nat}{γ:Type}(μ:γ->Nat)(I:γ->List Value->M->Nat->Prop)(g0:γ)(h0:I g0 vs m lo)
  (h:∀g vs m lo,I g vs m lo->∀P:List Value->M->Nat->Prop,(∀g' vs m lo,μ g' < μ g->I g' vs m lo->P vs m lo)->F P vs m lo):Lp F vs m lo:=
 Lp.intro μ I g0 h0 fun g vs m lo hI=>h g vs m lo hI _ fun g' vs m lo h1 h2=>⟨g',h1,h2⟩
theorem aw{α:Type}{x:Option α}{v:α}{P:α->Prop}(h:x=some v)(hp:P v):ah x P:=by rw[h];exact hp
theorem uP{sc:List Ct->List Ct}(hS:xF X sc){mm:M}{n1 L B:Nat}{side size depth:Int}{tv:Value}{ts:List Int}{P:M->Nat->Prop}
  (hL:mm.get L=.cells (CE side size depth tv (.slice none 0 0)) 105 none) (hw:Ow n1 mm ts tv) (hl:ts.length<=1000) (hn1:n1<=mm.n) (hB:B<=n1)
  (hP:∀m' b,B<=b->m'.n=mm.n->(∀c,c < n1->m'.get c=mm.get c)->m'.get L=.cells (CE side size depth tv (.slice none 0 0)) 105 none->Ow n1 m' (kx ts) tv->P m' b):
  ah (ag TE mm 25 (.pointer (some ⟨L,0+3,none⟩))) fun v=>bB TE X (.func 103) [v] mm fun _ m' b=>P m' b:=by
 rw[show ag TE mm 25 (.pointer (some ⟨L,0+3,none⟩))=some tv by rw[jU,az hL];rfl,aa]
 obtain⟨m',b,hc,h1,h2,h3,h4⟩:=hS.int mm n1 ts tv hn1 hw hl
 refine aC hc ?_
 refine hP m' b (by omega) h3 (fun c hc=>h4 c fun a n k e=>?_) ?_ h1
 ·obtain⟨cs,g, -,hge⟩:=fy hw e
  omega
 ·rw[h4 L fun a n k e=>?_,hL]
  obtain⟨cs,g,hb, -⟩:=fy hw e
  intro e'
  rw[<-e',hL]at hb
  exact absurd (Ob.cells.inj hb).2.1 (by decide)
theorem wE{us:List Un}{cts:List Ct}{ms:List Mk}{u:Un}{i:Nat}(h:i < u.shape.length):pn us cts ms u i=⟨(i:Nat),MU (dj u.shape i) (jK u.shape i),u.front-u.back,kx (fU cts u i),jz ms u.id (i:Nat)⟩:=by
 unfold pn;rw[if_pos h]
theorem Mf{us:List Un}{cts:List Ct}{ms:List Mk}{u:Un}{i:Nat}(h:¬i < u.shape.length):pn us cts ms u i=⟨cI u.shape.length i,mj u.shape,0,kx (Bb us u (cI u.shape.length i)),jz ms u.id (cI u.shape.length i)⟩:=by
 unfold pn cI
 rw[if_neg h,if_neg h]
 by_cases h2:i=u.shape.length
 ·rw[if_pos h2,if_pos h2]
 ·rw[if_neg h2,if_neg h2]
set_option maxHeartbeats 1000000 in
set_option maxRecDepth 100000 in
theorem uM{sc:List Ct->List Ct}(hX:dF X)(hS:xF X sc){l:List UW}{r vm:Value}{ms:List Mk}{u:Un}(hF:eF m l r)(hP:cS (cd l))(hm:Sl m ms vm)(hM:oC (cd l) ms)(hu:eL (cd l) u.id=some u):
  ∃ls lv m',C X (.func 36) [.agg #[r,vm],.int .i64 u.id] m m.n (.tuple #[lv,.int .i64 0]) m'/\Ext m m'/\De m' ls lv/\ls.map (·.l)=kW (cd l) (sc (cf (cd l))) ms u:=by
 have key:=Cl.heap (E:=TE) (X:=X) (f:=36) (args:=[.agg #[r,vm],.int .i64 u.id]) (m:=m) (R:=fun v' m' b=>b=m.n/\∃ls lv,v'=.tuple #[lv,.int .i64 0]/\Ext m m'/\De m' ls lv/\ls.map (·.l)=kW (cd l) (sc (cf (cd l))) ms u) (hX.no _ rfl) Ml rfl ?_
 ·obtain⟨v',m',b,hc,rfl,ls,lv,rfl,h1,h2,h3⟩:=key
  exact⟨ls,lv,m',hc,h1,h2,h3⟩
 have hum:u∈cd l:=(AX hu).1
 have hval:=hP.val u hum
 have h8:=e9 hval
 have h38:=cC (mu hval)
 have hsm:=dI (mu hval)
 have hid:=rZ hval
 have hdep:=pS hval
 have hl12:l.length<=12:=by have:=hP.len;rw[dZ]at this;exact this
 have hperm:=hS.perm (cf (cd l))
 have hcsm:∀c∈sc (cf (cd l)),(c.p.sm 1000000/\c.q.sm 1000000)/\(-1000<=c.a/\c.a<=1000)/\ -1000<=c.b/\c.b<=1000:=fun c hc=>CQ hP (hperm.mem_iff.1 hc)
 have hclen:(sc (cf (cd l))).length<=1000:=by
  rw[hperm.length_eq]
  have h1:=qC (cd l)
  rw[dZ]at h1
  have:l.length*l.length<=12*12:=Nat.mul_le_mul hl12 hl12
  omega
 rw[Zc];dsimp only[aN]
 refine ar fun m1 hn1 hg1 hk1=>?_
 have g1:m1.get m.n=.cells [r,vm] 60 none:=hg1
 have hx1:Ext m m1:=⟨by omega,hk1⟩
 unfold ptrTo
 have ldF:∀mm:M,mm.get m.n=.cells [r,vm] 60 none->ag TE mm 31 (.pointer (some ⟨m.n,0+0,none⟩))=some (.agg #[r]):=fun mm hh=>by rw[eo,aH (n:=1) hh (by show 0+0+1<=2;decide)];rfl
 have ldM:∀mm:M,mm.get m.n=.cells [r,vm] 60 none->ag TE mm 58 (.pointer (some ⟨m.n,0+1,none⟩))=some vm:=fun mm hh=>by rw[rQ,az hh];rfl
 have ldU:∀mm:M,mm.get m.n=.cells [r,vm] 60 none->ag TE mm 29 (.pointer (some ⟨m.n,0+0+0,none⟩))=some r:=fun mm hh=>by rw[fD,az hh];rfl
 refine aw cP ?_
 rw[ldF m1 g1,aa]
 obtain⟨ov,m5,hc,hx5,hov⟩:=wM (m:=m1) hX (hF.aD hx1) hP u.id
 refine aC hc ?_
 rw[hu]at hov⊢
 obtain⟨w,rfl,hw5⟩:=hov
 rw[aR,aR]
 simp only[List.getElem?_cons_zero,List.getElem?_cons_succ,aa]
 refine ar fun m9 hn9 hg9 hk9=>?_
 refine av eH hg9 rfl rfl (Un.eE hw5.one) fun m10 hn10 hg10 hk10=>?_
 have hx10:Ext m5 m10:=⟨by omega,fun b hb=>by rw[hk10 b (by omega),hk9 b hb]⟩
 have gU10:m10.get m5.n=.cells (u.c w) 87 none:=hg10
 have hxa:=(hx1.trans hx5).trans hx10
 have hn5:=hx5.n
 have gS10:=hx10.cells (hx5.cells g1)
 have hw10:=hw5.aD hx10
 refine cq (fun vs m' lo=>vs=[.bool false]/\m10=m'/\m.n<=lo) (fun R hR=>?_) ?_
 ·rw[show ag TE m10 60 (.pointer (some ⟨m.n,0,none⟩))=some (.agg #[r,vm]) by rw[mN,aH (n:=2) gS10 (by show 0+2<=2;decide)];rfl,aa]
  refine aC (vz hX (hF.aD hxa) hP (hm.aD hxa) hM) ?_
  rw[bD,aa,aj,Bool.not_true,aU,bD,aa]
  exact hR _ _ _ ⟨rfl,rfl,by omega⟩
 rintro _ _ lo ⟨rfl,rfl,hlo⟩
 rw[aA,aj,aU,bP gU10,aa]
 obtain⟨m26,fv,hc26,hx26,hfv⟩:=zI (m:=m10) hX hw10 (by omega)
 refine aC hc26 ?_
 have hfl:=vn hval
 have hxn26:=hx26.n
 rw[hfv.sl.len vT,au]
 have hF26:=(hF.aD hxa).aD hx26
 have hm26:=(hm.aD hxa).aD hx26
 have hw26:=hw10.aD hx26
 have gS26:=hx26.cells gS10
 have gU26:=hx26.cells gU10
 refine Lp.lQ (γ:=Nat) (fun i=>u.shape.length+2-i) (fun i vs mm lo=>∃ls out,vs=[out,.int .i64 i]/\i<=u.shape.length+2/\Ext m26 mm/\Ow m26.n mm ls out/\De mm ls out/\ls.map (·.l)=(List.range i).map (pn (cd l) (sc (cf (cd l))) ms u)/\m.n<=lo) 0
  ⟨[],_,rfl,Nat.zero_le _,.refl,Ow.nil,⟨Sl.nil,fun x hx=>(by cases hx),fun x hx=>(by cases hx)⟩,rfl,by omega⟩ ?_
 rintro i vs mm lo ⟨ls,out,rfl,hi,hx,hout,hlf,hls,hlo'⟩ P29 hP29
 have hxn:=hx.n
 have hlsl:ls.length=i:=by
  have:=congrArg List.length hls
  rwa[List.length_map,List.length_map,List.length_range]at this
 rw[aA,aA,hfl,aM,aa,aj]
 refine ak (fun hlt=>?_) (fun hge=>?_)
 ·have hlt:i < u.shape.length+2:=by
   have:=of_decide_eq_true hlt
   omega
  obtain⟨q,e1,e2⟩:=(hfv.sl.aD hx).QR (k:=.i64) (zJ hval hlt)
  rw[e1,aa,e2,aa]
  refine ar fun m40 hn40 hg40 hk40=>?_
  refine av MQ hg40 rfl rfl rfl fun m41 hn41 hg41 hk41=>?_
  have gF41:m41.get mm.n=.cells [.int .i64 u.id,.int .i64 (cI u.shape.length i)] 107 none:=hg41
  have ldS:∀m':M,m'.get mm.n=.cells [.int .i64 u.id,.int .i64 (cI u.shape.length i)] 107 none->ag TE m' 3 (.pointer (some ⟨mm.n,0+1,none⟩))=some (.int .i64 (cI u.shape.length i)):=fun m' hh=>by rw[bA,az hh];rfl
  refine aw cT ?_
  rw[ldS m41 gF41,aa,JD,aa]
  refine ar fun m46 hn46 hg46 hk46=>?_
  refine av MR hg46 rfl rfl rfl fun m47 hn47 hg47 hk47=>?_
  have gL47:m47.get m41.n=.cells (CE (cI u.shape.length i) 0 0 (.slice none 0 0) (.slice none 0 0)) 105 none:=hg47
  have hx47:Ext mm m47:=⟨by omega,fun c hc=>by rw[hk47 c (by omega),hk46 c (by omega),hk41 c (by omega),hk40 c hc]⟩
  have gF47:m47.get mm.n=.cells [.int .i64 u.id,.int .i64 (cI u.shape.length i)] 107 none:=by rw[hk47 _ (by omega),hk46 _ (by omega),gF41]
  have hxm47:=hx.trans hx47
  have gS47:=hxm47.cells gS26
  have gU47:=hxm47.cells gU26
  have hw47:=hw26.aD hxm47
  refine aw cT ?_
  rw[ldS m47 gF47,aa,cR,aa,aj]
  refine ak (fun hsd=>?_) (fun hsd=>?_)
  ·have hsd:=of_decide_eq_true hsd
   have hin:i < u.shape.length:=by
    unfold cI at hsd
    split at hsd
    ·assumption
    ·split at hsd <;>omega
   have hsi:cI u.shape.length i=(i:Nat):=by unfold cI;rw[if_pos hin]
   rw[hsi]at gF47 gL47
   have ldS:∀m':M,m'.get mm.n=.cells [.int .i64 u.id,.int .i64 (i:Nat)] 107 none->ag TE m' 3 (.pointer (some ⟨mm.n,0+1,none⟩))=some (.int .i64 (i:Nat)):=fun m' hh=>by rw[bA,az hh];rfl
   have ea:=fG hin
   have eb:=gZ hin
   obtain⟨b0,o0,bc,g0',cs,x0,hb0, -⟩:=hw47.iF cF (k:=.i64) ea
   obtain⟨a0,y0,z0⟩:=hw47.dK (k:=.i64) ea
   obtain⟨b1,o1,bc1,g1',cs1,x1,hb1, -⟩:=hw47.iF cF (k:=.i64) eb
   obtain⟨a1,y1,z1⟩:=hw47.dK (k:=.i64) eb
   obtain rfl:a0=.pointer (some ⟨b0,o0,none⟩):=Option.some.inj (y0.symm.trans x0)
   obtain rfl:a1=.pointer (some ⟨b1,o1,none⟩):=Option.some.inj (y1.symm.trans x1)
   have hl1:=M.aI hb1
   have em:(((i:Int)+1).tmod (u.shape.length:Int))=(((i+1)%u.shape.length:Nat):Int):=by
    rw[show((i:Int)+1)=((i+1:Nat):Int) by omega]
    exact(Int.ofNat_tmod _ _).symm
   have A1:=ldS m47 gF47
   have A3:=(iD gU47).2.2.2.1
   refine aw bd (aw A3 (aw cT (aw A1 (aw y0 (aw z0 (aw bd (aw A3 (aw cT (aw A1 ?_)))))))))
   refine aw (v:=.int .i64 ((i:Int)+1)) (by rw[aG,wrap64 (by omega) (by omega)]) (aw bd (aw A3 ?_))
   rw[hw47.len cF,au,mZ (by omega),aa,em]
   refine aw y1 (aw z1 ?_)
   refine ar fun m69 hn69 hg69 hk69=>?_
   refine ar fun m70 hn70 hg70 hk70=>?_
   refine av cG ((hk70 m47.n (by omega)).trans hg69) rfl rfl rfl fun m71 hn71 hg71 hk71=>?_
   refine⟨.inr ⟨fm (by omega),fm (by omega),fm (by omega),za hw47,fm (by omega),trivial⟩,?_⟩
   refine av cG ((hk71 m69.n (by omega)).trans hg70) rfl rfl rfl fun m73 hn73 hg73 hk73=>?_
   have ga:m73.get m47.n=.cells (dj u.shape i).c 98 none:=by rw[hk73 _ (by omega),hg71];rfl
   have gq:m73.get m69.n=.cells (jK u.shape i).c 98 none:=by rw[hg73];rfl
   have hx73:Ext m47 m73:=⟨by omega,fun c hc=>by rw[hk73 c (by omega),hk71 c (by omega),hk70 c (by omega),hk69 c hc]⟩
   have gU73:=hx73.cells gU47
   obtain⟨a1,a2,a3,a4⟩:=hsm _ (List.mem_of_getElem? ea)
   obtain⟨c1,c2,c3,c4⟩:=hsm _ (List.mem_of_getElem? eb)
   have P0:=bC (b:=m69.n) (o:=0)
   have P1:=bJ (b:=m69.n) (o:=0)
   have Q0:=bC (b:=m47.n) (o:=0)
   have Q1:=bJ (b:=m47.n) (o:=0)
   refine aw P0 (aw (pz gq).1 (aw Q0 (aw (pz ga).1 (aw dc (aw P0 (aw (pz gq).1 (aw Q0 (aw (pz ga).1 (aw dc (aw dt (aw P1 (aw (pz gq).2 (aw Q1 (aw (pz ga).2 (aw dc (aw P1 (aw (pz gq).2 (aw Q1 (aw (pz ga).2 (aw dc (aw dt (aw aG ?_))))))))))))))))))))))
   refine aw cN (aw (iD gU73).2.2.2.2.2 (aw cO (aw (iD gU73).2.2.2.2.1 (aw dc (aw fF ?_)))))
   have sz:IntKind.i64.wrap (IntKind.i64.wrap (IntKind.i64.wrap ((jK u.shape i).x-(dj u.shape i).x)*IntKind.i64.wrap ((jK u.shape i).x-(dj u.shape i).x))+IntKind.i64.wrap (IntKind.i64.wrap ((jK u.shape i).y-(dj u.shape i).y)*IntKind.i64.wrap ((jK u.shape i).y-(dj u.shape i).y)))=MU (dj u.shape i) (jK u.shape i):=by
    generalize dj u.shape i=A at*
    generalize jK u.shape i=B at*
    have k1:=ji (a:=B.x-A.x) (b:=B.x-A.x) (N:=2000000) (by omega) (by omega) (by omega) (by omega)
    have k2:=ji (a:=B.y-A.y) (b:=B.y-A.y) (N:=2000000) (by omega) (by omega) (by omega) (by omega)
    unfold MU
    rw[wrap64 (x:=B.x-A.x) (by omega) (by omega),wrap64 (x:=B.y-A.y) (by omega) (by omega),wrap64 (x:=(B.x-A.x)*(B.x-A.x)) (by omega) (by omega),wrap64 (x:=(B.y-A.y)*(B.y-A.y)) (by omega) (by omega),wrap64 (by omega) (by omega)]
   rw[sz,wrap64 (x:=u.front-u.back) (by omega) (by omega)]
   have gL73:=hx73.cells gL47
   refine dS nB gL73 rfl (by show 0+1+1<=5;decide) rfl fun m104 hn104 hg104 hk104=>?_
   refine⟨.inr ⟨fm (by omega),fm (by omega),trivial⟩,?_⟩
   refine aw lC ?_
   refine dS nB hg104 rfl (by show 0+2+1<=5;decide) rfl fun m107 hn107 hg107 hk107=>?_
   have gL107:m107.get m41.n=.cells (CE (i:Nat) (MU (dj u.shape i) (jK u.shape i)) (u.front-u.back) (.slice none 0 0) (.slice none 0 0)) 105 none:=hg107
   have hx107:Ext mm m107:=⟨by have:=hx73.n;omega,fun c hc=>by rw[hk107 c (by omega),hk104 c (by omega),hx73.get c (by omega),hx47.get c hc]⟩
   have hxm107:=hx.trans hx107
   have gS107:=hxm107.cells gS26
   refine aw cP (aw (ldF m107 gS107) ?_)
   obtain⟨m112,cv,hc112,hx112,hcv⟩:=pE (m:=m107) hX hS (hF26.aD hxm107) (jk hP)
   refine aC hc112 ?_
   rw[hcv.sl.len Av,au]
   have hxm112:=hxm107.trans hx112
   have hn112:=hx112.n
   have hn73:=hx73.n
   have gF112:m112.get mm.n=.cells [.int .i64 u.id,.int .i64 (i:Nat)] 107 none:=by rw[hx112.get _ (by omega),hk107 _ (by omega),hk104 _ (by omega),hx73.get _ (by omega),gF47]
   refine DW (B:=m.n) hX hcv.sl gF112 (hxm112.cells gU26) (hw26.aD hxm112) (hx112.cells gL107) hin h8 hsm (fun c hc=>(hcsm c hc).1) (by omega) (fun c hc=>(hcsm c hc).2) hclen (by omega) (by omega) fun m117 lo118 tv hn117 hk117 hlo118 gL117 htv=>?_
   refine aw dn ?_
   have htl:(fU (sc (cf (cd l))) u i).length<=1000:=by
    unfold fU
    rw[List.length_map]
    have:=List.length_filter_le (fun c=>fx u.id c && nR u.shape i c) (sc (cf (cd l)))
    omega
   refine uP (B:=m.n) hS gL117 htv htl (by omega) (by omega) fun m191 b192 hb192 hn191 hk191 gL191 htv191=>?_
   have hx191:Ext mm m191:=⟨by have:=hx107.n;omega,fun c hc=>by rw[hk191 c (by omega),hk117 c (by omega) (by omega),hx112.get c (by omega),hx107.get c hc]⟩
   have hxm191:=hx.trans hx191
   refine aw eV (aw (ldM m191 (hxm191.cells gS26)) ?_)
   rw[(hm26.aD hxm191).len kN,au]
   have gF191:m191.get mm.n=.cells [.int .i64 u.id,.int .i64 (i:Nat)] 107 none:=by rw[hk191 _ (by omega),hk117 _ (by omega) (by omega),gF112]
   refine sV (B:=m.n) (n2:=m26.n) (acc:=ls) (hm26.aD hxm191) gF191 gL191 htv191.sl (hout.aD hx191) (hlf.aD hx191) hM.len (by omega) (by omega) (by omega) (by omega) (by omega) fun out' m' lo' x hxl hw' hlf' hn' hk' hlo2=>?_
   refine hP29 (i+1) _ _ _ (by omega) ⟨ls++ [x],out',rfl,by omega,⟨by have:=hxm191.n;omega,fun c hc=>by rw[hk' c hc,hxm191.get c hc]⟩,hw',hlf',?_,hlo2⟩
   rw[List.map_append,hls,List.range_succ,List.map_append,List.map_singleton,List.map_singleton,hxl,wE hin]
  ·have hsd:=of_decide_eq_false hsd
   have hin:¬i < u.shape.length:=by
    intro h
    apply hsd
    unfold cI
    rw[if_pos h];omega
   refine aw bd (aw (iD gU47).2.2.2.1 ?_)
   refine aC (Da hX hw47 (by omega)) ?_
   refine aw fF ?_
   refine dS nB gL47 rfl (by show 0+1+1<=5;decide) rfl fun m247 hn247 hg247 hk247=>?_
   have gL247:m247.get m41.n=.cells (CE (cI u.shape.length i) (mj u.shape) 0 (.slice none 0 0) (.slice none 0 0)) 105 none:=hg247
   have hx247:Ext mm m247:=⟨by omega,fun c hc=>by rw[hk247 c (by omega),hx47.get c hc]⟩
   have hxm247:=hx.trans hx247
   have gS247:=hxm247.cells gS26
   have gF247:m247.get mm.n=.cells [.int .i64 u.id,.int .i64 (cI u.shape.length i)] 107 none:=by rw[hk247 _ (by omega),gF47]
   refine aw cP (aw bR (aw (ldU m247 gS247) ?_))
   have hF247:=hF26.aD hxm247
   rw[hF247.sl.len eP,au]
   refine Lq (B:=m.n) hX hF247 gF247 (hxm247.cells gU26) (hw26.aD hxm247) gL247 h8 hl12 (by omega) (by omega) fun m117 lo118 tv hn117 hk117 hlo118 gL117 htv=>?_
   refine aw dn ?_
   have htl:(Bb (cd l) u (cI u.shape.length i)).length<=1000:=by
    unfold Bb
    rw[List.length_map]
    have:=List.length_filter_le (fun v:Un=>(decide (cI u.shape.length i= -1) && decide (v.back=u.front) ||decide (cI u.shape.length i= -2) && decide (v.front=u.back)) && cH u.shape v.shape) (cd l)
    rw[dZ]at this
    omega
   refine uP (B:=m.n) hS gL117 htv htl (by omega) (by omega) fun m191 b192 hb192 hn191 hk191 gL191 htv191=>?_
   have hx191:Ext mm m191:=⟨by have:=hx247.n;omega,fun c hc=>by rw[hk191 c (by omega),hk117 c (by omega) (by omega),hx247.get c hc]⟩
   have hxm191:=hx.trans hx191
   refine aw eV (aw (ldM m191 (hxm191.cells gS26)) ?_)
   rw[(hm26.aD hxm191).len kN,au]
   have gF191:m191.get mm.n=.cells [.int .i64 u.id,.int .i64 (cI u.shape.length i)] 107 none:=by rw[hk191 _ (by omega),hk117 _ (by omega) (by omega),gF247]
   refine sV (B:=m.n) (n2:=m26.n) (acc:=ls) (hm26.aD hxm191) gF191 gL191 htv191.sl (hout.aD hx191) (hlf.aD hx191) hM.len (by omega) (by omega) (by omega) (by omega) (by omega) fun out' m' lo' x hxl hw' hlf' hn' hk' hlo2=>?_
   refine hP29 (i+1) _ _ _ (by omega) ⟨ls++ [x],out',rfl,by omega,⟨by have:=hxm191.n;omega,fun c hc=>by rw[hk' c hc,hxm191.get c hc]⟩,hw',hlf',?_,hlo2⟩
   rw[List.map_append,hls,List.range_succ,List.map_append,List.map_singleton,List.map_singleton,hxl,Mf hin]
 ·have hi':i=u.shape.length+2:=by
   have:=of_decide_eq_false hge
   omega
  subst hi'
  have hne:ls≠ []:=by intro e;rw[e]at hlsl;simp at hlsl
  refine⟨.inl ?_,by omega,ls,out,rfl,(hxa.trans hx26).trans hx,hlf,hls⟩
  rcases hout with⟨_,e⟩ |⟨b,cs,rfl,_⟩
  ·exact absurd e hne
  ·simp[bs,bY,gg,bL]
end Go.Proofs.YtmdfgncoekfgdaaGreatDoor
namespace Go.Proofs.YtmdfgncoekfgdaaGreatDoor
open Go Go.D
variable {X:aF} {m:M}
theorem pI(hX:dF X){ts:List Int}{tv:Value}(ht:Sl m ts tv)(hl:ts.length<=1000)(k:Int):C X (.func 48) [tv,.int .i64 k] m m.n (.int .i64 (ts.count k:Nat)) m:=by
 refine Cl.flat (hX.no _ rfl) Qw rfl rfl ?_
 rw[F48];dsimp only[aN]
 refine Lp.lQ (γ:=Nat) (fun i=>ts.length-i) (fun i vs mm lo=>vs=[.int .i64 ((ts.take i).count k:Nat),.int .i64 i]/\i<=ts.length/\m=mm/\m.n<=lo) 0 ⟨rfl,Nat.zero_le _,rfl,Nat.le_refl _⟩ ?_
 rintro i vs _ lo ⟨rfl,hi,rfl,hlo⟩ P hP
 have hct:(ts.take i).count k<=ts.length:=by
  have h1:=List.count_le_length (a:=k) (l:=ts.take i)
  rw[List.length_take]at h1;omega
 rw[aA,aA,ht.len iS,au,aM,aa,aj]
 refine ak (fun hlt=>?_) (fun hge=>?_)
 ·have hlt:i < ts.length:=by
   have:=of_decide_eq_true hlt
   omega
  obtain⟨t,hti⟩:∃a,ts[i]?=some a:=⟨_,List.getElem?_eq_getElem hlt⟩
  have htk:ts.take (i+1)=ts.take i++ [t]:=by rw[List.take_add_one,hti];rfl
  obtain⟨q,e1,e2⟩:=ht.BC (k:=.i64) hti
  rw[e1,aa,e2,aa,bI,aa,aj]
  refine ak (fun h=>?_) (fun h=>?_)
  ·have h:=of_decide_eq_true h
   rw[aG,aa,wrap64 (by omega) (by omega),aG,aa,wrap64 (by omega) (by omega)]
   refine hP (i+1) _ _ _ (by omega) ⟨?_,by omega,rfl,hlo⟩
   rw[htk,List.count_append,h,List.count_singleton_self];rfl
  ·have h:=of_decide_eq_false h
   rw[aG,aa,wrap64 (by omega) (by omega)]
   refine hP (i+1) _ _ _ (by omega) ⟨?_,by omega,rfl,hlo⟩
   rw[htk,List.count_append,List.count_singleton,if_neg (by simpa using h),Nat.add_zero];rfl
 ·have hi':i=ts.length:=by
   have:=of_decide_eq_false hge
   omega
  subst hi'
  rw[List.take_length]
  exact⟨rfl,hlo⟩
theorem zp{ls:List LW}{lv:Value}(h:De m ls lv){i:Nat}{x:LW}(hi:ls[i]?=some x):∃b o,ai TE 72 lv (.int .i64 i)=some (.pointer (some ⟨b,o,none⟩))/\
  ag TE m 3 (.pointer (some ⟨b,o+0,none⟩))=some (.int .i64 x.l.side)/\ag TE m 3 (.pointer (some ⟨b,o+1,none⟩))=some (.int .i64 x.l.size)/\ag TE m 3 (.pointer (some ⟨b,o+2,none⟩))=some (.int .i64 x.l.depth)/\
  ag TE m 25 (.pointer (some ⟨b,o+3,none⟩))=some x.tv/\ag TE m 25 (.pointer (some ⟨b,o+4,none⟩))=some x.mv/\Sl m x.l.ts x.tv/\Sl m x.l.ms x.mv:=by
 obtain⟨b,o,bc,g,cs,e1,hb,hr,_,hj⟩:=h.sl.iF pY (k:=.i64) hi
 obtain⟨rfl, -, -⟩:=hr
 have hm:=List.mem_of_getElem? hi
 refine⟨b,o,e1,?_,?_,?_,?_,?_,h.ts x hm,h.ms x hm⟩
 ·rw[bA,az hb,hj 0 (by decide)];rfl
 ·rw[bA,az hb,hj 1 (by decide)];rfl
 ·rw[bA,az hb,hj 2 (by decide)];rfl
 ·rw[jU,az hb,hj 3 (by decide)];rfl
 ·rw[jU,az hb,hj 4 (by decide)];rfl
def gB(L:List Lf)(i:Nat):Lf:=(L[i]?).getD ⟨0,0,0,[],[]⟩
theorem th{ls:List LW}{L:List Lf}(h:ls.map (·.l)=L){i:Nat}(hi:i < L.length):∃x,ls[i]?=some x/\x.l=gB L i:=by
 have hl:i < ls.length:=by rw[<-h,List.length_map]at hi;exact hi
 refine⟨ls[i],List.getElem?_eq_getElem hl,?_⟩
 unfold gB
 rw[<-h,List.getElem?_map,List.getElem?_eq_getElem hl];rfl
theorem GJ(hX:dF X){Q:Value->M->Nat->Prop}{U lo0 B:Nat}{lv w:Value}{ls:List LW}{L:List Lf}{u:Un}{mm:M}(hlf:De mm ls lv)(hL:ls.map (·.l)=L)(hU:mm.get U=.cells (u.c w) 87 none)(hl:L.length<=1000)(hts:∀i,i < L.length->(gB L i).ts.length<=1000)(hlo:B<=lo0)(hB:B<=mm.n)
  (hQ:∀lo',B<=lo'->Q (.int .i64 (iE (fun i=>(gB L i).ts.count u.id) L.length:Nat)) mm lo'):
  Lp (fun P198 vs199 m200 lo201=>un vs199 fun v202 r203=>un r203 fun v204 r205=>(aO (aq TE m200 .len [72] [lv]) fun v206 _=>(ah (an TE .lss 3 v204 v206) fun v207=>(aX v207
(ah (ai TE 72 lv v204) fun v208=>(ah (ae TE 105 v208 3) fun v209=>(ah (ag TE m200 25 v209) fun v210=>(ah (ae TE 87 ((.pointer (some ⟨U,0,none⟩))) 0) fun v211=>(ah (ag TE m200 3 v211) fun v212=>(bB TE X (.func 48) [v210,v212] m200 fun v213 m214 b215=>(aO (aq TE m214 .max [3,3] [v202,v213]) fun v216 _=>(ah (an TE .add 3 v204 (.int .i64 1)) fun v217=>(P198 [v216,v217] m214 (min lo201 b215))))))))))
(Q v202 m200 lo201))))) [(.int .i64 0),(.int .i64 0)] mm lo0:=by
 have hlen:ls.length=L.length:=by rw[<-hL,List.length_map]
 have hmx:∀n,n<=L.length->iE (fun i=>(gB L i).ts.count u.id) n<=1000:=by
  intro n hn
  induction n with
  |zero=>simp[iE]
  |succ n ih=>
   have h1:=ih (by omega)
   have h2:=List.count_le_length (a:=u.id) (l:=(gB L n).ts)
   have h3:=hts n (by omega)
   unfold iE
   omega
 refine Lp.lQ (γ:=Nat) (fun i=>L.length-i) (fun i vs m' lo=>vs=[.int .i64 (iE (fun i=>(gB L i).ts.count u.id) i:Nat),.int .i64 i]/\i<=L.length/\mm=m'/\B<=lo) 0 ⟨rfl,Nat.zero_le _,rfl,hlo⟩ ?_
 rintro i vs _ lo ⟨rfl,hi,rfl,hlo'⟩ P hP
 rw[aA,aA,hlf.sl.len pY,au,aM,aa,aj,hlen]
 refine ak (fun hlt=>?_) (fun hge=>?_)
 ·have hlt:i < L.length:=by
   have:=of_decide_eq_true hlt
   omega
  obtain⟨x,hxi,hxl⟩:=th hL hlt
  obtain⟨b,o,e1, -, -, -,e5, -,s1,s2⟩:=zp hlf hxi
  rw[hxl]at s1
  refine aw e1 (aw dn (aw e5 (aw bt (aw (iD hU).1 ?_))))
  refine aC (pI hX s1 (hts i hlt) u.id) ?_
  rw[jT,au,aG,aa,wrap64 (by omega) (by omega)]
  refine hP (i+1) _ _ _ (by omega) ⟨?_,by omega,rfl,by omega⟩
  have:(max ((iE (fun i=>(gB L i).ts.count u.id) i:Nat):Int) ((gB L i).ts.count u.id:Nat))=((iE (fun i=>(gB L i).ts.count u.id) (i+1):Nat):Int):=by
   rw[iE];omega
  rw[this];rfl
 ·have hi':i=L.length:=by
   have:=of_decide_eq_false hge
   omega
  subst hi'
  exact hQ lo hlo'
end Go.Proofs.YtmdfgncoekfgdaaGreatDoor
namespace Go.Proofs.YtmdfgncoekfgdaaGreatDoor
open Go Go.D
variable {X:aF} {m:M}
theorem mB{f:Nat->Nat}{b:Nat}:∀{n:Nat},(∀i,i < n->f i<=b)->cj f n<=n*b
 |0,_=>by simp[cj]
 |n+1,h=>by
  have h1:=mB (f:=f) (b:=b) (n:=n) fun i hi=>h i (by omega)
  have h2:=h n (by omega)
  rw[cj,Nat.add_mul];omega
structure QX(L:List Lf)(u:Un):Prop where
 len:L.length=u.shape.length+2
 side:∀i,i < u.shape.length+2->(gB L i).side=cI u.shape.length i
 size:∀i,i < u.shape.length->1<=(gB L i).size
 Z1:∀i,i < u.shape.length->BQ ((gB L i).depth*(gB L u.shape.length).size)=BQ (mj u.shape*(u.front-u.back))
 ts:∀i,i < u.shape.length+2->(gB L i).ts.length<=1000
 ms:∀i,i < u.shape.length+2->(gB L i).ms.length<=1000
theorem sq{n i:Nat}:decide (0<=cI n i)=decide (i < n):=by
 unfold cI
 rw[decide_eq_decide]
 by_cases h:i < n
 ·rw[if_pos h];omega
 ·rw[if_neg h]
  by_cases h2:i=n
  ·rw[if_pos h2];omega
  ·rw[if_neg h2];omega
theorem QB{l:List Fc}{v:Value}(h:Sl m l v){i:Nat}{x:Fc}(hi:l[i]?=some x):∃b o,ai TE 102 v (.int .i64 i)=some (.pointer (some ⟨b,o,none⟩))/\ag TE m 3 (.pointer (some ⟨b,o+1,none⟩))=some (.int .i64 x.side):=by
 obtain⟨b,o,bc,g,cs,e1,hb,hr,_,hj⟩:=h.iF vT (k:=.i64) hi
 have hr:cs=x.c:=hr
 subst hr
 exact⟨b,o,e1,by rw[bA,az hb,hj 1 (by decide)];rfl⟩
set_option maxHeartbeats 1000000 in
set_option maxRecDepth 100000 in
theorem Hx(hX:dF X){Q:Value->Value->Value->Value->Value->M->Nat->Prop}{U V lo0 B:Nat}{lv fv wu wv:Value}{ls:List LW}{L:List Lf}{u v:Un}{mm:M}(hlf:De mm ls lv)(hL:ls.map (·.l)=L)(hP:QX L u)(hfv:Sl mm (lg u) fv)(hval:gX u=true)
  (hU:mm.get U=.cells (u.c wu) 87 none) (hwu:Sl mm u.shape wu) (hV:mm.get V=.cells (v.c wv) 87 none) (hlo:B<=lo0) (hB:B<=mm.n)
  (hQ:∀lo',B<=lo'->Q (.bool false) (.int .i64 (cj (fun i=>if i < u.shape.length then(gB L i).ts.length else 0) (u.shape.length+2):Nat)) (.int .i64 (cj (fun i=>(gB L i).ts.count v.id) (u.shape.length+2):Nat)) (.int .i64 (cj (fun i=>(gB L i).ms.length) (u.shape.length+2):Nat)) (.int .i64 (iE (fun i=>(gB L i).ts.count v.id) (u.shape.length+2):Nat)) mm lo')
  {R:List Value->M->Nat->Prop}:
  Lp (fun P88 vs89 m90 lo91=>un vs89 fun v92 r93=>un r93 fun v94 r95=>un r95 fun v96 r97=>un r97 fun v98 r99=>un r99 fun v100 r101=>un r101 fun v102 r103=>(aO (aq TE m90 .len [72] [lv]) fun v104 _=>(ah (an TE .lss 3 v102 v104) fun v105=>(aX v105
(jn (fun R106=>(ah (ai TE 72 lv v102) fun v110=>(ah (ae TE 105 v110 0) fun v111=>(ah (ag TE m90 3 v111) fun v112=>(ah (ai TE 102 fv v102) fun v113=>(ah (ae TE 107 v113 1) fun v114=>(ah (ag TE m90 3 v114) fun v115=>(ah (an TE .neq 3 v112 v115) fun v116=>(aX v116
(R106 [(.bool true)] m90 lo91)
(ah (ai TE 72 lv v102) fun v117=>(ah (ae TE 105 v117 0) fun v118=>(ah (ag TE m90 3 v118) fun v119=>(ah (an TE .geq 3 v119 (.int .i64 0)) fun v120=>(aX v120
(ah (ai TE 72 lv v102) fun v121=>(ah (ae TE 105 v121 1) fun v122=>(ah (ag TE m90 3 v122) fun v123=>(ah (an TE .lss 3 v123 (.int .i64 1)) fun v124=>(aX v124
(R106 [(.bool true)] m90 lo91)
(ah (ai TE 72 lv v102) fun v125=>(ah (ae TE 105 v125 2) fun v126=>(ah (ag TE m90 3 v126) fun v127=>(aO (aq TE m90 .len [72] [lv]) fun v128 _=>(ah (an TE .sub 3 v128 (.int .i64 2)) fun v129=>(ah (ai TE 72 lv v129) fun v130=>(ah (ae TE 105 v130 1) fun v131=>(ah (ag TE m90 3 v131) fun v132=>(ah (an TE .mul 3 v127 v132) fun v133=>(ah (ag TE m90 87 ((.pointer (some ⟨U,0,none⟩)))) fun v134=>(bB TE X (.func 47) [v134] m90 fun v135 m136 b137=>((M.n m90<=b137)/\(ah (an TE .neq 3 v133 v135) fun v138=>(R106 [v138] m136 (min lo91 b137))))))))))))))))))))
(R106 [(.bool false)] m90 lo91)))))))))))))))
(fun vs107 m108 lo109=>un vs107 fun v139 r140=>(aX v139
(R [(.bool false)] m108 lo109)
(ah (ai TE 72 lv v102) fun v141=>(ah (ae TE 105 v141 0) fun v142=>(ah (ag TE m108 3 v142) fun v143=>(ah (an TE .geq 3 v143 (.int .i64 0)) fun v144=>(aX v144
(ah (ai TE 72 lv v102) fun v145=>(ah (ae TE 105 v145 3) fun v146=>(ah (ag TE m108 25 v146) fun v147=>(aO (aq TE m108 .len [25] [v147]) fun v148 _=>(ah (an TE .add 3 v94 v148) fun v149=>(ah (ai TE 72 lv v102) fun v150=>(ah (ae TE 105 v150 3) fun v151=>(ah (ag TE m108 25 v151) fun v152=>(ah (ae TE 87 ((.pointer (some ⟨V,0,none⟩))) 0) fun v153=>(ah (ag TE m108 3 v153) fun v154=>(bB TE X (.func 48) [v152,v154] m108 fun v155 m156 b157=>(ah (an TE .add 3 v96 v155) fun v158=>(ah (ai TE 72 lv v102) fun v159=>(ah (ae TE 105 v159 4) fun v160=>(ah (ag TE m156 25 v160) fun v161=>(aO (aq TE m156 .len [25] [v161]) fun v162 _=>(ah (an TE .add 3 v98 v162) fun v163=>(ah (ai TE 72 lv v102) fun v164=>(ah (ae TE 105 v164 3) fun v165=>(ah (ag TE m156 25 v165) fun v166=>(ah (ae TE 87 ((.pointer (some ⟨V,0,none⟩))) 0) fun v167=>(ah (ag TE m156 3 v167) fun v168=>(bB TE X (.func 48) [v166,v168] m156 fun v169 m170 b171=>(aO (aq TE m170 .max [3,3] [v100,v169]) fun v172 _=>(ah (an TE .add 3 v102 (.int .i64 1)) fun v173=>(P88 [v92,v149,v158,v163,v172,v173] m170 (min (min lo109 b157) b171)))))))))))))))))))))))))))
(ah (ai TE 72 lv v102) fun v174=>(ah (ae TE 105 v174 3) fun v175=>(ah (ag TE m108 25 v175) fun v176=>(ah (ae TE 87 ((.pointer (some ⟨V,0,none⟩))) 0) fun v177=>(ah (ag TE m108 3 v177) fun v178=>(bB TE X (.func 48) [v176,v178] m108 fun v179 m180 b181=>(ah (an TE .add 3 v96 v179) fun v182=>(ah (ai TE 72 lv v102) fun v183=>(ah (ae TE 105 v183 4) fun v184=>(ah (ag TE m180 25 v184) fun v185=>(aO (aq TE m180 .len [25] [v185]) fun v186 _=>(ah (an TE .add 3 v98 v186) fun v187=>(ah (ai TE 72 lv v102) fun v188=>(ah (ae TE 105 v188 3) fun v189=>(ah (ag TE m180 25 v189) fun v190=>(ah (ae TE 87 ((.pointer (some ⟨V,0,none⟩))) 0) fun v191=>(ah (ag TE m180 3 v191) fun v192=>(bB TE X (.func 48) [v190,v192] m180 fun v193 m194 b195=>(aO (aq TE m194 .max [3,3] [v100,v193]) fun v196 _=>(ah (an TE .add 3 v102 (.int .i64 1)) fun v197=>(P88 [v92,v94,v182,v187,v196,v197] m194 (min (min lo109 b181) b195))))))))))))))))))))))))))))))
(Q v92 v94 v96 v98 v100 m90 lo91))))) [(.bool false),(.int .i64 0),(.int .i64 0),(.int .i64 0),(.int .i64 0),(.int .i64 0)] mm lo0:=by
 have h8:=e9 hval
 have hlen:ls.length=u.shape.length+2:=by rw[<-hP.len,<-hL,List.length_map]
 have bS:∀n,n<=u.shape.length+2->cj (fun i=>if i < u.shape.length then(gB L i).ts.length else 0) n<=n*1000:=fun n hn=>mB fun i hi=>by
  have:=hP.ts i (by omega)
  split <;>omega
 have bT:∀n,n<=u.shape.length+2->cj (fun i=>(gB L i).ts.count v.id) n<=n*1000:=fun n hn=>mB fun i hi=>by
  have:=hP.ts i (by omega)
  have h2:=List.count_le_length (a:=v.id) (l:=(gB L i).ts)
  omega
 have bM:∀n,n<=u.shape.length+2->cj (fun i=>(gB L i).ms.length) n<=n*1000:=fun n hn=>mB fun i hi=>hP.ms i (by omega)
 refine Lp.lQ (γ:=Nat) (fun i=>u.shape.length+2-i) (fun i vs m' lo=>vs=[.bool false,.int .i64 (cj (fun i=>if i < u.shape.length then(gB L i).ts.length else 0) i:Nat),.int .i64 (cj (fun i=>(gB L i).ts.count v.id) i:Nat),.int .i64 (cj (fun i=>(gB L i).ms.length) i:Nat),.int .i64 (iE (fun i=>(gB L i).ts.count v.id) i:Nat),.int .i64 i]/\i<=u.shape.length+2/\mm=m'/\B<=lo) 0 ⟨rfl,Nat.zero_le _,rfl,hlo⟩ ?_
 rintro i vs _ lo ⟨rfl,hi,rfl,hlo'⟩ P hPP
 rw[aA,aA,aA,aA,aA,aA,hlf.sl.len pY,au,aM,aa,aj,hlen]
 refine ak (fun hlt=>?_) (fun hge=>?_)
 ·have hlt:i < u.shape.length+2:=by
   have:=of_decide_eq_true hlt
   omega
  obtain⟨x,hxi,hxl⟩:=th hL (by rw[hP.len];exact hlt)
  obtain⟨b,o,e1,d0,d1,d2,d3,d4,s1,s2⟩:=zp hlf hxi
  rw[hxl]at s1 s2 d0 d1 d2
  rw[hP.side i hlt]at d0
  obtain⟨fb,fo,f1,f2⟩:=QB hfv (zJ hval hlt)
  have f2:ag TE mm 3 (.pointer (some ⟨fb,fo+1,none⟩))=some (.int .i64 (cI u.shape.length i)):=f2
  have ht:=hP.ts i hlt
  have hmm:=hP.ms i hlt
  have c1:=bS i hi
  have c2:=bT i hi
  have c3:=bM i hi
  have c5:=List.count_le_length (a:=v.id) (l:=(gB L i).ts)
  have F0:=iN (b:=b) (o:=o)
  have F1:=fF (b:=b) (o:=o)
  have F2:=lC (b:=b) (o:=o)
  have F3:=dn (b:=b) (o:=o)
  have F4:=iM (b:=b) (o:=o)
  have G1:=cT (b:=fb) (o:=fo)
  have V0:=bt (b:=V) (o:=0)
  have QJ:=pI hX s1 ht v.id
  refine cq (fun vs m2 eZ=>vs=[.bool false]/\mm=m2/\B<=eZ) (fun R hR=>?_) ?_
  ·refine aw e1 (aw F0 (aw d0 (aw f1 (aw G1 (aw f2 ?_)))))
   rw[cE,aa,aj,decide_eq_true rfl]
   show pB false _ _
   rw[aU]
   refine aw e1 (aw F0 (aw d0 ?_))
   rw[cR,aa,aj,sq]
   refine ak (fun h=>?_) (fun h=>hR _ _ _ ⟨rfl,rfl,hlo'⟩)
   have h:=of_decide_eq_true h
   refine aw e1 (aw F1 (aw d1 ?_))
   rw[aM,aa,aj,decide_eq_false (by have:=hP.size i h;omega),aU]
   refine aw e1 (aw F2 (aw d2 ?_))
   rw[au,dc,aa,wrap64 (by omega) (by omega),show(((u.shape.length+2:Nat):Int)-2)=((u.shape.length:Nat):Int) by omega]
   obtain⟨x',hxi',hxl'⟩:=th hL (i:=u.shape.length) (by rw[hP.len];omega)
   obtain⟨b',o',e1', -,d1', -, -, -, -, -⟩:=zp hlf hxi'
   rw[hxl']at d1'
   refine aw e1' (aw fF (aw d1' ?_))
   rw[dt,aa,bP hU,aa]
   refine aC (Ak hX hwu (by omega)) ⟨Nat.le_refl _,?_⟩
   rw[hval,if_pos rfl,cE,aa]
   refine hR _ _ _ ⟨?_,rfl,by omega⟩
   have hv:IntKind.i64.wrap ((gB L i).depth*(gB L u.shape.length).size)=BQ (mj u.shape*(u.front-u.back)):=hP.Z1 i h
   rw[decide_eq_true hv];rfl
  rintro _ _ eZ ⟨rfl,rfl,hlo2⟩
  rw[aA,aj,aU]
  refine aw e1 (aw F0 (aw d0 ?_))
  rw[cR,aa,aj,sq]
  have mx:(max ((iE (fun i=>(gB L i).ts.count v.id) i:Nat):Int) ((gB L i).ts.count v.id:Nat))=((iE (fun i=>(gB L i).ts.count v.id) (i+1):Nat):Int):=by
   rw[iE];omega
  have tail:∀(s:Int) (lo3:Nat),s=((cj (fun i=>if i < u.shape.length then(gB L i).ts.length else 0) (i+1):Nat):Int)->B<=lo3->P [.bool false,.int .i64 s,.int .i64 (((cj (fun i=>(gB L i).ts.count v.id) i:Nat):Int)+((gB L i).ts.count v.id:Nat)),.int .i64 (((cj (fun i=>(gB L i).ms.length) i:Nat):Int)+((gB L i).ms.length:Nat)),.int .i64 (max ((iE (fun i=>(gB L i).ts.count v.id) i:Nat):Int) ((gB L i).ts.count v.id:Nat)),.int .i64 ((i:Int)+1)] mm lo3:=by
   intro s lo3 hs hl3
   refine hPP (i+1) _ _ _ (by omega) ⟨?_,by omega,rfl,hl3⟩
   rw[hs,mx]
   rfl
  refine ak (fun h=>?_) (fun h=>?_)
  ·have h:=of_decide_eq_true h
   refine aw e1 (aw F3 (aw d3 ?_))
   rw[s1.len iS,au,aG,aa,wrap64 (by omega) (by omega)]
   refine aw e1 (aw F3 (aw d3 (aw V0 (aw (iD hV).1 (aC QJ ?_)))))
   rw[aG,aa,wrap64 (by omega) (by omega)]
   refine aw e1 (aw F4 (aw d4 ?_))
   rw[s2.len iS,au,aG,aa,wrap64 (by omega) (by omega)]
   refine aw e1 (aw F3 (aw d3 (aw V0 (aw (iD hV).1 (aC QJ ?_)))))
   rw[jT,au,aG,aa,wrap64 (by omega) (by omega)]
   refine tail _ _ ?_ (by omega)
   rw[cj,if_pos h];rfl
  ·have h:=of_decide_eq_false h
   refine aw e1 (aw F3 (aw d3 (aw V0 (aw (iD hV).1 (aC QJ ?_)))))
   rw[aG,aa,wrap64 (by omega) (by omega)]
   refine aw e1 (aw F4 (aw d4 ?_))
   rw[s2.len iS,au,aG,aa,wrap64 (by omega) (by omega)]
   refine aw e1 (aw F3 (aw d3 (aw V0 (aw (iD hV).1 (aC QJ ?_)))))
   rw[jT,au,aG,aa,wrap64 (by omega) (by omega)]
   refine tail _ _ ?_ (by omega)
   rw[cj,if_neg h];rfl
 ·have hi':i=u.shape.length+2:=by
   have:=of_decide_eq_false hge
   omega
  subst hi'
  exact hQ lo hlo'
end Go.Proofs.YtmdfgncoekfgdaaGreatDoor
namespace Go.Proofs.YtmdfgncoekfgdaaGreatDoor
open Go Go.D
variable {X:aF} {m:M}
def lE(L:List Lf)(n:Nat)(k:Int)(i:Nat):Nat:=if i < n then(gB L i).ts.count k else 0
set_option maxRecDepth 100000 in
theorem AU(hX:dF X){Q:Value->M->Nat->Prop}{lo0 B:Nat}{lv:Value}{ls:List LW}{L:List Lf}{u:Un}{k:Int}{mm:M}(hlf:De mm ls lv)(hL:ls.map (·.l)=L)(hP:QX L u)(hval:gX u=true)(hlo:B<=lo0)(hB:B<=mm.n)
  (hQ:∀lo',B<=lo'->Q (.int .i64 (cj (lE L u.shape.length k) (u.shape.length+2):Nat)) mm lo'):
  Lp (fun P267 vs268 m269 lo270=>un vs268 fun v271 r272=>un r272 fun v273 r274=>(aO (aq TE m269 .len [72] [lv]) fun v275 _=>(ah (an TE .lss 3 v273 v275) fun v276=>(aX v276
(ah (ai TE 72 lv v273) fun v277=>(ah (ae TE 105 v277 0) fun v278=>(ah (ag TE m269 3 v278) fun v279=>(ah (an TE .geq 3 v279 (.int .i64 0)) fun v280=>(aX v280
(ah (ai TE 72 lv v273) fun v281=>(ah (ae TE 105 v281 3) fun v282=>(ah (ag TE m269 25 v282) fun v283=>(bB TE X (.func 48) [v283,(.int .i64 k)] m269 fun v284 m285 b286=>(ah (an TE .add 3 v271 v284) fun v287=>(ah (an TE .add 3 v273 (.int .i64 1)) fun v288=>(P267 [v287,v288] m285 (min lo270 b286))))))))
(ah (an TE .add 3 v273 (.int .i64 1)) fun v289=>(P267 [v271,v289] m269 lo270)))))))
(Q v271 m269 lo270))))) [(.int .i64 0),(.int .i64 0)] mm lo0:=by
 have h8:=e9 hval
 have hlen:ls.length=u.shape.length+2:=by rw[<-hP.len,<-hL,List.length_map]
 have bT:∀n,n<=u.shape.length+2->cj (lE L u.shape.length k) n<=n*1000:=fun n hn=>mB fun i hi=>by
  have:=hP.ts i (by omega)
  have h2:=List.count_le_length (a:=k) (l:=(gB L i).ts)
  unfold lE
  split <;>omega
 refine Lp.lQ (γ:=Nat) (fun i=>u.shape.length+2-i) (fun i vs m' lo=>vs=[.int .i64 (cj (lE L u.shape.length k) i:Nat),.int .i64 i]/\i<=u.shape.length+2/\mm=m'/\B<=lo) 0 ⟨rfl,Nat.zero_le _,rfl,hlo⟩ ?_
 rintro i vs _ lo ⟨rfl,hi,rfl,hlo'⟩ P hPP
 rw[aA,aA,hlf.sl.len pY,au,aM,aa,aj,hlen]
 refine ak (fun hlt=>?_) (fun hge=>?_)
 ·have hlt:i < u.shape.length+2:=by
   have:=of_decide_eq_true hlt
   omega
  obtain⟨x,hxi,hxl⟩:=th hL (by rw[hP.len];exact hlt)
  obtain⟨b,o,e1,d0, -, -,d3, -,s1, -⟩:=zp hlf hxi
  rw[hxl]at s1 d0
  rw[hP.side i hlt]at d0
  have ht:=hP.ts i hlt
  have c1:=bT i hi
  have c5:=List.count_le_length (a:=k) (l:=(gB L i).ts)
  refine aw e1 (aw iN (aw d0 ?_))
  rw[cR,aa,aj,sq]
  refine ak (fun h=>?_) (fun h=>?_)
  ·have h:=of_decide_eq_true h
   refine aw e1 (aw dn (aw d3 (aC (pI hX s1 ht k) ?_)))
   rw[aG,aa,wrap64 (by omega) (by omega),aG,aa,wrap64 (by omega) (by omega)]
   refine hPP (i+1) _ _ _ (by omega) ⟨?_,by omega,rfl,by omega⟩
   have e:cj (lE L u.shape.length k) (i+1)=cj (lE L u.shape.length k) i+(gB L i).ts.count k:=by
    show cj (lE L u.shape.length k) i+lE L u.shape.length k i=_
    unfold lE;rw[if_pos h]
   rw[e];rfl
  ·have h:=of_decide_eq_false h
   rw[aG,aa,wrap64 (by omega) (by omega)]
   refine hPP (i+1) _ _ _ (by omega) ⟨?_,by omega,rfl,by omega⟩
   have e:cj (lE L u.shape.length k) (i+1)=cj (lE L u.shape.length k) i:=by
    show cj (lE L u.shape.length k) i+lE L u.shape.length k i=_
    rw[show lE L u.shape.length k i=0 by unfold lE;rw[if_neg h]]
    rfl
   rw[e];rfl
 ·have hi':i=u.shape.length+2:=by
   have:=of_decide_eq_false hge
   omega
  subst hi'
  exact hQ lo hlo'
theorem mc{α:Type}{p:α->Bool}{l:List α}{y:α}:(l++ [y]).countP p=l.countP p+(if p y=true then 1 else 0):=by
 rw[List.countP_append,List.countP_singleton]
set_option maxHeartbeats 1000000 in
set_option maxRecDepth 100000 in
theorem Hr(hX:dF X){Q:Value->Value->Value->M->Nat->Prop}{R:List Value->M->Nat->Prop}{U V lo0 B:Nat}{lv cv v92 wu wv:Value}{ls:List LW}{L:List Lf}{cts:List Ct}{u v:Un}{mm:M}(hlf:De mm ls lv)(hL:ls.map (·.l)=L)(hP:QX L u)(hval:gX u=true)(hcs:Sl mm cts cv)(hlc:cts.length<=1000)
  (hU:mm.get U=.cells (u.c wu) 87 none) (hV:mm.get V=.cells (v.c wv) 87 none) (hid: -1000<=u.id/\u.id<=1000) (hca:∀c∈cts,(-1000<=c.a/\c.a<=1000)/\ -1000<=c.b/\c.b<=1000)
  (hone:∀c∈cts,fx u.id c=true->cj (lE L u.shape.length (c.a+c.b-u.id)) (u.shape.length+2)=1) (hlo:B<=lo0) (hB:B<=mm.n)
  (hQ:∀m' lo',Ext mm m'->B<=lo'->Q (.int .i64 (cts.countP (fx u.id):Nat)) (.int .i64 (cts.countP (fA u.id v.id):Nat)) v92 m' lo'):
  Lp (fun P223 vs224 m225 lo226=>un vs224 fun v227 r228=>un r228 fun v229 r230=>un r230 fun v231 r232=>un r232 fun v233 r234=>(aO (aq TE m225 .len [110] [cv]) fun v235 _=>(ah (an TE .lss 3 v233 v235) fun v236=>(aX v236
(ah (ai TE 110 cv v233) fun v237=>(ah (ag TE m225 115 v237) fun v238=>(bW (M.push m225 (.cells [(.int .i64 0),(.int .i64 0),(.int .i64 0),(.int .i64 0),(.int .i64 0),(.int .i64 0),(.int .i64 0),(.int .i64 0)] 115 none)) fun m239=>(aO (aB TE m239 115 (ptrTo (M.n m225)) v238) fun m240 b241=>(jn (fun R242=>(ah (ae TE 115 (ptrTo (M.n m225)) 0) fun v246=>(ah (ag TE m240 3 v246) fun v247=>(ah (ae TE 87 ((.pointer (some ⟨U,0,none⟩))) 0) fun v248=>(ah (ag TE m240 3 v248) fun v249=>(ah (an TE .eql 3 v247 v249) fun v250=>(aX v250
(R242 [(.bool true)] m240 (min lo226 b241))
(ah (ae TE 115 (ptrTo (M.n m225)) 1) fun v251=>(ah (ag TE m240 3 v251) fun v252=>(ah (ae TE 87 ((.pointer (some ⟨U,0,none⟩))) 0) fun v253=>(ah (ag TE m240 3 v253) fun v254=>(ah (an TE .eql 3 v252 v254) fun v255=>(R242 [v255] m240 (min lo226 b241))))))))))))))
(fun vs243 m244 lo245=>un vs243 fun v256 r257=>(aX v256
(ah (an TE .add 3 v227 (.int .i64 1)) fun v258=>(ah (ae TE 115 (ptrTo (M.n m225)) 0) fun v259=>(ah (ag TE m244 3 v259) fun v260=>(ah (ae TE 115 (ptrTo (M.n m225)) 1) fun v261=>(ah (ag TE m244 3 v261) fun v262=>(ah (an TE .add 3 v260 v262) fun v263=>(ah (ae TE 87 ((.pointer (some ⟨U,0,none⟩))) 0) fun v264=>(ah (ag TE m244 3 v264) fun v265=>(ah (an TE .sub 3 v263 v265) fun v266=>(Lp (fun P267 vs268 m269 lo270=>un vs268 fun v271 r272=>un r272 fun v273 r274=>(aO (aq TE m269 .len [72] [lv]) fun v275 _=>(ah (an TE .lss 3 v273 v275) fun v276=>(aX v276
(ah (ai TE 72 lv v273) fun v277=>(ah (ae TE 105 v277 0) fun v278=>(ah (ag TE m269 3 v278) fun v279=>(ah (an TE .geq 3 v279 (.int .i64 0)) fun v280=>(aX v280
(ah (ai TE 72 lv v273) fun v281=>(ah (ae TE 105 v281 3) fun v282=>(ah (ag TE m269 25 v282) fun v283=>(bB TE X (.func 48) [v283,v266] m269 fun v284 m285 b286=>(ah (an TE .add 3 v271 v284) fun v287=>(ah (an TE .add 3 v273 (.int .i64 1)) fun v288=>(P267 [v287,v288] m285 (min lo270 b286))))))))
(ah (an TE .add 3 v273 (.int .i64 1)) fun v289=>(P267 [v271,v289] m269 lo270)))))))
(ah (ae TE 87 ((.pointer (some ⟨V,0,none⟩))) 0) fun v290=>(ah (ag TE m269 3 v290) fun v291=>(ah (an TE .eql 3 v266 v291) fun v292=>(aX v292
(ah (an TE .add 3 v229 (.int .i64 1)) fun v293=>(ah (an TE .neq 3 v271 (.int .i64 1)) fun v294=>(aX v294
(R [(.bool false)] m269 lo270)
(ah (an TE .add 3 v233 (.int .i64 1)) fun v295=>(P223 [v258,v293,v231,v295] m269 lo270)))))
(ah (an TE .neq 3 v271 (.int .i64 1)) fun v296=>(aX v296
(R [(.bool false)] m269 lo270)
(ah (an TE .add 3 v233 (.int .i64 1)) fun v297=>(P223 [v258,v229,v231,v297] m269 lo270)))))))))))) [(.int .i64 0),(.int .i64 0)] m244 lo245))))))))))
(ah (an TE .add 3 v233 (.int .i64 1)) fun v298=>(P223 [v227,v229,v231,v298] m244 lo245)))))))))
(Q v227 v229 v231 m225 lo226))))) [(.int .i64 0),(.int .i64 0),v92,(.int .i64 0)] mm lo0:=by
 refine Lp.lQ (γ:=Nat) (fun i=>cts.length-i) (fun i vs m' lo=>vs=[.int .i64 ((cts.take i).countP (fx u.id):Nat),.int .i64 ((cts.take i).countP (fA u.id v.id):Nat),v92,.int .i64 i]/\i<=cts.length/\Ext mm m'/\B<=lo) 0 ⟨rfl,Nat.zero_le _,.refl,hlo⟩ ?_
 rintro i vs m' lo ⟨rfl,hi,hx,hlo'⟩ P hPP
 have hxn:=hx.n
 have b1:=List.countP_le_length (p:=fx u.id) (l:=cts.take i)
 have b2:=List.countP_le_length (p:=fA u.id v.id) (l:=cts.take i)
 rw[List.length_take]at b1 b2
 rw[aA,aA,aA,aA,(hcs.aD hx).len Av,au,aM,aa,aj]
 refine ak (fun hlt=>?_) (fun hge=>?_)
 ·have hlt:i < cts.length:=by
   have:=of_decide_eq_true hlt
   omega
  obtain⟨y,hyi⟩:∃a,cts[i]?=some a:=⟨_,List.getElem?_eq_getElem hlt⟩
  have hym:=List.mem_of_getElem? hyi
  obtain⟨⟨ya1,ya2⟩,O5,Rb⟩:=hca y hym
  have htk:cts.take (i+1)=cts.take i++ [y]:=by rw[List.take_add_one,hyi];rfl
  have k1:(cts.take (i+1)).countP (fx u.id)=(cts.take i).countP (fx u.id)+(if fx u.id y=true then 1 else 0):=by rw[htk,mc]
  have k2:(cts.take (i+1)).countP (fA u.id v.id)=(cts.take i).countP (fA u.id v.id)+(if fA u.id v.id y=true then 1 else 0):=by rw[htk,mc]
  obtain⟨q,e1,e2⟩:=(hcs.aD hx).Mq (k:=.i64) hyi
  rw[e1,aa,e2,aa]
  refine ar fun m239 hn239 hg239 hk239=>?_
  unfold ptrTo
  refine av se hg239 rfl rfl rfl fun m240 hn240 hg240 hk240=>?_
  have hx240:Ext m' m240:=⟨by omega,fun b hb=>by rw[hk240 b (by omega),hk239 b hb]⟩
  have gy:m240.get m'.n=.cells y.c' 115 none:=hg240
  obtain⟨f1,f2, -, -⟩:=Y8 gy
  have hxx:=hx.trans hx240
  have gU:=hxx.cells hU
  have gV:=hxx.cells hV
  have U0:=bt (b:=U) (o:=0)
  have C0:=iL (b:=m'.n) (o:=0)
  have C1:=iK (b:=m'.n) (o:=0)
  refine cq (fun vs m2 eZ=>vs=[.bool (fx u.id y)]/\m240=m2/\B<=eZ) (fun R hR=>?_) ?_
  ·refine aw C0 (aw f1 (aw U0 (aw (iD gU).1 ?_)))
   rw[bI,aa,aj]
   refine ak (fun h=>?_) (fun h=>?_)
   ·exact hR _ _ _ ⟨by unfold fx;rw[h];rfl,rfl,by omega⟩
   ·refine aw C1 (aw f2 (aw U0 (aw (iD gU).1 ?_)))
    rw[bI,aa]
    exact hR _ _ _ ⟨by unfold fx;rw[h,Bool.false_or],rfl,by omega⟩
  rintro _ _ eZ ⟨rfl,rfl,hlo2⟩
  rw[aA,aj]
  refine ak (fun h=>?_) (fun h=>?_)
  ·rw[if_pos h]at k1
   refine aw (v:=.int .i64 (((cts.take i).countP (fx u.id):Nat)+1)) (by rw[aG,wrap64 (by omega) (by omega)]) ?_
   refine aw C0 (aw f1 (aw C1 (aw f2 (aw (v:=.int .i64 (y.a+y.b)) (by rw[aG,wrap64 (by omega) (by omega)]) (aw U0 (aw (iD gU).1 (aw (v:=.int .i64 (y.a+y.b-u.id)) (by rw[dc,wrap64 (by omega) (by omega)]) ?_)))))))
   refine AU (B:=B) (k:=y.a+y.b-u.id) hX (hlf.aD hxx) hL hP hval hlo2 (by have:=hxx.n;omega) fun lo3 hlo3=>?_
   rw[hone y hym h]
   refine aw bt (aw (iD gV).1 ?_)
   rw[bI,aa,aj]
   refine ak (fun hq=>?_) (fun hq=>?_)
   ·have ho:fA u.id v.id y=true:=by unfold fA;rw[h,hq];rfl
    rw[if_pos ho]at k2
    refine aw (v:=.int .i64 (((cts.take i).countP (fA u.id v.id):Nat)+1)) (by rw[aG,wrap64 (by omega) (by omega)]) ?_
    rw[cE,aa,aj]
    show pB false _ _
    rw[aU]
    refine aw (v:=.int .i64 ((i:Int)+1)) (by rw[aG,wrap64 (by omega) (by omega)]) ?_
    refine hPP (i+1) _ _ _ (by omega) ⟨?_,by omega,hxx,hlo3⟩
    rw[k1,k2];rfl
   ·have ho:¬fA u.id v.id y=true:=by unfold fA;rw[h,hq];decide
    rw[if_neg ho]at k2
    rw[cE,aa,aj]
    show pB false _ _
    rw[aU]
    refine aw (v:=.int .i64 ((i:Int)+1)) (by rw[aG,wrap64 (by omega) (by omega)]) ?_
    refine hPP (i+1) _ _ _ (by omega) ⟨?_,by omega,hxx,hlo3⟩
    rw[k1,k2];rfl
  ·have ho:¬fA u.id v.id y=true:=by unfold fA;rw[h];simp
   rw[if_neg (by rw[h];decide)]at k1
   rw[if_neg ho]at k2
   refine aw (v:=.int .i64 ((i:Int)+1)) (by rw[aG,wrap64 (by omega) (by omega)]) ?_
   refine hPP (i+1) _ _ _ (by omega) ⟨?_,by omega,hxx,hlo2⟩
   rw[k1,k2];rfl
 ·have hi':i=cts.length:=by
   have:=of_decide_eq_false hge
   omega
  subst hi'
  rw[List.take_length]
  exact hQ m' lo hx hlo'
end Go.Proofs.YtmdfgncoekfgdaaGreatDoor
namespace Go.Proofs.YtmdfgncoekfgdaaGreatDoor
open Go Go.D
variable {X:aF} {m:M}
def AN(L:List Lf)(x:Mk)(i:Nat):Nat:=if 0 < (gB L i).ms.count x.id/\(gB L i).side=x.side then 1 else 0
theorem PU{l:List Mk}{v:Value}(h:Sl m l v){i:Nat}{x:Mk}(hi:l[i]?=some x):∃b o,ai TE 58 v (.int .i64 i)=some (.pointer (some ⟨b,o,none⟩))/\ag TE m 3 (.pointer (some ⟨b,o+0,none⟩))=some (.int .i64 x.id)/\ag TE m 3 (.pointer (some ⟨b,o+1,none⟩))=some (.int .i64 x.un)/\ag TE m 3 (.pointer (some ⟨b,o+2,none⟩))=some (.int .i64 x.side):=by
 obtain⟨b,o,bc,g,cs,e1,hb,hr,_,hj⟩:=h.iF kN (k:=.i64) hi
 have hr:cs=x.c:=hr
 subst hr
 refine⟨b,o,e1,?_,?_,?_⟩
 ·rw[bA,az hb,hj 0 (by decide)];rfl
 ·rw[bA,az hb,hj 1 (by decide)];rfl
 ·rw[bA,az hb,hj 2 (by decide)];rfl
set_option maxHeartbeats 1000000 in
set_option maxRecDepth 100000 in
theorem En(hX:dF X){Q:Value->M->Nat->Prop}{R:List Value->M->Nat->Prop}{U S lo0 B:Nat}{lv r vm v92 wu:Value}{ls:List LW}{L:List Lf}{ms:List Mk}{u:Un}{mm:M}(hlf:De mm ls lv)(hL:ls.map (·.l)=L)(hP:QX L u)(hval:gX u=true)(hms:Sl mm ms vm)(h20:ms.length<=20)
  (hU:mm.get U=.cells (u.c wu) 87 none) (hS:mm.get S=.cells [r,vm] 60 none)
  (hone:∀x∈ms,x.un=u.id->cj (AN L x) (u.shape.length+2)=1) (hlo:B<=lo0) (hB:B<=mm.n)
  (hQ:∀lo',B<=lo'->Q (.int .i64 (ms.countP (fun x=>decide (x.un=u.id)):Nat)) mm lo'):
  Lp (fun P299 vs300 m301 lo302=>un vs300 fun v303 r304=>un r304 fun v305 r306=>un r306 fun v307 r308=>(ah (ae TE 60 ((.pointer (some ⟨S,0,none⟩))) 1) fun v309=>(ah (ag TE m301 58 v309) fun v310=>(aO (aq TE m301 .len [58] [v310]) fun v311 _=>(ah (an TE .lss 3 v307 v311) fun v312=>(aX v312
(ah (ae TE 60 ((.pointer (some ⟨S,0,none⟩))) 1) fun v313=>(ah (ag TE m301 58 v313) fun v314=>(ah (ai TE 58 v314 v307) fun v315=>(ah (ae TE 89 v315 1) fun v316=>(ah (ag TE m301 3 v316) fun v317=>(ah (ae TE 87 ((.pointer (some ⟨U,0,none⟩))) 0) fun v318=>(ah (ag TE m301 3 v318) fun v319=>(ah (an TE .eql 3 v317 v319) fun v320=>(aX v320
(ah (an TE .add 3 v303 (.int .i64 1)) fun v321=>(Lp (fun P322 vs323 m324 lo325=>un vs323 fun v326 r327=>un r327 fun v328 r329=>(aO (aq TE m324 .len [72] [lv]) fun v330 _=>(ah (an TE .lss 3 v328 v330) fun v331=>(aX v331
(jn (fun R332=>(ah (ai TE 72 lv v328) fun v336=>(ah (ae TE 105 v336 4) fun v337=>(ah (ag TE m324 25 v337) fun v338=>(ah (ae TE 60 ((.pointer (some ⟨S,0,none⟩))) 1) fun v339=>(ah (ag TE m324 58 v339) fun v340=>(ah (ai TE 58 v340 v307) fun v341=>(ah (ae TE 89 v341 0) fun v342=>(ah (ag TE m324 3 v342) fun v343=>(bB TE X (.func 48) [v338,v343] m324 fun v344 m345 b346=>(ah (an TE .gtr 3 v344 (.int .i64 0)) fun v347=>(aX v347
(ah (ai TE 72 lv v328) fun v348=>(ah (ae TE 105 v348 0) fun v349=>(ah (ag TE m345 3 v349) fun v350=>(ah (ae TE 60 ((.pointer (some ⟨S,0,none⟩))) 1) fun v351=>(ah (ag TE m345 58 v351) fun v352=>(ah (ai TE 58 v352 v307) fun v353=>(ah (ae TE 89 v353 2) fun v354=>(ah (ag TE m345 3 v354) fun v355=>(ah (an TE .eql 3 v350 v355) fun v356=>(R332 [v356] m345 (min lo325 b346)))))))))))
(R332 [(.bool false)] m345 (min lo325 b346))))))))))))))
(fun vs333 m334 lo335=>un vs333 fun v357 r358=>(aX v357
(ah (an TE .add 3 v326 (.int .i64 1)) fun v359=>(ah (an TE .add 3 v328 (.int .i64 1)) fun v360=>(P322 [v359,v360] m334 lo335)))
(ah (an TE .add 3 v328 (.int .i64 1)) fun v361=>(P322 [v326,v361] m334 lo335)))))
(ah (an TE .neq 3 v326 (.int .i64 1)) fun v362=>(aX v362
(R [(.bool false)] m324 lo325)
(ah (an TE .add 3 v307 (.int .i64 1)) fun v363=>(P299 [v321,v305,v363] m324 lo325)))))))) [(.int .i64 0),(.int .i64 0)] m301 lo302))
(ah (an TE .add 3 v307 (.int .i64 1)) fun v364=>(P299 [v303,v305,v364] m301 lo302)))))))))))
(Q v303 m301 lo302))))))) [(.int .i64 0),v92,(.int .i64 0)] mm lo0:=by
 have h8:=e9 hval
 have hlen:ls.length=u.shape.length+2:=by rw[<-hP.len,<-hL,List.length_map]
 have ldM:ag TE mm 58 (.pointer (some ⟨S,0+1,none⟩))=some vm:=by rw[rQ,az hS];rfl
 have S1:=eV (b:=S) (o:=0)
 refine Lp.lQ (γ:=Nat) (fun i=>ms.length-i) (fun i vs m' lo=>vs=[.int .i64 ((ms.take i).countP (fun x=>decide (x.un=u.id)):Nat),v92,.int .i64 i]/\i<=ms.length/\mm=m'/\B<=lo) 0 ⟨rfl,Nat.zero_le _,rfl,hlo⟩ ?_
 rintro i vs _ lo ⟨rfl,hi,rfl,hlo'⟩ P hPP
 have b1:=List.countP_le_length (p:=fun x:Mk=>decide (x.un=u.id)) (l:=ms.take i)
 rw[List.length_take]at b1
 rw[aA,aA,aA]
 refine aw S1 (aw ldM ?_)
 rw[hms.len kN,au,aM,aa,aj]
 refine ak (fun hlt=>?_) (fun hge=>?_)
 ·have hlt:i < ms.length:=by
   have:=of_decide_eq_true hlt
   omega
  obtain⟨y,hyi⟩:∃a,ms[i]?=some a:=⟨_,List.getElem?_eq_getElem hlt⟩
  have hym:=List.mem_of_getElem? hyi
  have htk:ms.take (i+1)=ms.take i++ [y]:=by rw[List.take_add_one,hyi];rfl
  have k1:(ms.take (i+1)).countP (fun x=>decide (x.un=u.id))=(ms.take i).countP (fun x=>decide (x.un=u.id))+(if decide (y.un=u.id)=true then 1 else 0):=by rw[htk,mc]
  obtain⟨b,o,e1,l0,l1,l2⟩:=PU hms hyi
  have M0:=dg (b:=b) (o:=o)
  have M1:=gj (b:=b) (o:=o)
  have M2:=gh (b:=b) (o:=o)
  refine aw S1 (aw ldM (aw e1 (aw M1 (aw l1 (aw bt (aw (iD hU).1 ?_))))))
  rw[bI,aa,aj]
  refine ak (fun h=>?_) (fun h=>?_)
  ·rw[if_pos h]at k1
   have hu:=of_decide_eq_true h
   refine aw (v:=.int .i64 (((ms.take i).countP (fun x=>decide (x.un=u.id)):Nat)+1)) (by rw[aG,wrap64 (by omega) (by omega)]) ?_
   have bK:∀n,n<=u.shape.length+2->cj (AN L y) n<=n*1:=fun n hn=>mB fun j hj=>by unfold AN;split <;>omega
   refine Lp.lQ (γ:=Nat) (fun j=>u.shape.length+2-j) (fun j vs m' lo=>vs=[.int .i64 (cj (AN L y) j:Nat),.int .i64 j]/\j<=u.shape.length+2/\mm=m'/\B<=lo) 0 ⟨rfl,Nat.zero_le _,rfl,hlo'⟩ ?_
   rintro j vs _ eZ ⟨rfl,hj,rfl,hlo2⟩ P2 hP2
   have cK:=bK j hj
   rw[aA,aA,hlf.sl.len pY,au,aM,aa,aj,hlen]
   refine ak (fun hlt2=>?_) (fun hge2=>?_)
   ·have hlt2:j < u.shape.length+2:=by
     have:=of_decide_eq_true hlt2
     omega
    obtain⟨x,hxi,hxl⟩:=th hL (by rw[hP.len];exact hlt2)
    obtain⟨b',o',e1',d0, -, -, -,d4, -,s2⟩:=zp hlf hxi
    rw[hxl]at s2 d0
    have hmj:=hP.ms j hlt2
    refine cq (fun vs m2 eZ=>vs=[.bool (decide (0 < (gB L j).ms.count y.id/\(gB L j).side=y.side))]/\mm=m2/\B<=eZ) (fun R hR=>?_) ?_
    ·refine aw e1' (aw iM (aw d4 (aw S1 (aw ldM (aw e1 (aw M0 (aw l0 (aC (pI hX s2 hmj y.id) ?_))))))))
     rw[cQ,aa,aj]
     refine ak (fun hc=>?_) (fun hc=>?_)
     ·have hc:0 < (gB L j).ms.count y.id:=by
       have:=of_decide_eq_true hc
       omega
      refine aw e1' (aw iN (aw d0 (aw S1 (aw ldM (aw e1 (aw M2 (aw l2 ?_)))))))
      rw[bI,aa]
      refine hR _ _ _ ⟨?_,rfl,by omega⟩
      congr 2
      rw[decide_eq_decide]
      exact⟨fun q=>⟨hc,q⟩,fun q=>q.2⟩
     ·have hc:¬0 < (gB L j).ms.count y.id:=by
       have:=of_decide_eq_false hc
       omega
      refine hR _ _ _ ⟨?_,rfl,by omega⟩
      rw[decide_eq_false fun q=>hc q.1]
    rintro _ _ lo3 ⟨rfl,rfl,hlo3⟩
    rw[aA,aj]
    have sK:cj (AN L y) (j+1)=cj (AN L y) j+AN L y j:=rfl
    refine ak (fun hc=>?_) (fun hc=>?_)
    ·have hc:=of_decide_eq_true hc
     have e:AN L y j=1:=by unfold AN;rw[if_pos hc]
     rw[e]at sK
     refine aw (v:=.int .i64 ((cj (AN L y) j:Nat)+1)) (by rw[aG,wrap64 (by omega) (by omega)]) (aw (v:=.int .i64 ((j:Int)+1)) (by rw[aG,wrap64 (by omega) (by omega)]) ?_)
     refine hP2 (j+1) _ _ _ (by omega) ⟨?_,by omega,rfl,hlo3⟩
     rw[sK];rfl
    ·have hc:=of_decide_eq_false hc
     have e:AN L y j=0:=by unfold AN;rw[if_neg hc]
     rw[e]at sK
     refine aw (v:=.int .i64 ((j:Int)+1)) (by rw[aG,wrap64 (by omega) (by omega)]) ?_
     refine hP2 (j+1) _ _ _ (by omega) ⟨?_,by omega,rfl,hlo3⟩
     rw[sK];rfl
   ·have hj':j=u.shape.length+2:=by
     have:=of_decide_eq_false hge2
     omega
    subst hj'
    rw[hone y hym hu,cE,aa,aj]
    show pB false _ _
    rw[aU]
    refine aw (v:=.int .i64 ((i:Int)+1)) (by rw[aG,wrap64 (by omega) (by omega)]) ?_
    refine hPP (i+1) _ _ _ (by omega) ⟨?_,by omega,rfl,hlo2⟩
    rw[k1];rfl
  ·rw[if_neg (by rw[h];decide)]at k1
   refine aw (v:=.int .i64 ((i:Int)+1)) (by rw[aG,wrap64 (by omega) (by omega)]) ?_
   refine hPP (i+1) _ _ _ (by omega) ⟨?_,by omega,rfl,hlo'⟩
   rw[k1];rfl
 ·have hi':i=ms.length:=by
   have:=of_decide_eq_false hge
   omega
  subst hi'
  rw[List.take_length]
  exact hQ lo hlo'
end Go.Proofs.YtmdfgncoekfgdaaGreatDoor
namespace Go.Proofs.YtmdfgncoekfgdaaGreatDoor
open Go Go.D
variable {us:List Un} {cts:List Ct} {ms:List Mk} {u v:Un}
theorem xV{f:Nat->Nat}{n:Nat}:cj (fun i=>if i < n then f i else 0) (n+2)=cj f n:=by
 show cj (fun i=>if i < n then f i else 0) n+(if n < n then f n else 0)+(if n+1 < n then f (n+1)else 0)=_
 rw[if_neg (by omega),if_neg (by omega)]
 show cj (fun i=>if i < n then f i else 0) n=_
 exact dL fun i hi=>if_pos hi
theorem sU{f g:Nat->Nat}:∀{n:Nat},(∀i,i < n->f i=g i)->iE f n=iE g n
 |0,_=>rfl
 |n+1,h=>by rw[iE,iE,sU fun i hi=>h i (by omega),h n (by omega)]
theorem sY:(kW us cts ms u).length=u.shape.length+2:=by unfold kW;rw[List.length_map,List.length_range]
theorem gO{i:Nat}(hi:i < u.shape.length+2):gB (kW us cts ms u) i=pn us cts ms u i:=by
 unfold gB kW
 rw[List.getElem?_map,List.getElem?_range hi];rfl
theorem HS(i:Nat):(pn us cts ms u i).ts=kx (pw us cts u i):=by
 unfold pn pw
 by_cases h:i < u.shape.length
 ·rw[if_pos h,if_pos h]
 ·rw[if_neg h,if_neg h]
  by_cases h2:i=u.shape.length
  ·rw[if_pos h2,if_pos h2,Fh]
  ·rw[if_neg h2,if_neg h2,Jb]
theorem HT(i:Nat):(pn us cts ms u i).side=cI u.shape.length i:=by
 unfold pn cI
 by_cases h:i < u.shape.length
 ·rw[if_pos h,if_pos h]
 ·rw[if_neg h,if_neg h]
  by_cases h2:i=u.shape.length
  ·rw[if_pos h2,if_pos h2]
  ·rw[if_neg h2,if_neg h2]
theorem HU(i:Nat):(pn us cts ms u i).ms=jz ms u.id (cI u.shape.length i):=by
 unfold pn cI
 by_cases h:i < u.shape.length
 ·rw[if_pos h,if_pos h]
 ·rw[if_neg h,if_neg h]
  by_cases h2:i=u.shape.length
  ·rw[if_pos h2,if_pos h2]
  ·rw[if_neg h2,if_neg h2]
theorem Bq(i:Nat)(k:Int):(pn us cts ms u i).ts.count k=me us cts u k i:=by
 rw[HS]
 unfold me
 exact(fN _).count_eq k
theorem sq_pos{p q:Pl}(h:p≠q):1<=MU p q:=by
 have hd:=Ma h
 unfold MU
 have a1:0<=(q.x-p.x)*(q.x-p.x):=by
  rcases Int.le_total 0 (q.x-p.x)with h |h
  ·exact Int.mul_nonneg h h
  ·exact Int.mul_nonneg_of_nonpos_of_nonpos h h
 have a2:0<=(q.y-p.y)*(q.y-p.y):=by
  rcases Int.le_total 0 (q.y-p.y)with h |h
  ·exact Int.mul_nonneg h h
  ·exact Int.mul_nonneg_of_nonpos_of_nonpos h h
 have b:(q.x-p.x)*(q.x-p.x)≠0\/(q.y-p.y)*(q.y-p.y)≠0:=by
  rcases hd with h |h
  ·exact .inl fun e=>h (by rcases Int.mul_eq_zero.1 e with h |h <;>exact h)
  ·exact .inr fun e=>h (by rcases Int.mul_eq_zero.1 e with h |h <;>exact h)
 omega
theorem Me(hP:cS us)(hu:u∈us)(hc:cts.length<=1000)(hm:ms.length<=20):QX (kW us cts ms u) u:=by
 have hval:=hP.val u hu
 have hv:=mu hval
 refine⟨sY,fun i hi=>by rw[gO hi,HT],fun i hi=>?_,fun i hi=>?_,fun i hi=>?_,fun i hi=>?_⟩
 ·rw[gO (by omega),wE hi]
  exact sq_pos (jt hv hi)
 ·rw[gO (by omega),wE hi,gO (i:=u.shape.length) (by omega),Mf (Nat.lt_irrefl _)]
  show BQ ((u.front-u.back)*mj u.shape)=_
  rw[Int.mul_comm]
 ·rw[gO hi,HS,(fN _).length_eq]
  have hl:=hP.len
  unfold pw
  split
  ·unfold fU
   rw[List.length_map]
   have:=List.length_filter_le (fun c=>fx u.id c && nR u.shape i c) cts
   omega
  ·split
   ·unfold qt
    rw[List.length_map]
    have:=List.length_filter_le (fun w:Un=>decide (w.back=u.front) && cH u.shape w.shape) us
    omega
   ·unfold vw
    rw[List.length_map]
    have:=List.length_filter_le (fun w:Un=>decide (w.front=u.back) && cH u.shape w.shape) us
    omega
 ·rw[gO hi,HU]
  unfold jz
  rw[List.length_map]
  have:=List.length_filter_le (fun y:Mk=>decide (y.un=u.id) && decide (y.side=cI u.shape.length i)) ms
  omega
theorem HJ(hP:cS us)(hu:u∈us)(hc:cts.Perm (cf us)):cj (fun i=>if i < u.shape.length then(gB (kW us cts ms u) i).ts.length else 0) (u.shape.length+2)=cts.countP (fx u.id):=by
 rw[xV,<-DV hP hu hc]
 refine dL fun i hi=>?_
 rw[gO (by omega),HS,(fN _).length_eq]
 unfold pw
 rw[if_pos hi]
theorem HH(k:Int):cj (fun i=>(gB (kW us cts ms u) i).ts.count k) (u.shape.length+2)=cj (me us cts u k) (u.shape.length+2):=
 dL fun i hi=>by rw[gO hi,Bq]
theorem HK(k:Int):iE (fun i=>(gB (kW us cts ms u) i).ts.count k) (u.shape.length+2)=iE (me us cts u k) (u.shape.length+2):=
 sU fun i hi=>by rw[gO hi,Bq]
theorem HM(hP:cS us)(hu:u∈us)(hc:cts.Perm (cf us)){c:Ct}(hm:c∈cts)(ho:fx u.id c=true):cj (lE (kW us cts ms u) u.shape.length (c.a+c.b-u.id)) (u.shape.length+2)=1:=by
 have e:cj (lE (kW us cts ms u) u.shape.length (c.a+c.b-u.id)) (u.shape.length+2)=cj (fun i=>if i < u.shape.length then(gB (kW us cts ms u) i).ts.count (c.a+c.b-u.id)else 0) (u.shape.length+2):=rfl
 rw[e,xV,<-EB hP hu hc hm ho]
 refine dL fun i hi=>?_
 rw[gO (by omega),Bq]
 unfold me pw
 rw[if_pos hi]
theorem yE{n:Nat}{s:Int}(h1: -2<=s)(h2:s < n):∃i,i < n+2/\cI n i=s/\∀j,j < n+2->cI n j=s->j=i:=by
 by_cases h:0<=s
 ·refine⟨s.toNat,by omega,?_,fun j hj e=>?_⟩
  ·unfold cI;rw[if_pos (by omega)];omega
  ·unfold cI at e
   split at e
   ·omega
   ·split at e <;>omega
 ·by_cases h3:s= -1
  ·refine⟨n,by omega,?_,fun j hj e=>?_⟩
   ·unfold cI;rw[if_neg (by omega),if_pos rfl];omega
   ·unfold cI at e
    split at e
    ·omega
    ·split at e <;>omega
  ·refine⟨n+1,by omega,?_,fun j hj e=>?_⟩
   ·unfold cI;rw[if_neg (by omega),if_neg (by omega)];omega
   ·unfold cI at e
    split at e
    ·omega
    ·split at e <;>omega
theorem Cs(hP:cS us)(hu:u∈us)(hM:oC us ms){x:Mk}(hx:x∈ms)(hid:x.un=u.id): -2<=x.side/\x.side < u.shape.length:=by
 have h1:=hM.ok x hx
 unfold HE jL at h1
 simp only[Bool.and_eq_true,decide_eq_true_eq]at h1
 obtain⟨w,hw,e,hs⟩:=hM.un x hx
 have:=uniq hP hw hu (by rw[e,hid])
 rw[this]at hs
 exact⟨by omega,hs⟩
theorem HL(hP:cS us)(hu:u∈us)(hM:oC us ms):cj (fun i=>(gB (kW us cts ms u) i).ms.length) (u.shape.length+2)=ms.countP fun x=>decide (x.un=u.id):=by
 rw[<-BW (p:=fun x:Mk=>decide (x.un=u.id)) (q:=fun i x=>decide (x.side=cI u.shape.length i)) (n:=u.shape.length+2) (l:=ms) fun x hx hp=>?_]
 ·refine dL fun i hi=>?_
  rw[gO hi,HU]
  unfold jz
  rw[List.length_map,List.countP_eq_length_filter]
 ·have hid:x.un=u.id:=of_decide_eq_true hp
  obtain⟨h1,h2⟩:=Cs hP hu hM hx hid
  obtain⟨i,hi,e,hun⟩:=yE h1 h2
  exact⟨i,hi,decide_eq_true e.symm,fun j hj q=>hun j hj (of_decide_eq_true q).symm⟩
theorem KJ(hP:cS us)(hu:u∈us)(hM:oC us ms){x:Mk}(hx:x∈ms)(hid:x.un=u.id):cj (AN (kW us cts ms u) x) (u.shape.length+2)=1:=by
 obtain⟨h1,h2⟩:=Cs hP hu hM hx hid
 obtain⟨i,hi,e,hun⟩:=yE h1 h2
 refine sg hi ?_ fun j hj hne=>?_
 ·unfold AN
  rw[gO hi,HT,HU,e]
  refine if_pos ⟨?_,rfl⟩
  refine List.count_pos_iff.2 ?_
  unfold jz
  exact List.mem_map.2 ⟨x,List.mem_filter.2 ⟨hx,by simp[hid]⟩,rfl⟩
 ·unfold AN
  rw[gO hj,HT]
  exact if_neg fun q=>hne (hun j hj q.2)
end Go.Proofs.YtmdfgncoekfgdaaGreatDoor
namespace Go.Proofs.YtmdfgncoekfgdaaGreatDoor
open Go Go.D
variable {X:aF} {m:M}
set_option maxHeartbeats 1000000 in
set_option maxRecDepth 100000 in
theorem wS{sc:List Ct->List Ct}(hX:dF X)(hS:xF X sc)(hSane:∀m1:M,2 < m1.n->C X (.func 8) [] m1 m1.n (.bool true) m1)(hm2:2 < m.n){xs:List I6}{ks:List I4}{vb vk va:Value}(hv:Af m xs vb)(hok:∀x∈xs,x.ok)(hlen:xs.length < 9223372036854775808)(hk:Af m ks vk)(hokk:∀x∈ks,x.ok)(hlenk:ks.length < 9223372036854775808)
  {wh ot:Int} (r1:nb wh) (r2:nb ot):C X (.func 7) [.agg #[vb,vk,va],.int .i64 wh,.int .i64 ot] m m.n (.bool true) m:=by
 refine Cl.flat (hX.no _ rfl) Sr rfl rfl ?_
 rw[F7];dsimp only[aN]
 refine ar fun m1 hn1 hg1 hk1=>?_
 have hx1:Ext m m1:=⟨by omega,hk1⟩
 have g1:m1.get m.n=.cells [vb,vk,va] 57 none:=hg1
 refine aC (hSane m1 (by omega)) ?_
 rw[bD,aa,aj]
 show pB false _ _
 rw[aU]
 unfold ptrTo
 refine aw (v:=.agg #[vb,vk,va]) (by rw[KL,aH (o:=0) (n:=3) g1 (by show 0+3<=3;decide)];rfl) ?_
 obtain⟨l,r,ms,vm,m8,hc8,hx8,hF,hP,hms,hM⟩:=Ep (m:=m1) hX (hv.aD hx1) hok hlen (hk.aD hx1) hokk hlenk
 refine aC hc8 ?_
 have hn8:=hx8.n
 have or:one r=true:=hF.sl.one
 have ov:one vm=true:=hms.one
 refine ar fun m10 hn10 hg10 hk10=>?_
 refine av GH hg10 rfl rfl (by show(one r && (one vm && true))=true;rw[or,ov];rfl) fun m11 hn11 hg11 hk11=>?_
 have gS:m11.get m8.n=.cells [r,vm] 60 none:=hg11
 have hx11:Ext m8 m11:=⟨by omega,fun c hc=>by rw[hk11 c (by omega),hk10 c hc]⟩
 have hF11:=hF.aD hx11
 have hms11:=hms.aD hx11
 have hl12:l.length<=12:=by have:=hP.len;rw[dZ]at this;exact this
 have S0:=cP (b:=m8.n) (o:=0)
 have F0:=bR (b:=m8.n) (o:=0+0)
 have ldU:∀mm:M,mm.get m8.n=.cells [r,vm] 60 none->ag TE mm 29 (.pointer (some ⟨m8.n,0+0+0,none⟩))=some r:=fun mm hh=>by rw[fD,az hh];rfl
 have ldS:∀mm:M,mm.get m8.n=.cells [r,vm] 60 none->ag TE mm 60 (.pointer (some ⟨m8.n,0,none⟩))=some (.agg #[r,vm]):=fun mm hh=>by rw[mN,aH (n:=2) hh (by show 0+2<=2;decide)];rfl
 have ldF:∀mm:M,mm.get m8.n=.cells [r,vm] 60 none->ag TE mm 31 (.pointer (some ⟨m8.n,0+0,none⟩))=some (.agg #[r]):=fun mm hh=>by rw[eo,aH (n:=1) hh (by show 0+0+1<=2;decide)];rfl
 refine aw S0 (aw F0 (aw (ldU m11 gS) ?_))
 rw[hF11.sl.len eP,au,bI,aa,aj]
 refine ak (fun h0=>?_) (fun h0=>?_)
 ·have h0:l.length=0:=by
   have:=of_decide_eq_true h0
   omega
  have hl0:l=[]:=List.length_eq_zero_iff.1 h0
  refine aw (ldS m11 gS) ?_
  refine aC (xR (id:=0) hX hF11 hP hms11 hM (by rw[hl0];rfl)) ?_
  rw[aR,aR]
  simp only[List.getElem?_cons_zero,List.getElem?_cons_succ,aa]
  rw[bI,aa]
  exact⟨rfl,by omega⟩
 have h0:0 < l.length:=by
  have:=of_decide_eq_false h0
  omega
 have pk1:=ko (c:=wh) (show(0:Int)< (l.length:Int) by omega)
 have pk2:=ko (c:=ot) (show(0:Int)< (l.length:Int) by omega)
 obtain⟨j1,hj1⟩:∃j:Nat,dR wh (l.length:Int)=(j:Int):=⟨(dR wh (l.length:Int)).toNat,by omega⟩
 obtain⟨j2,hj2⟩:∃j:Nat,dR ot (l.length:Int)=(j:Int):=⟨(dR ot (l.length:Int)).toNat,by omega⟩
 obtain⟨x,hx⟩:∃a,l[j1]?=some a:=⟨_,List.getElem?_eq_getElem (by omega)⟩
 obtain⟨y,hy⟩:∃a,l[j2]?=some a:=⟨_,List.getElem?_eq_getElem (by omega)⟩
 have hxm:=List.mem_of_getElem? hx
 have hym:=List.mem_of_getElem? hy
 have hxu:x.u∈cd l:=by unfold cd;exact List.mem_map_of_mem hxm
 have hyu:y.u∈cd l:=by unfold cd;exact List.mem_map_of_mem hym
 have hfx:=lU hP (km hx)
 have hfy:=lU hP (km hy)
 have vx:=hP.val _ hxu
 have vy:=hP.val _ hyu
 refine aw S0 (aw F0 (aw (ldU m11 gS) (aw S0 (aw F0 (aw (ldU m11 gS) ?_)))))
 rw[hF11.sl.len eP,au]
 refine aC (sH hX r1 (show(0:Int)< (l.length:Int) by omega)) ⟨Nat.le_refl _,?_⟩
 rw[hj1]
 obtain⟨q,q1,q2,ox⟩:=hF11.sl.iQ (k:=.i64) hx
 refine aw q1 (aw q2 ?_)
 refine ar fun m37 hn37 hg37 hk37=>?_
 refine av eH hg37 rfl rfl (Un.eE ox) fun um hn38 hg38 hk38=>?_
 have hx38:Ext m11 um:=⟨by omega,fun c hc=>by rw[hk38 c (by omega),hk37 c hc]⟩
 have gU38:um.get m11.n=.cells (x.u.c x.w) 87 none:=hg38
 have gS38:=hx38.cells gS
 have hF38:=hF11.aD hx38
 refine aw S0 (aw F0 (aw (ldU um gS38) (aw S0 (aw F0 (aw (ldU um gS38) ?_)))))
 rw[hF38.sl.len eP,au]
 refine aC (sH hX r2 (show(0:Int)< (l.length:Int) by omega)) ⟨Nat.le_refl _,?_⟩
 rw[hj2]
 obtain⟨q',q1',q2',oy⟩:=hF38.sl.iQ (k:=.i64) hy
 refine aw q1' (aw q2' ?_)
 refine ar fun m52 hn52 hg52 hk52=>?_
 refine av eH hg52 rfl rfl (Un.eE oy) fun m53 hn53 hg53 hk53=>?_
 have hx53:Ext um m53:=⟨by omega,fun c hc=>by rw[hk53 c (by omega),hk52 c hc]⟩
 have gV53:m53.get um.n=.cells (y.u.c y.w) 87 none:=hg53
 have gU53:=hx53.cells gU38
 have gS53:=hx53.cells gS38
 have hF53:=hF38.aD hx53
 have hms53:=(hms11.aD hx38).aD hx53
 have U0:=bt (b:=m11.n) (o:=0)
 have V0:=bt (b:=um.n) (o:=0)
 refine aw (ldS m53 gS53) (aw U0 (aw (iD gU53).1 ?_))
 obtain⟨ls,lv,m59,hc59,hx59,hlf,hls⟩:=uM (m:=m53) hX hS hF53 hP hms53 hM hfx
 refine aC hc59 ?_
 rw[aR,aR]
 refine aw (v:=lv) rfl (aw (v:=.int .i64 0) rfl ?_)
 have hF59:=hF53.aD hx59
 have hms59:=hms53.aD hx59
 refine aw (ldS m59 (hx59.cells gS53)) (aw V0 (aw (iD (hx59.cells gV53)).1 ?_))
 obtain⟨ls2,lv2,m67,hc67,hx67,hlf2,hls2⟩:=uM (m:=m59) hX hS hF59 hP hms59 hM hfy
 refine aC hc67 ?_
 rw[aR,aR]
 refine aw (v:=lv2) rfl (aw (v:=.int .i64 0) rfl ?_)
 have hx5367:=hx59.trans hx67
 have gU67:=hx5367.cells gU53
 refine aw (bP gU67) ?_
 have hF67:=hF59.aD hx67
 obtain⟨m73,fv,hc73,hx73,hfv⟩:=zI (m:=m67) hX (hF67.sh x hxm) (by have:=e9 vx;omega)
 refine aC hc73 ?_
 have h8:=e9 vx
 have h38:=cC (mu vx)
 have hn59:=hx59.n
 have hn67:=hx67.n
 have hn73:=hx73.n
 have hx53':=hx5367.trans hx73
 have hlf73:=(hlf.aD hx67).aD hx73
 have hlf273:=hlf2.aD hx73
 have gS73:=hx53'.cells gS53
 have gU73:=hx53'.cells gU53
 have gV73:=hx53'.cells gV53
 have hF73:=hF67.aD hx73
 have hms73:=(hms59.aD hx67).aD hx73
 have hperm:=hS.perm (cf (cd l))
 have hcl:(sc (cf (cd l))).length<=1000:=by
  rw[hperm.length_eq]
  have h1:=qC (cd l)
  rw[dZ]at h1
  have:l.length*l.length<=12*12:=Nat.mul_le_mul hl12 hl12
  omega
 have LP:=Me (ms:=ms) hP hxu hcl hM.len
 have LP2:=Me (ms:=ms) hP hyu hcl hM.len
 have hlen1:ls.length=x.u.shape.length+2:=by rw[<-sY (us:=cd l) (cts:=sc (cf (cd l))) (ms:=ms) (u:=x.u),<-hls,List.length_map]
 refine cq (fun vs m' lo=>vs=[.bool false]/\m73=m'/\m.n<=lo) (fun R hR=>?_) ?_
 ·rw[cE,aa,aj]
  show pB false _ _
  rw[aU,aa,aj]
  show pB false _ _
  rw[aU,hlf73.sl.len pY,au,hfv.sl.len vT,au,vn vx,hlen1,cE,aa,aj,decide_eq_true rfl]
  show pB false _ _
  rw[aU,au,aM,aa]
  exact hR _ _ _ ⟨by rw[decide_eq_false (by omega)],rfl,by omega⟩
 rintro _ _ lo ⟨rfl,rfl,hlo⟩
 rw[aA,aj,aU]
 refine Hx (B:=m.n) (u:=x.u) (v:=y.u) (L:=kW (cd l) (sc (cf (cd l))) ms x.u) hX hlf73 hls LP hfv.sl vx gU73 (hF73.sh x hxm) gV73 hlo (by omega) (fun eZ hlo2=>?_) (R:=fun vs m' lo=>bs vs=.bool true/\m.n<=lo)
 refine GJ (B:=m.n) (u:=x.u) (L:=kW (cd l) (sc (cf (cd l))) ms y.u) hX hlf273 hls2 gU73 (by rw[sY];have:=e9 vy;omega) (fun i hi=>LP2.ts i (by rw[sY]at hi;exact hi)) hlo2 (by omega) fun lo3 hlo3=>?_
 refine aw S0 (aw (ldF m73 gS73) ?_)
 obtain⟨m221,cv,hc221,hx221,hcv⟩:=pE (m:=m73) hX hS hF73 (jk hP)
 refine aC hc221 ?_
 have hn221:=hx221.n
 have hid:=rZ vx
 refine Hr (R:=fun vs m' lo=>bs vs=.bool true/\m.n<=lo) (B:=m.n) (u:=x.u) (v:=y.u) (L:=kW (cd l) (sc (cf (cd l))) ms x.u) hX (hlf73.aD hx221) hls LP vx hcv.sl hcl (hx221.cells gU73) (hx221.cells gV73) (by omega) (fun c hc=>(CQ hP (hperm.mem_iff.1 hc)).2) (fun c hc ho=>HM hP hxu hperm hc ho) (by omega) (by omega) fun m301 lo4 hx301 hlo4=>?_
 have hx':=hx221.trans hx301
 have hn301:=hx'.n
 refine En (B:=m.n) (u:=x.u) (L:=kW (cd l) (sc (cf (cd l))) ms x.u) hX (hlf73.aD hx') hls LP vx (hms73.aD hx') hM.len (hx'.cells gU73) (hx'.cells gS73) (fun z hz e=>KJ hP hxu hM hz e) hlo4 (by omega) (fun lo5 hlo5=>?_) (R:=fun vs m' lo=>bs vs=.bool true/\m.n<=lo)
 have e1:=HJ (ms:=ms) hP hxu hperm
 have e2:=HH (us:=cd l) (cts:=sc (cf (cd l))) (ms:=ms) (u:=x.u) y.u.id
 have e3:=HL (cts:=sc (cf (cd l))) hP hxu hM
 have e4:=HK (us:=cd l) (cts:=sc (cf (cd l))) (ms:=ms) (u:=x.u) y.u.id
 have e5:=HK (us:=cd l) (cts:=sc (cf (cd l))) (ms:=ms) (u:=y.u) x.u.id
 have e6:=KE hP hxu hyu hperm
 have e7:=LC hP hxu hyu hperm
 have e8:=nC hP hxu hyu hperm
 refine cq (fun vs m' lo=>vs=[.bool true]/\m.n<=lo) (fun R hR=>?_) ?_
 ·rw[bI,aa,aj,decide_eq_true (by rw[e1]),bZ,bI,aa,aj,decide_eq_true (by rw[e3]),bZ,bI,aa,aj,decide_eq_true (by rw[sY,e4,e5,e6]),bZ,cR,aa,aj,decide_eq_true (by rw[e2];omega),bZ,dk,aa]
  exact hR _ _ _ ⟨by rw[decide_eq_true (by rw[e2];omega)],hlo5⟩
 rintro _ m' lo6 ⟨rfl,hlo6⟩
 rw[aA]
 exact⟨rfl,hlo6⟩
end Go.Proofs.YtmdfgncoekfgdaaGreatDoor
