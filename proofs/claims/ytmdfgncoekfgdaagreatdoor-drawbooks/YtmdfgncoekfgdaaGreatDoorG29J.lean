/- putlogref17.Made. -/
import Derived.Test.YtmdfgncoekfgdaaGreatDoorG15J
import Derived.Test.YtmdfgncoekfgdaaGreatDoorG7J
import Derived.Test.YtmdfgncoekfgdaaGreatDoorG8J
namespace Go.Proofs.YtmdfgncoekfgdaaGreatDoor
open Go Go.D
variable {X:aF} {m:M}
theorem JC{a b c d:Int}{e:Bool}:aW TE 89 [(0,.int .i64 a),(1,.int .i64 b),(2,.int .i64 c),(3,.int .i64 d),(4,.bool e)]=some (Mk.mk a b c d e).v:=by kernel_rfl
theorem Lr(mm:M):eF mm [] (.slice none 0 0):=⟨.nil,fun x hx=>(by cases hx),fun x hx=>(by cases hx),.inl rfl⟩
theorem Jc{l:List UW}{n c:Nat}(h:eF m l (.slice none n c)):l=[]/\n=0/\c=0:=by
 rcases h.sl with⟨h1,h2⟩ |⟨b,o,c,bc,g,h2,_⟩
 ·cases h1;exact⟨h2,rfl,rfl⟩
 ·cases h2
set_option maxRecDepth 100000 in
theorem Ep(hX:dF X){xs:List I6}{ks:List I4}{vb vk va:Value}(hv:Af m xs vb)(hok:∀x∈xs,x.ok)(hlen:xs.length < 9223372036854775808)(hk:Af m ks vk)(hokk:∀x∈ks,x.ok)(hlenk:ks.length < 9223372036854775808):
  ∃l r ms vm m',C X (.func 34) [.agg #[vb,vk,va]] m m.n (.agg #[r,vm]) m'/\Ext m m'/\eF m' l r/\cS (cd l)/\Sl m' ms vm/\oC (cd l) ms:=by
 have key:∃rv m' b,C X (.func 34) [.agg #[vb,vk,va]] m b rv m'/\b=m.n/\Ext m m'/\∃l r ms vm,rv=.agg #[r,vm]/\eF m' l r/\cS (cd l)/\Sl m' ms vm/\oC (cd l) ms:=by
  refine Cl.gen (R:=fun rv m' b=>b=m.n/\Ext m m'/\∃l r ms vm,rv=.agg #[r,vm]/\eF m' l r/\cS (cd l)/\Sl m' ms vm/\oC (cd l) ms) (hX.no _ rfl) Qz rfl ?_
  rw[F34];dsimp only[aN]
  refine ar fun m1 hn1 hg1 hk1=>?_
  refine ar fun m2 hn2 hg2 hk2=>?_
  have hx2:Ext m m2:=⟨by omega,fun c hc=>by rw[hk2 c (by omega),hk1 c hc]⟩
  have g1:m2.get m.n=.cells [vb,vk,va] 57 none:=by rw[hk2 _ (by omega)];exact hg1
  unfold ptrTo
  have ldB:∀mm:M,mm.get m.n=.cells [vb,vk,va] 57 none->ag TE mm 22 (.pointer (some ⟨m.n,0+0,none⟩))=some vb:=fun mm hh=>by rw[KN,az hh];rfl
  have ldK:∀mm:M,mm.get m.n=.cells [vb,vk,va] 57 none->ag TE mm 55 (.pointer (some ⟨m.n,0+1,none⟩))=some vk:=fun mm hh=>by rw[KM,az hh];rfl
  rw[tH,aa,ldB m2 g1,aa]
  obtain⟨l,r,m6,hc6,hx6,hF,hP⟩:=Er (m:=m2) hX (hv.aD hx2) hok hlen
  refine aC hc6 ?_
  have hn6:=hx6.n
  have hl12:l.length<=12:=by have:=hP.len;rwa[dZ]at this
  have or:one r=true:=hF.sl.one
  have cr:=hF.sl.cells
  rw[show aW TE 60 [(0,.agg #[r])]=some (.agg #[r,.slice none 0 0]) by rw[Bw rfl];rfl,aa]
  refine ar fun m9 hn9 hg9 hk9=>?_
  refine av GH hg9 rfl rfl (by show(one r && true)=true;rw[or];rfl) fun m10 hn10 hg10 hk10=>?_
  have hg10:m10.get m6.n=.cells [r,.slice none 0 0] 60 none:=hg10
  have hx10:Ext m6 m10:=⟨by omega,fun c hc=>by rw[hk10 c (by omega),hk9 c hc]⟩
  have hxa:Ext m2 m10:=hx6.trans hx10
  have g1':m10.get m.n=.cells [vb,vk,va] 57 none:=hxa.cells g1
  have g2':m10.get m1.n=.cells [.slice none 0 0,.slice none 0 0] 60 none:=hxa.cells hg2
  have mks0:oC (cd l) []:=⟨by simp,.nil,fun x hx=>(by cases hx),fun x hx=>(by cases hx)⟩
  refine Lp.intro (γ:=Nat) (fun i=>8-i) (fun i vs mm lo=>∃ms vm,vs=[.int .i64 i]/\i<=8/\m10.n<=mm.n/\(∀c,c < m10.n->c≠m6.n->mm.get c=m10.get c)/\m.n<=lo/\mm.get m6.n=.cells [r,vm] 60 none/\Sl mm ms vm/\oC (cd l) ms/\ms.length<=i/\(l=[]->ms=[]/\vm=.slice none 0 0)) 0
   ⟨[],_,rfl,by omega,Nat.le_refl _,fun _ _ _=>rfl,by omega,hg10,Sl.nil,mks0,Nat.zero_le _,fun _=>⟨rfl,rfl⟩⟩ ?_
  rintro i vs mm lo ⟨ms,vm,rfl,hi,hnm,hkm,hlo,gS,hms,hM,hml,hnil⟩
  have gN:mm.get m.n=.cells [vb,vk,va] 57 none:=by rw[hkm _ (by omega) (by omega),g1']
  have hFm:eF mm l r:=hF.bw fun c cs t g hb _=>by
   have:=M.aI hb
   rw[hkm c (by omega) (by omega),hx10.get c this,hb]
  have hkm':Af mm ks vk:=(hk.aD hx2).aD ⟨by omega,fun c hc=>by rw[hkm c (by omega) (by omega),hxa.get c hc]⟩
  have ldU:∀(m':M) (w:Value),m'.get m6.n=.cells [r,w] 60 none->ag TE m' 29 (.pointer (some ⟨m6.n,0+0+0,none⟩))=some r:=fun m' w hh=>by rw[fD,az hh];rfl
  rw[aA]
  refine cq (fun vs m' lo'=>vs=[.bool (decide (i < ks.length) && decide (i < 8) && decide (0 < l.length))]/\mm=m'/\lo=lo') (fun R hR=>?_) ?_
  ·rw[lX,aa,ldK mm gN,aa,hkm'.len GY,au,aM,aa,aj]
   refine ak (fun h=>?_) (fun h=>?_)
   ·have h:i < ks.length:=by simpa using h
    rw[aM,aa,aj]
    refine ak (fun h8=>?_) (fun h8=>?_)
    ·have h8:i < 8:=by
      have:=of_decide_eq_true h8
      omega
     rw[cP,aa,bR,aa,ldU mm _ gS,aa,hFm.sl.len eP,au,cQ,aa]
     refine hR _ _ _ ⟨?_,rfl,rfl⟩
     rw[decide_eq_true h,decide_eq_true h8,Bool.true_and,Bool.true_and]
     congr 2
     rw[decide_eq_decide];omega
    ·have h8:¬i < 8:=by
      have:=of_decide_eq_false h8
      omega
     exact hR _ _ _ ⟨by rw[decide_eq_false h8,Bool.and_false];rfl,rfl,rfl⟩
   ·have h:¬i < ks.length:=by simpa using h
    exact hR _ _ _ ⟨by rw[decide_eq_false h];rfl,rfl,rfl⟩
  rintro _ _ _ ⟨rfl,rfl,rfl⟩
  rw[aA,aj]
  refine ak (fun h=>?_) (fun h=>?_)
  ·simp only[Bool.and_eq_true,decide_eq_true_eq]at h
   obtain⟨⟨hik,hi8⟩,hl0⟩:=h
   obtain⟨y,hyi⟩:∃x,ks[i]?=some x:=⟨_,List.getElem?_eq_getElem hik⟩
   obtain⟨y0,y1,y2,y3⟩:=hokk y (List.mem_of_getElem? hyi)
   rw[lX,aa,ldK mm gN,aa]
   obtain⟨p,e1,e2⟩:=P6 hkm' hyi
   rw[e1,aa,e2,aa]
   refine ar fun um hn38 hg38 hk38=>?_
   refine av MO hg38 rfl rfl rfl fun m39 hn39 hg39 hk39=>?_
   have hx39:Ext mm m39:=⟨by omega,fun b hb=>by rw[hk39 b (by omega),hk38 b hb]⟩
   have gy:m39.get mm.n=.cells y.c' 166 none:=hg39
   have gS39:=hx39.cells gS
   have ldY:∀(m':M) (j:Nat) (z:Int),m'.get mm.n=.cells y.c' 166 none->y.c'[j]?=some (.int .i64 z)->ag TE m' 3 (.pointer (some ⟨mm.n,0+j,none⟩))=some (.int .i64 z):=fun m' j z hh hj=>by rw[bA,az hh,Nat.zero_add,hj]
   have i0:ai TE 166 (.pointer (some ⟨mm.n,0,none⟩)) (.int .i64 0)=some (.pointer (some ⟨mm.n,0+0,none⟩)):=Lc (i:=0) (by decide)
   have i1:ai TE 166 (.pointer (some ⟨mm.n,0,none⟩)) (.int .i64 1)=some (.pointer (some ⟨mm.n,0+1,none⟩)):=Lc (i:=1) (by decide)
   have i2:ai TE 166 (.pointer (some ⟨mm.n,0,none⟩)) (.int .i64 2)=some (.pointer (some ⟨mm.n,0+2,none⟩)):=Lc (i:=2) (by decide)
   have i3:ai TE 166 (.pointer (some ⟨mm.n,0,none⟩)) (.int .i64 3)=some (.pointer (some ⟨mm.n,0+3,none⟩)):=Lc (i:=3) (by decide)
   have hF39:=hFm.aD hx39
   simp only[cP,bR,eV,i0,i1,i2,i3,aa]
   rw[ldU m39 _ gS39,aa,ldY m39 1 y.b gy rfl,aa,aa,hF39.sl.len eP,au]
   have hpk:=ko (c:=y.b) (show(0:Int)< (l.length:Int) by omega)
   refine aC (kp hX y1 (show(0:Int)< (l.length:Int) by omega)) ⟨Nat.le_refl _,?_⟩
   obtain⟨j,hj⟩:∃j:Nat,dR y.b (l.length:Int)=(j:Int):=⟨(dR y.b (l.length:Int)).toNat,by omega⟩
   rw[hj]
   rw[hj]at hpk
   obtain⟨u,hu⟩:∃x,l[j]?=some x:=⟨_,List.getElem?_eq_getElem (by omega)⟩
   have hum:=List.mem_of_getElem? hu
   obtain⟨q,q1,q2,ou⟩:=hF39.sl.iQ (k:=.i64) hu
   rw[q1,aa,q2,aa]
   refine ar fun m55 hn55 hg55 hk55=>?_
   refine av eH hg55 rfl rfl (Un.eE ou) fun m56 hn56 hg56 hk56=>?_
   have hx56:Ext m39 m56:=⟨by omega,fun b hb=>by rw[hk56 b (by omega),hk55 b hb]⟩
   have gu:m56.get m39.n=.cells (u.u.c u.w) 87 none:=hg56
   have gy56:=hx56.cells gy
   have gS56:=hx56.cells gS39
   have hval:=hP.val u.u (by unfold cd;exact List.mem_map_of_mem hum)
   have hu8:=e9 hval
   have hval':=hval
   unfold gX jL at hval'
   simp only[Bool.and_eq_true,decide_eq_true_eq]at hval'
   have hwm:=((hFm.sh u hum).aD hx39).aD hx56
   rw[ldY m56 0 y.a gy56 rfl,aa]
   refine aC (kp hX y0 (by decide)) ⟨Nat.le_refl _,?_⟩
   rw[bt,aa,(iD gu).1,aa,ldY m56 2 y.c gy56 rfl,aa,bd,aa,(iD gu).2.2.2.1,aa,hwm.len cF,au,aG,aa,wrap64 (by omega) (by omega)]
   have pa:=ko (c:=y.a) (show(0:Int)< 12 by decide)
   have pc:=ko (c:=y.c) (show(0:Int)< (u.u.shape.length:Int)+2 by omega)
   have pd:=ko (c:=y.d) (show(0:Int)< 5 by decide)
   refine aC (kp hX y2 (by omega)) ⟨Nat.le_refl _,?_⟩
   rw[dc,aa,wrap64 (by omega) (by omega),ldY m56 3 y.d gy56 rfl,aa]
   refine aC (kp hX y3 (by decide)) ⟨Nat.le_refl _,?_⟩
   rw[aG,aa,wrap64 (by omega) (by omega),ldY m56 3 y.d gy56 rfl,aa]
   refine aC (kp hX y3 (by decide)) ⟨Nat.le_refl _,?_⟩
   rw[bI,aa,JC,aa]
   refine ar fun m88 hn88 hg88 hk88=>?_
   refine av FT hg88 rfl rfl rfl fun m89 hn89 hg89 hk89=>?_
   have hx89:Ext m56 m89:=⟨by omega,fun b hb=>by rw[hk89 b (by omega),hk88 b hb]⟩
   obtain⟨x,hx⟩:∃x:Mk,x=⟨dR y.a 12,u.u.id,dR y.c ((u.u.shape.length:Int)+2)-2,1+dR y.d 5,decide (dR y.d 2=0)⟩:=⟨_,rfl⟩
   have gm:m89.get m56.n=.cells x.c 89 none:=by rw[hx];exact hg89
   have gS89:=hx89.cells gS56
   have hxx:Ext mm m89:=(hx39.trans hx56).trans hx89
   have hms89:=hms.aD hxx
   rw[show ag TE m89 58 (.pointer (some ⟨m6.n,0+1,none⟩))=some vm by rw[rQ,az gS89];rfl,aa,(Cr gm).2.2.2.2,aa]
   obtain⟨m95,r',b,hc,hx95,hw⟩:=JP (x:=x) hX hms89 hM.Mr (by have:=hM.len;omega)
   refine aC hc ?_
   rw[aR,aR]
   simp only[List.getElem?_cons_zero,List.getElem?_cons_succ,aa]
   rw[aj]
   have hxn:=hxx.n
   have hxn95:=hx95.n
   have hx95':Ext mm m95:=hxx.trans hx95
   refine ak (fun hb=>?_) (fun hb=>?_)
   ·have hw:=hw hb
    refine dS PC (hx95'.cells gS) (by rw[hw.sl.cells];rfl) (by rw[hw.sl.cells];simp) (by rw[hw.sl.cells];simp[hw.sl.one]) fun m100 hn100 hg100 hk100=>?_
    rw[hw.sl.cells]at hg100
    have hg100:m100.get m6.n=.cells [r,r'] 60 none:=hg100
    rw[aG,aa,wrap64 (by omega) (by omega)]
    have hxM:oC (cd l) (nW ms x):=by
     refine KU hM (by omega) ?_ ⟨u.u,by unfold cd;exact List.mem_map_of_mem hum,by rw[hx],by rw[hx];show dR y.c ((u.u.shape.length:Int)+2)-2 < _;omega⟩
     rw[hx]
     unfold HE jL
     simp only[Bool.and_eq_true,decide_eq_true_eq]
     omega
    refine⟨i+1,by omega,nW ms x,r',rfl,by omega,by omega,fun c hc1 hc2=>by rw[hk100 c hc2,hx95'.get c (by omega),hkm c hc1 hc2],by omega,hg100,?_,hxM,by have:=zw ms x;omega,fun e=>by rw[e]at hl0;simp at hl0⟩
    refine hw.sl.bw fun b c t g hb ht=>?_
    have ht:t=89:=List.mem_singleton.1 ht
    subst ht
    rw[hk100 b (fun e=>by rw[e,hx95'.cells gS]at hb;cases hb),hb]
   ·rw[aG,aa,wrap64 (by omega) (by omega)]
    exact⟨i+1,by omega,ms,vm,rfl,by omega,by omega,fun c hc1 hc2=>by rw[hx95'.get c (by omega),hkm c hc1 hc2],by omega,hx95'.cells gS,hms.aD hx95',hM,by omega,hnil⟩
  ·rw[show ag TE mm 60 (.pointer (some ⟨m6.n,0,none⟩))=some (.agg #[r,vm]) by rw[mN,aH (n:=2) gS (by show 0+2<=2;decide)];rfl,aa]
   have g2m:mm.get m1.n=.cells [.slice none 0 0,.slice none 0 0] 60 none:=by rw[hkm _ (by omega) (by omega),g2']
   have ovm:one vm=true:=hms.one
   refine av GH g2m rfl rfl (by show(one r && (one vm && true))=true;rw[or,ovm];rfl) fun m105 hn105 hg105 hk105=>?_
   have hg105:m105.get m1.n=.cells [r,vm] 60 none:=hg105
   rw[show ag TE m105 60 (.pointer (some ⟨m1.n,0,none⟩))=some (.agg #[r,vm]) by rw[mN,aH (n:=2) hg105 (by show 0+2<=2;decide)];rfl,aa]
   have k105:∀(α:Type) [aY α] (L:List α) (w:Value),(∀t∈aY.ty α::aY.jN α,t≠60)->Sl mm L w->Sl m105 L w:=fun α _ L w ht hs=>hs.bw fun b c t g hb hm=>by
    rw[hk105 b (fun e=>by rw[e,g2m]at hb;cases hb;exact ht _ hm rfl),hb]
   have hF105:eF m105 l r:=hFm.bw fun c cs t g hb ht=>by
    rw[hk105 c (fun e=>by subst e;rw[g2m]at hb;cases hb;rcases ht with ht |ht <;>exact absurd ht (by decide)),hb]
   have hms105:Sl m105 ms vm:=k105 Mk ms vm (by intro t ht;rw[List.mem_singleton.1 ht];decide) hms
   obtain⟨ra,rc,rfl⟩:=hF.sl.form
   cases ra with
   |none=>
    obtain⟨rfl, -,rfl⟩:=Jc hF
    obtain⟨rfl,rfl⟩:=hnil rfl
    exact .inl ⟨rfl,by omega,rfl,.refl,[],_,[],_,rfl,Lr m,hP,Sl.nil,hM⟩
   |some ad=>
    refine .inr ⟨.inl ?_,by omega,⟨by have:=hxa.n;omega,fun c hc=>?_⟩,l,_,ms,vm,rfl,hF105,hP,hms105,hM⟩
    ·simp[bs,bY,gg,bL]
    ·rw[hk105 c (by omega),hkm c (by omega) (by omega),hxa.get c (by omega),hx2.get c hc]
 obtain⟨rv,m',b,hc,rfl,h1,l,r,ms,vm,rfl,h2,h3,h4,h5⟩:=key
 exact⟨l,r,ms,vm,m',hc,h1,h2,h3,h4,h5⟩
end Go.Proofs.YtmdfgncoekfgdaaGreatDoor
namespace Go.Proofs.YtmdfgncoekfgdaaGreatDoor
open Go Go.D
set_option maxRecDepth 100000 in
theorem Zc{W:Words}{x0 x1:Value}{m:M}{R:List Value->M->Nat->Prop}:dN TE W Tryz.f36 [x0,x1] m R=
(W.bW (M.push m (.cells (cells x0) 60 none)) fun a=>W.ah (ae TE 60 (ptrTo m.n) 0) fun b=>W.ah (ag TE a 31 b) fun c=>W.bB (.func 98) [c,x1] a fun d f g=>W.ah (cx d 0) fun h=>W.ah (cx d 1) fun i=>W.bW (M.push f (.cells [(.int .i64 0),(.int .i64 0),(.int .i64 0),(.slice none 0 0),(.int .i64 0),(.int .i64 0)] 87 none)) fun j=>W.aO (aB TE j 87 (ptrTo f.n) h) fun k l=>W.jn (fun n=>W.ah (ag TE k 60 (ptrTo m.n)) fun o=>W.bB (.func 99) [o] k fun p q r=>W.ah (iO .not p) fun s=>aX s
(n [(.bool true)] q (min (min (min m.n g) l) r))
(W.ah (iO .not i) fun t=>n [t] q (min (min (min m.n g) l) r)))
(fun u v w=>W.un u fun y z=>aX y
(R [(.slice none 0 0),(.int .i64 410)] v w)
(W.ah (ag TE v 87 (ptrTo f.n)) fun A=>W.bB (.func 46) [A] v fun B C D=>W.aO (aq TE C .len [102] [B]) fun E _=>W.Lp (fun F G H I=>W.un G fun J K=>W.un K fun L N=>W.ah (an TE .lss 3 L E) fun O=>aX O
(W.ah (ai TE 102 B L) fun P=>W.ah (ag TE H 107 P) fun Q=>W.bW (M.push H (.cells [(.int .i64 0),(.int .i64 0)] 107 none)) fun S=>W.aO (aB TE S 107 (ptrTo H.n) Q) fun T U=>W.ah (ae TE 107 (ptrTo H.n) 1) fun V=>W.ah (ag TE T 3 V) fun X=>W.ah (aW TE 105 [(0,X)]) fun Y=>W.bW (M.push T (.cells [(.int .i64 0),(.int .i64 0),(.int .i64 0),(.slice none 0 0),(.slice none 0 0)] 105 none)) fun Z=>W.aO (aB TE Z 105 (ptrTo T.n) Y) fun a0 a1=>W.ah (ae TE 107 (ptrTo H.n) 1) fun a2=>W.ah (ag TE a0 3 a2) fun a3=>W.ah (an TE .geq 3 a3 (.int .i64 0)) fun a4=>aX a4
(W.ah (ae TE 87 (ptrTo f.n) 3) fun a5=>W.ah (ag TE a0 45 a5) fun a6=>W.ah (ae TE 107 (ptrTo H.n) 1) fun a7=>W.ah (ag TE a0 3 a7) fun a8=>W.ah (ai TE 45 a6 a8) fun a9=>W.ah (ag TE a0 98 a9) fun b0=>W.ah (ae TE 87 (ptrTo f.n) 3) fun b1=>W.ah (ag TE a0 45 b1) fun b2=>W.ah (ae TE 107 (ptrTo H.n) 1) fun b3=>W.ah (ag TE a0 3 b3) fun b4=>W.ah (an TE .add 3 b4 (.int .i64 1)) fun b5=>W.ah (ae TE 87 (ptrTo f.n) 3) fun b6=>W.ah (ag TE a0 45 b6) fun b7=>W.aO (aq TE a0 .len [45] [b7]) fun b8 _=>W.ah (an TE .rem 3 b5 b8) fun b9=>W.ah (ai TE 45 b2 b9) fun c0=>W.ah (ag TE a0 98 c0) fun c1=>W.bW (M.push a0 (.cells [(.int .i64 0),(.int .i64 0)] 98 none)) fun c2=>W.bW (M.push c2 (.cells [(.int .i64 0),(.int .i64 0)] 98 none)) fun c3=>W.aO (aB TE c3 98 (ptrTo a0.n) b0) fun c4 c5=>((M.n c3<=c5)\/(dT (some (.v b1)) c5/\(dT (some (.v b3)) c5/\(dT (some (.v b6)) c5/\(nU (some (.v b7))/\(dT (some (.v c0)) c5/\True))))))/\(W.aO (aB TE c4 98 (ptrTo c2.n) c1) fun c6 c7=>W.ah (ae TE 98 (ptrTo c2.n) 0) fun c8=>W.ah (ag TE c6 3 c8) fun c9=>W.ah (ae TE 98 (ptrTo a0.n) 0) fun d0=>W.ah (ag TE c6 3 d0) fun d1=>W.ah (an TE .sub 3 c9 d1) fun d2=>W.ah (ae TE 98 (ptrTo c2.n) 0) fun d3=>W.ah (ag TE c6 3 d3) fun d4=>W.ah (ae TE 98 (ptrTo a0.n) 0) fun d5=>W.ah (ag TE c6 3 d5) fun d6=>W.ah (an TE .sub 3 d4 d6) fun d7=>W.ah (an TE .mul 3 d2 d7) fun d8=>W.ah (ae TE 98 (ptrTo c2.n) 1) fun d9=>W.ah (ag TE c6 3 d9) fun g0=>W.ah (ae TE 98 (ptrTo a0.n) 1) fun g1=>W.ah (ag TE c6 3 g1) fun g2=>W.ah (an TE .sub 3 g0 g2) fun g3=>W.ah (ae TE 98 (ptrTo c2.n) 1) fun g4=>W.ah (ag TE c6 3 g4) fun g5=>W.ah (ae TE 98 (ptrTo a0.n) 1) fun g6=>W.ah (ag TE c6 3 g6) fun g7=>W.ah (an TE .sub 3 g5 g7) fun g8=>W.ah (an TE .mul 3 g3 g8) fun g9=>W.ah (an TE .add 3 d8 g9) fun h0=>W.ah (ae TE 87 (ptrTo f.n) 5) fun h1=>W.ah (ag TE c6 3 h1) fun h2=>W.ah (ae TE 87 (ptrTo f.n) 4) fun h3=>W.ah (ag TE c6 3 h3) fun h4=>W.ah (an TE .sub 3 h2 h4) fun h5=>W.ah (ae TE 105 (ptrTo T.n) 1) fun h6=>W.aO (aB TE c6 3 h6 h0) fun h7 h8=>((M.n c6<=h8)\/(dT (some (.v h1)) h8/\(dT (some (.v h3)) h8/\True)))/\(W.ah (ae TE 105 (ptrTo T.n) 2) fun h9=>W.aO (aB TE h7 3 h9 h5) fun i0 i1=>W.ah (ae TE 60 (ptrTo m.n) 0) fun i2=>W.ah (ag TE i0 31 i2) fun i3=>W.bB (.func 49) [i3] i0 fun i4 i5 i6=>W.aO (aq TE i5 .len [110] [i4]) fun i7 _=>W.Lp (fun i8 i9 j0 j1=>W.un i9 fun j2 j3=>W.ah (an TE .lss 3 j2 i7) fun j4=>aX j4
(W.ah (ai TE 110 i4 j2) fun j5=>W.ah (ag TE j0 115 j5) fun j6=>W.bW (M.push j0 (.cells [(.int .i64 0),(.int .i64 0),(.int .i64 0),(.int .i64 0),(.int .i64 0),(.int .i64 0),(.int .i64 0),(.int .i64 0)] 115 none)) fun j7=>W.aO (aB TE j7 115 (ptrTo j0.n) j6) fun j8 j9=>W.jn (fun k0=>W.ah (ae TE 115 (ptrTo j0.n) 0) fun k1=>W.ah (ag TE j8 3 k1) fun k2=>W.ah (an TE .eql 3 k2 x1) fun k3=>aX k3
(W.ah (ae TE 107 (ptrTo H.n) 1) fun k4=>W.ah (ag TE j8 3 k4) fun k5=>W.ah (ae TE 115 (ptrTo j0.n) 2) fun k6=>W.ah (ae TE 113 k6 0) fun k7=>W.ah (ag TE j8 98 k7) fun k8=>W.bB (.func 100) [k5,k8,(ptrTo f.n)] j8 fun k9 l0 l1=>aX k9
(W.ah (ae TE 107 (ptrTo H.n) 1) fun l2=>W.ah (ag TE l0 3 l2) fun l3=>W.ah (ae TE 115 (ptrTo j0.n) 2) fun l4=>W.ah (ae TE 113 l4 1) fun l5=>W.ah (ag TE l0 98 l5) fun l6=>W.bB (.func 100) [l3,l6,(ptrTo f.n)] l0 fun l7 l8 l9=>k0 [l7] l8 (min (min (min j1 j9) l1) l9))
(k0 [(.bool false)] l0 (min (min j1 j9) l1)))
(W.ah (ae TE 115 (ptrTo j0.n) 1) fun n0=>W.ah (ag TE j8 3 n0) fun n1=>W.ah (an TE .eql 3 n1 x1) fun n2=>aX n2
(W.ah (ae TE 107 (ptrTo H.n) 1) fun n3=>W.ah (ag TE j8 3 n3) fun n4=>W.ah (ae TE 115 (ptrTo j0.n) 2) fun n5=>W.ah (ae TE 113 n5 0) fun n6=>W.ah (ag TE j8 98 n6) fun n7=>W.bB (.func 100) [n4,n7,(ptrTo f.n)] j8 fun n8 n9 o0=>aX n8
(W.ah (ae TE 107 (ptrTo H.n) 1) fun o1=>W.ah (ag TE n9 3 o1) fun o2=>W.ah (ae TE 115 (ptrTo j0.n) 2) fun o3=>W.ah (ae TE 113 o3 1) fun o4=>W.ah (ag TE n9 98 o4) fun o5=>W.bB (.func 100) [o2,o5,(ptrTo f.n)] n9 fun o6 o7 o8=>k0 [o6] o7 (min (min (min j1 j9) o0) o8))
(k0 [(.bool false)] n9 (min (min j1 j9) o0)))
(k0 [(.bool false)] j8 (min j1 j9))))
(fun o9 p0 p1=>W.un o9 fun p2 p3=>aX p2
(W.ah (ae TE 105 (ptrTo T.n) 3) fun p4=>W.ah (ag TE p0 25 p4) fun p5=>W.ah (ae TE 115 (ptrTo j0.n) 0) fun p6=>W.ah (ag TE p0 3 p6) fun p7=>W.ah (ae TE 115 (ptrTo j0.n) 1) fun p8=>W.ah (ag TE p0 3 p8) fun p9=>W.ah (an TE .add 3 p7 p9) fun q0=>W.ah (an TE .sub 3 q0 x1) fun q1=>W.aO (aE TE p0 25 1 [(0,q1)]) fun q2 q3=>W.aO (aq TE (M.wl q3 q3.n) .append [25,25] [p5,q2]) fun q4 q5=>W.ah (ae TE 105 (ptrTo T.n) 3) fun q6=>W.aO (aB TE q5 25 q6 q4) fun q7 q8=>W.ah (an TE .add 3 j2 (.int .i64 1)) fun q9=>i8 [q9] q7 (min (min p1 (M.low q5)) q8))
(W.ah (an TE .add 3 j2 (.int .i64 1)) fun r0=>i8 [r0] p0 p1)))
(W.ah (ae TE 105 (ptrTo T.n) 3) fun r1=>W.ah (ag TE j0 25 r1) fun r2=>W.bB (.func 103) [r2] j0 fun r3 r4 r5=>W.ah (ae TE 60 (ptrTo m.n) 1) fun r6=>W.ah (ag TE r4 58 r6) fun r7=>W.aO (aq TE r4 .len [58] [r7]) fun r8 _=>W.Lp (fun r9 s0 s1 s2=>W.un s0 fun s3 s4=>W.ah (an TE .lss 3 s3 r8) fun s5=>aX s5
(W.ah (ai TE 58 r7 s3) fun s6=>W.ah (ag TE s1 89 s6) fun s7=>W.bW (M.push s1 (.cells [(.int .i64 0),(.int .i64 0),(.int .i64 0),(.int .i64 0),(.bool false)] 89 none)) fun s8=>W.aO (aB TE s8 89 (ptrTo s1.n) s7) fun s9 t0=>W.jn (fun t1=>W.ah (ae TE 89 (ptrTo s1.n) 1) fun t2=>W.ah (ag TE s9 3 t2) fun t3=>W.ah (an TE .eql 3 t3 x1) fun t4=>aX t4
(W.ah (ae TE 89 (ptrTo s1.n) 2) fun t5=>W.ah (ag TE s9 3 t5) fun t6=>W.ah (ae TE 107 (ptrTo H.n) 1) fun t7=>W.ah (ag TE s9 3 t7) fun t8=>W.ah (an TE .eql 3 t6 t8) fun t9=>t1 [t9] s9 (min s2 t0))
(t1 [(.bool false)] s9 (min s2 t0)))
(fun u0 u1 u2=>W.un u0 fun u3 u4=>aX u3
(W.ah (ae TE 105 (ptrTo T.n) 4) fun u5=>W.ah (ag TE u1 25 u5) fun u6=>W.ah (ae TE 89 (ptrTo s1.n) 0) fun u7=>W.ah (ag TE u1 3 u7) fun u8=>W.aO (aE TE u1 25 1 [(0,u8)]) fun u9 v0=>W.aO (aq TE (M.wl v0 v0.n) .append [25,25] [u6,u9]) fun v1 v2=>W.ah (ae TE 105 (ptrTo T.n) 4) fun v3=>W.aO (aB TE v2 25 v3 v1) fun v4 v5=>W.ah (an TE .add 3 s3 (.int .i64 1)) fun v6=>r9 [v6] v4 (min (min u2 (M.low v2)) v5))
(W.ah (an TE .add 3 s3 (.int .i64 1)) fun v7=>r9 [v7] u1 u2)))
(W.ah (ag TE s1 105 (ptrTo T.n)) fun v8=>W.aO (aE TE s1 72 1 [(0,v8)]) fun v9 w0=>W.aO (aq TE (M.wl w0 w0.n) .append [72,72] [J,v9]) fun w1 w2=>W.ah (an TE .add 3 L (.int .i64 1)) fun w3=>F [w1,w3] w2 (min s2 (M.low w2)))) [(.int .i64 0)] r4 (min j1 r5))) [(.int .i64 0)] i5 (min (min (min (min (min (min (min I U) a1) c5) c7) h8) i1) i6))))
(W.ah (ae TE 87 (ptrTo f.n) 3) fun w4=>W.ah (ag TE a0 45 w4) fun w5=>W.bB (.func 101) [w5] a0 fun w6 w7 w8=>W.ah (ae TE 105 (ptrTo T.n) 1) fun w9=>W.aO (aB TE w7 3 w9 w6) fun y0 y1=>W.ah (ae TE 60 (ptrTo m.n) 0) fun y2=>W.ah (ae TE 31 y2 0) fun y3=>W.ah (ag TE y0 29 y3) fun y4=>W.aO (aq TE y0 .len [29] [y4]) fun y5 _=>W.Lp (fun y6 y7 y8 y9=>W.un y7 fun z0 z1=>W.ah (an TE .lss 3 z0 y5) fun z2=>aX z2
(W.ah (ai TE 29 y4 z0) fun z3=>W.ah (ag TE y8 87 z3) fun z4=>W.bW (M.push y8 (.cells [(.int .i64 0),(.int .i64 0),(.int .i64 0),(.slice none 0 0),(.int .i64 0),(.int .i64 0)] 87 none)) fun z5=>W.aO (aB TE z5 87 (ptrTo y8.n) z4) fun z6 z7=>W.jn (fun z8=>W.ah (ae TE 107 (ptrTo H.n) 1) fun z9=>W.ah (ag TE z6 3 z9) fun A0=>W.ah (an TE .eql 3 A0 (.int .i64 (-1))) fun A1=>aX A1
(W.ah (ae TE 87 (ptrTo y8.n) 4) fun A2=>W.ah (ag TE z6 3 A2) fun A3=>W.ah (ae TE 87 (ptrTo f.n) 5) fun A4=>W.ah (ag TE z6 3 A4) fun A5=>W.ah (an TE .eql 3 A3 A5) fun A6=>aX A6
(z8 [(.bool true)] z6 (min y9 z7))
(W.ah (ae TE 107 (ptrTo H.n) 1) fun A7=>W.ah (ag TE z6 3 A7) fun A8=>W.ah (an TE .eql 3 A8 (.int .i64 (-2))) fun A9=>aX A9
(W.ah (ae TE 87 (ptrTo y8.n) 5) fun B0=>W.ah (ag TE z6 3 B0) fun B1=>W.ah (ae TE 87 (ptrTo f.n) 4) fun B2=>W.ah (ag TE z6 3 B2) fun B3=>W.ah (an TE .eql 3 B1 B3) fun B4=>z8 [B4] z6 (min y9 z7))
(z8 [(.bool false)] z6 (min y9 z7))))
(W.ah (ae TE 107 (ptrTo H.n) 1) fun B5=>W.ah (ag TE z6 3 B5) fun B6=>W.ah (an TE .eql 3 B6 (.int .i64 (-2))) fun B7=>aX B7
(W.ah (ae TE 87 (ptrTo y8.n) 5) fun B8=>W.ah (ag TE z6 3 B8) fun B9=>W.ah (ae TE 87 (ptrTo f.n) 4) fun C0=>W.ah (ag TE z6 3 C0) fun C1=>W.ah (an TE .eql 3 B9 C1) fun C2=>z8 [C2] z6 (min y9 z7))
(z8 [(.bool false)] z6 (min y9 z7))))
(fun C3 C4 C5=>W.un C3 fun C6 C7=>W.jn (fun C8=>aX C6
(W.ah (ae TE 87 (ptrTo f.n) 3) fun C9=>W.ah (ag TE C4 45 C9) fun D0=>W.ah (ae TE 87 (ptrTo y8.n) 3) fun D1=>W.ah (ag TE C4 45 D1) fun D2=>W.bB (.func 102) [D0,D2] C4 fun D3 D4 D5=>C8 [D3] D4 (min C5 D5))
(C8 [(.bool false)] C4 C5))
(fun D6 D7 D8=>W.un D6 fun D9 E0=>aX D9
(W.ah (ae TE 105 (ptrTo T.n) 3) fun E1=>W.ah (ag TE D7 25 E1) fun E2=>W.ah (ae TE 87 (ptrTo y8.n) 0) fun E3=>W.ah (ag TE D7 3 E3) fun E4=>W.aO (aE TE D7 25 1 [(0,E4)]) fun E5 E6=>W.aO (aq TE (M.wl E6 E6.n) .append [25,25] [E2,E5]) fun E7 E8=>W.ah (ae TE 105 (ptrTo T.n) 3) fun E9=>W.aO (aB TE E8 25 E9 E7) fun F0 F1=>W.ah (an TE .add 3 z0 (.int .i64 1)) fun F2=>y6 [F2] F0 (min (min D8 (M.low E8)) F1))
(W.ah (an TE .add 3 z0 (.int .i64 1)) fun F3=>y6 [F3] D7 D8))))
(W.ah (ae TE 105 (ptrTo T.n) 3) fun F4=>W.ah (ag TE y8 25 F4) fun F5=>W.bB (.func 103) [F5] y8 fun F6 F7 F8=>W.ah (ae TE 60 (ptrTo m.n) 1) fun F9=>W.ah (ag TE F7 58 F9) fun G0=>W.aO (aq TE F7 .len [58] [G0]) fun G1 _=>W.Lp (fun G2 G3 G4 G5=>W.un G3 fun G6 G7=>W.ah (an TE .lss 3 G6 G1) fun G8=>aX G8
(W.ah (ai TE 58 G0 G6) fun G9=>W.ah (ag TE G4 89 G9) fun H0=>W.bW (M.push G4 (.cells [(.int .i64 0),(.int .i64 0),(.int .i64 0),(.int .i64 0),(.bool false)] 89 none)) fun H1=>W.aO (aB TE H1 89 (ptrTo G4.n) H0) fun H2 H3=>W.jn (fun H4=>W.ah (ae TE 89 (ptrTo G4.n) 1) fun H5=>W.ah (ag TE H2 3 H5) fun H6=>W.ah (an TE .eql 3 H6 x1) fun H7=>aX H7
(W.ah (ae TE 89 (ptrTo G4.n) 2) fun H8=>W.ah (ag TE H2 3 H8) fun H9=>W.ah (ae TE 107 (ptrTo H.n) 1) fun I0=>W.ah (ag TE H2 3 I0) fun I1=>W.ah (an TE .eql 3 H9 I1) fun I2=>H4 [I2] H2 (min G5 H3))
(H4 [(.bool false)] H2 (min G5 H3)))
(fun I3 I4 I5=>W.un I3 fun I6 I7=>aX I6
(W.ah (ae TE 105 (ptrTo T.n) 4) fun I8=>W.ah (ag TE I4 25 I8) fun I9=>W.ah (ae TE 89 (ptrTo G4.n) 0) fun J0=>W.ah (ag TE I4 3 J0) fun J1=>W.aO (aE TE I4 25 1 [(0,J1)]) fun J2 J3=>W.aO (aq TE (M.wl J3 J3.n) .append [25,25] [I9,J2]) fun J4 J5=>W.ah (ae TE 105 (ptrTo T.n) 4) fun J6=>W.aO (aB TE J5 25 J6 J4) fun J7 J8=>W.ah (an TE .add 3 G6 (.int .i64 1)) fun J9=>G2 [J9] J7 (min (min I5 (M.low J5)) J8))
(W.ah (an TE .add 3 G6 (.int .i64 1)) fun K0=>G2 [K0] I4 I5)))
(W.ah (ag TE G4 105 (ptrTo T.n)) fun K1=>W.aO (aE TE G4 72 1 [(0,K1)]) fun K2 K3=>W.aO (aq TE (M.wl K3 K3.n) .append [72,72] [J,K2]) fun K4 K5=>W.ah (an TE .add 3 L (.int .i64 1)) fun K6=>F [K4,K6] K5 (min G5 (M.low K5)))) [(.int .i64 0)] F7 (min y9 F8))) [(.int .i64 0)] y0 (min (min (min (min I U) a1) w8) y1)))
(R [J,(.int .i64 0)] H I)) [(.slice none 0 0),(.int .i64 0)] C (min w D)))):=by kernel_rfl
set_option maxRecDepth 100000 in
theorem Tv{W:Words}{x0 x1 x2:Value}{m:M}{R:List Value->M->Nat->Prop}:dN TE W Tryz.f100 [x0,x1,x2] m R=
(W.bW (M.push m (.cells (cells x1) 98 none)) fun a=>W.ah (ae TE 87 x2 3) fun b=>W.ah (ag TE a 45 b) fun c=>W.ah (ai TE 45 c x0) fun d=>W.ah (ag TE a 98 d) fun f=>W.ah (ae TE 87 x2 3) fun g=>W.ah (ag TE a 45 g) fun h=>W.ah (an TE .add 3 x0 (.int .i64 1)) fun i=>W.ah (ae TE 87 x2 3) fun j=>W.ah (ag TE a 45 j) fun k=>W.aO (aq TE a .len [45] [k]) fun l _=>W.ah (an TE .rem 3 i l) fun n=>W.ah (ai TE 45 h n) fun o=>W.ah (ag TE a 98 o) fun p=>W.bW (M.push a (.cells [(.int .i64 0),(.int .i64 0)] 98 none)) fun q=>W.bW (M.push q (.cells [(.int .i64 0),(.int .i64 0)] 98 none)) fun r=>W.aO (aB TE r 98 (ptrTo a.n) f) fun s t=>((M.n r<=t)\/(dT (some (.v g)) t/\(dT (some (.v j)) t/\(nU (some (.v k))/\(dT (some (.v o)) t/\True)))))/\(W.aO (aB TE s 98 (ptrTo q.n) p) fun u v=>W.ah (ae TE 98 (ptrTo q.n) 0) fun w=>W.ah (ag TE u 3 w) fun y=>W.ah (ae TE 98 (ptrTo a.n) 0) fun z=>W.ah (ag TE u 3 z) fun A=>W.ah (an TE .sub 3 y A) fun B=>W.ah (ae TE 98 (ptrTo m.n) 1) fun C=>W.ah (ag TE u 3 C) fun D=>W.ah (ae TE 98 (ptrTo a.n) 1) fun E=>W.ah (ag TE u 3 E) fun F=>W.ah (an TE .sub 3 D F) fun G=>W.ah (an TE .mul 3 B G) fun H=>W.ah (ae TE 98 (ptrTo q.n) 1) fun I=>W.ah (ag TE u 3 I) fun J=>W.ah (ae TE 98 (ptrTo a.n) 1) fun K=>W.ah (ag TE u 3 K) fun L=>W.ah (an TE .sub 3 J L) fun N=>W.ah (ae TE 98 (ptrTo m.n) 0) fun O=>W.ah (ag TE u 3 O) fun P=>W.ah (ae TE 98 (ptrTo a.n) 0) fun Q=>W.ah (ag TE u 3 Q) fun S=>W.ah (an TE .sub 3 P S) fun T=>W.ah (an TE .mul 3 N T) fun U=>W.ah (an TE .eql 3 H U) fun V=>R [V] u (min (min m.n t) v))):=by kernel_rfl
set_option maxRecDepth 100000 in
theorem F48{W:Words}{x0 x1:Value}{m:M}{R:List Value->M->Nat->Prop}:dN TE W Tryz.f48 [x0,x1] m R=
(W.Lp (fun a b c d=>W.un b fun f g=>W.un g fun h i=>W.aO (aq TE c .len [25] [x0]) fun j _=>W.ah (an TE .lss 3 h j) fun k=>aX k
(W.ah (ai TE 25 x0 h) fun l=>W.ah (ag TE c 3 l) fun n=>W.ah (an TE .eql 3 n x1) fun o=>aX o
(W.ah (an TE .add 3 f (.int .i64 1)) fun p=>W.ah (an TE .add 3 h (.int .i64 1)) fun q=>a [p,q] c d)
(W.ah (an TE .add 3 h (.int .i64 1)) fun r=>a [f,r] c d))
(R [f] c d)) [(.int .i64 0),(.int .i64 0)] m m.n):=by kernel_rfl
set_option maxRecDepth 100000 in
theorem F7{W:Words}{x0 x1 x2:Value}{m:M}{R:List Value->M->Nat->Prop}:dN TE W Tryz.f7 [x0,x1,x2] m R=
(W.bW (M.push m (.cells (cells x0) 57 none)) fun a=>W.bB (.func 8) [] a fun b c d=>W.ah (iO .not b) fun f=>aX f
(R [(.bool false)] c (min m.n d))
(W.ah (ag TE c 57 (ptrTo m.n)) fun g=>W.bB (.func 34) [g] c fun h i j=>W.bW (M.push i (.cells [(.slice none 0 0),(.slice none 0 0)] 60 none)) fun k=>W.aO (aB TE k 60 (ptrTo i.n) h) fun l n=>W.ah (ae TE 60 (ptrTo i.n) 0) fun o=>W.ah (ae TE 31 o 0) fun p=>W.ah (ag TE l 29 p) fun q=>W.aO (aq TE l .len [29] [q]) fun r _=>W.ah (an TE .eql 3 r (.int .i64 0)) fun s=>aX s
(W.ah (ag TE l 60 (ptrTo i.n)) fun t=>W.bB (.func 36) [t,(.int .i64 0)] l fun u v w=>W.ah (cx u 0) fun y=>W.ah (cx u 1) fun z=>W.ah (an TE .eql 35 z (.int .i64 410)) fun A=>R [A] v (min (min (min (min m.n d) j) n) w))
(W.ah (ae TE 60 (ptrTo i.n) 0) fun B=>W.ah (ae TE 31 B 0) fun C=>W.ah (ag TE l 29 C) fun D=>W.ah (ae TE 60 (ptrTo i.n) 0) fun E=>W.ah (ae TE 31 E 0) fun F=>W.ah (ag TE l 29 F) fun G=>W.aO (aq TE l .len [29] [G]) fun H _=>W.bB (.func 14) [x1,H] l fun I J K=>(M.n l<=K)/\(W.ah (ai TE 29 D I) fun L=>W.ah (ag TE J 87 L) fun N=>W.bW (M.push J (.cells [(.int .i64 0),(.int .i64 0),(.int .i64 0),(.slice none 0 0),(.int .i64 0),(.int .i64 0)] 87 none)) fun O=>W.aO (aB TE O 87 (ptrTo J.n) N) fun P Q=>W.ah (ae TE 60 (ptrTo i.n) 0) fun S=>W.ah (ae TE 31 S 0) fun T=>W.ah (ag TE P 29 T) fun U=>W.ah (ae TE 60 (ptrTo i.n) 0) fun V=>W.ah (ae TE 31 V 0) fun X=>W.ah (ag TE P 29 X) fun Y=>W.aO (aq TE P .len [29] [Y]) fun Z _=>W.bB (.func 14) [x2,Z] P fun a0 a1 a2=>(M.n P<=a2)/\(W.ah (ai TE 29 U a0) fun a3=>W.ah (ag TE a1 87 a3) fun a4=>W.bW (M.push a1 (.cells [(.int .i64 0),(.int .i64 0),(.int .i64 0),(.slice none 0 0),(.int .i64 0),(.int .i64 0)] 87 none)) fun a5=>W.aO (aB TE a5 87 (ptrTo a1.n) a4) fun a6 a7=>W.ah (ag TE a6 60 (ptrTo i.n)) fun a8=>W.ah (ae TE 87 (ptrTo J.n) 0) fun a9=>W.ah (ag TE a6 3 a9) fun b0=>W.bB (.func 36) [a8,b0] a6 fun b1 b2 b3=>W.ah (cx b1 0) fun b4=>W.ah (cx b1 1) fun b5=>W.ah (ag TE b2 60 (ptrTo i.n)) fun b6=>W.ah (ae TE 87 (ptrTo a1.n) 0) fun b7=>W.ah (ag TE b2 3 b7) fun b8=>W.bB (.func 36) [b6,b8] b2 fun b9 c0 c1=>W.ah (cx b9 0) fun c2=>W.ah (cx b9 1) fun c3=>W.ah (ag TE c0 87 (ptrTo J.n)) fun c4=>W.bB (.func 46) [c4] c0 fun c5 c6 c7=>W.jn (fun c8=>W.ah (an TE .neq 35 b5 (.int .i64 0)) fun c9=>aX c9
(c8 [(.bool true)] c6 (min (min (min (min (min (min (min (min (min (min m.n d) j) n) K) Q) a2) a7) b3) c1) c7))
(W.ah (an TE .neq 35 c3 (.int .i64 0)) fun d0=>aX d0
(c8 [(.bool true)] c6 (min (min (min (min (min (min (min (min (min (min m.n d) j) n) K) Q) a2) a7) b3) c1) c7))
(W.aO (aq TE c6 .len [72] [b4]) fun d1 _=>W.aO (aq TE c6 .len [102] [c5]) fun d2 _=>W.ah (an TE .neq 3 d1 d2) fun d3=>aX d3
(c8 [(.bool true)] c6 (min (min (min (min (min (min (min (min (min (min m.n d) j) n) K) Q) a2) a7) b3) c1) c7))
(W.aO (aq TE c6 .len [72] [b4]) fun d4 _=>W.ah (an TE .lss 3 d4 (.int .i64 5)) fun d5=>c8 [d5] c6 (min (min (min (min (min (min (min (min (min (min m.n d) j) n) K) Q) a2) a7) b3) c1) c7)))))
(fun d6 d7 d8=>W.un d6 fun d9 g0=>aX d9
(R [(.bool false)] d7 d8)
(W.Lp (fun g1 g2 g3 g4=>W.un g2 fun g5 g6=>W.un g6 fun g7 g8=>W.un g8 fun g9 h0=>W.un h0 fun h1 h2=>W.un h2 fun h3 h4=>W.un h4 fun h5 h6=>W.aO (aq TE g3 .len [72] [b4]) fun h7 _=>W.ah (an TE .lss 3 h5 h7) fun h8=>aX h8
(W.jn (fun h9=>W.ah (ai TE 72 b4 h5) fun i0=>W.ah (ae TE 105 i0 0) fun i1=>W.ah (ag TE g3 3 i1) fun i2=>W.ah (ai TE 102 c5 h5) fun i3=>W.ah (ae TE 107 i3 1) fun i4=>W.ah (ag TE g3 3 i4) fun i5=>W.ah (an TE .neq 3 i2 i5) fun i6=>aX i6
(h9 [(.bool true)] g3 g4)
(W.ah (ai TE 72 b4 h5) fun i7=>W.ah (ae TE 105 i7 0) fun i8=>W.ah (ag TE g3 3 i8) fun i9=>W.ah (an TE .geq 3 i9 (.int .i64 0)) fun j0=>aX j0
(W.ah (ai TE 72 b4 h5) fun j1=>W.ah (ae TE 105 j1 1) fun j2=>W.ah (ag TE g3 3 j2) fun j3=>W.ah (an TE .lss 3 j3 (.int .i64 1)) fun j4=>aX j4
(h9 [(.bool true)] g3 g4)
(W.ah (ai TE 72 b4 h5) fun j5=>W.ah (ae TE 105 j5 2) fun j6=>W.ah (ag TE g3 3 j6) fun j7=>W.aO (aq TE g3 .len [72] [b4]) fun j8 _=>W.ah (an TE .sub 3 j8 (.int .i64 2)) fun j9=>W.ah (ai TE 72 b4 j9) fun k0=>W.ah (ae TE 105 k0 1) fun k1=>W.ah (ag TE g3 3 k1) fun k2=>W.ah (an TE .mul 3 j7 k2) fun k3=>W.ah (ag TE g3 87 (ptrTo J.n)) fun k4=>W.bB (.func 47) [k4] g3 fun k5 k6 k7=>(M.n g3<=k7)/\(W.ah (an TE .neq 3 k3 k5) fun k8=>h9 [k8] k6 (min g4 k7))))
(h9 [(.bool false)] g3 g4)))
(fun k9 l0 l1=>W.un k9 fun l2 l3=>aX l2
(R [(.bool false)] l0 l1)
(W.ah (ai TE 72 b4 h5) fun l4=>W.ah (ae TE 105 l4 0) fun l5=>W.ah (ag TE l0 3 l5) fun l6=>W.ah (an TE .geq 3 l6 (.int .i64 0)) fun l7=>aX l7
(W.ah (ai TE 72 b4 h5) fun l8=>W.ah (ae TE 105 l8 3) fun l9=>W.ah (ag TE l0 25 l9) fun n0=>W.aO (aq TE l0 .len [25] [n0]) fun n1 _=>W.ah (an TE .add 3 g7 n1) fun n2=>W.ah (ai TE 72 b4 h5) fun n3=>W.ah (ae TE 105 n3 3) fun n4=>W.ah (ag TE l0 25 n4) fun n5=>W.ah (ae TE 87 (ptrTo a1.n) 0) fun n6=>W.ah (ag TE l0 3 n6) fun n7=>W.bB (.func 48) [n5,n7] l0 fun n8 n9 o0=>W.ah (an TE .add 3 g9 n8) fun o1=>W.ah (ai TE 72 b4 h5) fun o2=>W.ah (ae TE 105 o2 4) fun o3=>W.ah (ag TE n9 25 o3) fun o4=>W.aO (aq TE n9 .len [25] [o4]) fun o5 _=>W.ah (an TE .add 3 h1 o5) fun o6=>W.ah (ai TE 72 b4 h5) fun o7=>W.ah (ae TE 105 o7 3) fun o8=>W.ah (ag TE n9 25 o8) fun o9=>W.ah (ae TE 87 (ptrTo a1.n) 0) fun p0=>W.ah (ag TE n9 3 p0) fun p1=>W.bB (.func 48) [o9,p1] n9 fun p2 p3 p4=>W.aO (aq TE p3 .max [3,3] [h3,p2]) fun p5 _=>W.ah (an TE .add 3 h5 (.int .i64 1)) fun p6=>g1 [g5,n2,o1,o6,p5,p6] p3 (min (min l1 o0) p4))
(W.ah (ai TE 72 b4 h5) fun p7=>W.ah (ae TE 105 p7 3) fun p8=>W.ah (ag TE l0 25 p8) fun p9=>W.ah (ae TE 87 (ptrTo a1.n) 0) fun q0=>W.ah (ag TE l0 3 q0) fun q1=>W.bB (.func 48) [p9,q1] l0 fun q2 q3 q4=>W.ah (an TE .add 3 g9 q2) fun q5=>W.ah (ai TE 72 b4 h5) fun q6=>W.ah (ae TE 105 q6 4) fun q7=>W.ah (ag TE q3 25 q7) fun q8=>W.aO (aq TE q3 .len [25] [q8]) fun q9 _=>W.ah (an TE .add 3 h1 q9) fun r0=>W.ah (ai TE 72 b4 h5) fun r1=>W.ah (ae TE 105 r1 3) fun r2=>W.ah (ag TE q3 25 r2) fun r3=>W.ah (ae TE 87 (ptrTo a1.n) 0) fun r4=>W.ah (ag TE q3 3 r4) fun r5=>W.bB (.func 48) [r3,r5] q3 fun r6 r7 r8=>W.aO (aq TE r7 .max [3,3] [h3,r6]) fun r9 _=>W.ah (an TE .add 3 h5 (.int .i64 1)) fun s0=>g1 [g5,g7,q5,r0,r9,s0] r7 (min (min l1 q4) r8)))))
(W.Lp (fun s1 s2 s3 s4=>W.un s2 fun s5 s6=>W.un s6 fun s7 s8=>W.aO (aq TE s3 .len [72] [c2]) fun s9 _=>W.ah (an TE .lss 3 s7 s9) fun t0=>aX t0
(W.ah (ai TE 72 c2 s7) fun t1=>W.ah (ae TE 105 t1 3) fun t2=>W.ah (ag TE s3 25 t2) fun t3=>W.ah (ae TE 87 (ptrTo J.n) 0) fun t4=>W.ah (ag TE s3 3 t4) fun t5=>W.bB (.func 48) [t3,t5] s3 fun t6 t7 t8=>W.aO (aq TE t7 .max [3,3] [s5,t6]) fun t9 _=>W.ah (an TE .add 3 s7 (.int .i64 1)) fun u0=>s1 [t9,u0] t7 (min s4 t8))
(W.ah (ae TE 60 (ptrTo i.n) 0) fun u1=>W.ah (ag TE s3 31 u1) fun u2=>W.bB (.func 49) [u2] s3 fun u3 u4 u5=>W.Lp (fun u6 u7 u8 u9=>W.un u7 fun v0 v1=>W.un v1 fun v2 v3=>W.un v3 fun v4 v5=>W.un v5 fun v6 v7=>W.aO (aq TE u8 .len [110] [u3]) fun v8 _=>W.ah (an TE .lss 3 v6 v8) fun v9=>aX v9
(W.ah (ai TE 110 u3 v6) fun w0=>W.ah (ag TE u8 115 w0) fun w1=>W.bW (M.push u8 (.cells [(.int .i64 0),(.int .i64 0),(.int .i64 0),(.int .i64 0),(.int .i64 0),(.int .i64 0),(.int .i64 0),(.int .i64 0)] 115 none)) fun w2=>W.aO (aB TE w2 115 (ptrTo u8.n) w1) fun w3 w4=>W.jn (fun w5=>W.ah (ae TE 115 (ptrTo u8.n) 0) fun w6=>W.ah (ag TE w3 3 w6) fun w7=>W.ah (ae TE 87 (ptrTo J.n) 0) fun w8=>W.ah (ag TE w3 3 w8) fun w9=>W.ah (an TE .eql 3 w7 w9) fun y0=>aX y0
(w5 [(.bool true)] w3 (min u9 w4))
(W.ah (ae TE 115 (ptrTo u8.n) 1) fun y1=>W.ah (ag TE w3 3 y1) fun y2=>W.ah (ae TE 87 (ptrTo J.n) 0) fun y3=>W.ah (ag TE w3 3 y3) fun y4=>W.ah (an TE .eql 3 y2 y4) fun y5=>w5 [y5] w3 (min u9 w4)))
(fun y6 y7 y8=>W.un y6 fun y9 z0=>aX y9
(W.ah (an TE .add 3 v0 (.int .i64 1)) fun z1=>W.ah (ae TE 115 (ptrTo u8.n) 0) fun z2=>W.ah (ag TE y7 3 z2) fun z3=>W.ah (ae TE 115 (ptrTo u8.n) 1) fun z4=>W.ah (ag TE y7 3 z4) fun z5=>W.ah (an TE .add 3 z3 z5) fun z6=>W.ah (ae TE 87 (ptrTo J.n) 0) fun z7=>W.ah (ag TE y7 3 z7) fun z8=>W.ah (an TE .sub 3 z6 z8) fun z9=>W.Lp (fun A0 A1 A2 A3=>W.un A1 fun A4 A5=>W.un A5 fun A6 A7=>W.aO (aq TE A2 .len [72] [b4]) fun A8 _=>W.ah (an TE .lss 3 A6 A8) fun A9=>aX A9
(W.ah (ai TE 72 b4 A6) fun B0=>W.ah (ae TE 105 B0 0) fun B1=>W.ah (ag TE A2 3 B1) fun B2=>W.ah (an TE .geq 3 B2 (.int .i64 0)) fun B3=>aX B3
(W.ah (ai TE 72 b4 A6) fun B4=>W.ah (ae TE 105 B4 3) fun B5=>W.ah (ag TE A2 25 B5) fun B6=>W.bB (.func 48) [B6,z9] A2 fun B7 B8 B9=>W.ah (an TE .add 3 A4 B7) fun C0=>W.ah (an TE .add 3 A6 (.int .i64 1)) fun C1=>A0 [C0,C1] B8 (min A3 B9))
(W.ah (an TE .add 3 A6 (.int .i64 1)) fun C2=>A0 [A4,C2] A2 A3))
(W.ah (ae TE 87 (ptrTo a1.n) 0) fun C3=>W.ah (ag TE A2 3 C3) fun C4=>W.ah (an TE .eql 3 z9 C4) fun C5=>aX C5
(W.ah (an TE .add 3 v2 (.int .i64 1)) fun C6=>W.ah (an TE .neq 3 A4 (.int .i64 1)) fun C7=>aX C7
(R [(.bool false)] A2 A3)
(W.ah (an TE .add 3 v6 (.int .i64 1)) fun C8=>u6 [z1,C6,v4,C8] A2 A3))
(W.ah (an TE .neq 3 A4 (.int .i64 1)) fun C9=>aX C9
(R [(.bool false)] A2 A3)
(W.ah (an TE .add 3 v6 (.int .i64 1)) fun D0=>u6 [z1,v2,v4,D0] A2 A3)))) [(.int .i64 0),(.int .i64 0)] y7 y8)
(W.ah (an TE .add 3 v6 (.int .i64 1)) fun D1=>u6 [v0,v2,v4,D1] y7 y8)))
(W.Lp (fun D2 D3 D4 D5=>W.un D3 fun D6 D7=>W.un D7 fun D8 D9=>W.un D9 fun E0 E1=>W.ah (ae TE 60 (ptrTo i.n) 1) fun E2=>W.ah (ag TE D4 58 E2) fun E3=>W.aO (aq TE D4 .len [58] [E3]) fun E4 _=>W.ah (an TE .lss 3 E0 E4) fun E5=>aX E5
(W.ah (ae TE 60 (ptrTo i.n) 1) fun E6=>W.ah (ag TE D4 58 E6) fun E7=>W.ah (ai TE 58 E7 E0) fun E8=>W.ah (ae TE 89 E8 1) fun E9=>W.ah (ag TE D4 3 E9) fun F0=>W.ah (ae TE 87 (ptrTo J.n) 0) fun F1=>W.ah (ag TE D4 3 F1) fun F2=>W.ah (an TE .eql 3 F0 F2) fun F3=>aX F3
(W.ah (an TE .add 3 D6 (.int .i64 1)) fun F4=>W.Lp (fun F5 F6 F7 F8=>W.un F6 fun F9 G0=>W.un G0 fun G1 G2=>W.aO (aq TE F7 .len [72] [b4]) fun G3 _=>W.ah (an TE .lss 3 G1 G3) fun G4=>aX G4
(W.jn (fun G5=>W.ah (ai TE 72 b4 G1) fun G6=>W.ah (ae TE 105 G6 4) fun G7=>W.ah (ag TE F7 25 G7) fun G8=>W.ah (ae TE 60 (ptrTo i.n) 1) fun G9=>W.ah (ag TE F7 58 G9) fun H0=>W.ah (ai TE 58 H0 E0) fun H1=>W.ah (ae TE 89 H1 0) fun H2=>W.ah (ag TE F7 3 H2) fun H3=>W.bB (.func 48) [G8,H3] F7 fun H4 H5 H6=>W.ah (an TE .gtr 3 H4 (.int .i64 0)) fun H7=>aX H7
(W.ah (ai TE 72 b4 G1) fun H8=>W.ah (ae TE 105 H8 0) fun H9=>W.ah (ag TE H5 3 H9) fun I0=>W.ah (ae TE 60 (ptrTo i.n) 1) fun I1=>W.ah (ag TE H5 58 I1) fun I2=>W.ah (ai TE 58 I2 E0) fun I3=>W.ah (ae TE 89 I3 2) fun I4=>W.ah (ag TE H5 3 I4) fun I5=>W.ah (an TE .eql 3 I0 I5) fun I6=>G5 [I6] H5 (min F8 H6))
(G5 [(.bool false)] H5 (min F8 H6)))
(fun I7 I8 I9=>W.un I7 fun J0 J1=>aX J0
(W.ah (an TE .add 3 F9 (.int .i64 1)) fun J2=>W.ah (an TE .add 3 G1 (.int .i64 1)) fun J3=>F5 [J2,J3] I8 I9)
(W.ah (an TE .add 3 G1 (.int .i64 1)) fun J4=>F5 [F9,J4] I8 I9)))
(W.ah (an TE .neq 3 F9 (.int .i64 1)) fun J5=>aX J5
(R [(.bool false)] F7 F8)
(W.ah (an TE .add 3 E0 (.int .i64 1)) fun J6=>D2 [F4,D8,J6] F7 F8))) [(.int .i64 0),(.int .i64 0)] D4 D5)
(W.ah (an TE .add 3 E0 (.int .i64 1)) fun J7=>D2 [D6,D8,J7] D4 D5))
(W.jn (fun J8=>W.ah (an TE .eql 3 g7 v0) fun J9=>aX J9
(W.ah (an TE .eql 3 h1 D6) fun K0=>aX K0
(W.ah (an TE .eql 3 h3 s5) fun K1=>aX K1
(W.ah (an TE .geq 3 g9 v2) fun K2=>aX K2
(W.ah (an TE .leq 3 g9 (.int .i64 1)) fun K3=>J8 [K3] D4 D5)
(J8 [(.bool false)] D4 D5))
(J8 [(.bool false)] D4 D5))
(J8 [(.bool false)] D4 D5))
(J8 [(.bool false)] D4 D5))
(fun K4 K5 K6=>W.un K4 fun K7 K8=>R [K7] K5 K6))) [(.int .i64 0),v4,(.int .i64 0)] u8 u9)) [(.int .i64 0),(.int .i64 0),g5,(.int .i64 0)] u4 (min s4 u5))) [(.int .i64 0),(.int .i64 0)] g3 g4)) [(.bool false),(.int .i64 0),(.int .i64 0),(.int .i64 0),(.int .i64 0),(.int .i64 0)] d7 d8))))))):=by kernel_rfl
end Go.Proofs.YtmdfgncoekfgdaaGreatDoor
namespace Go.Proofs.YtmdfgncoekfgdaaGreatDoor
open Go Go.D
variable {X:aF} {m:M}
def Sb(p q c:Pl):Bool:=decide ((q.x-p.x)*(c.y-p.y)=(q.y-p.y)*(c.x-p.x))
theorem fm{b o c:Nat}{s:Option _}(h:b≠c):dT (some (.v (.pointer (some ⟨b,o,s⟩)))) c:=h
theorem za{l:List Pl}{v:Value}(h:Sl m l v):nU (some (.v v)):=by
 obtain⟨a,c,rfl⟩:=h.form
 trivial
theorem pz{p:Pl}{b:Nat}{g:Option Nat}(h:m.get b=.cells p.c 98 g):ag TE m 3 (.pointer (some ⟨b,0+0,none⟩))=some (.int .i64 p.x)/\ag TE m 3 (.pointer (some ⟨b,0+1,none⟩))=some (.int .i64 p.y):=by
 constructor <;>(rw[bA,az h];rfl)
set_option maxRecDepth 100000 in
theorem CI(hX:dF X){U:Nat}{u:Un}{w:Value}{i:Nat}{p:Pl}(hU:m.get U=.cells (u.c w) 87 none)(hw:Sl m u.shape w)(hi:i < u.shape.length)(h8:u.shape.length<=8)(hs:∀q∈u.shape,q.sm 1000000)(hp:p.sm 1000000):
  C X (.func 100) [.int .i64 i,p.v,.pointer (some ⟨U,0,none⟩)] m m.n (.bool (Sb (dj u.shape i) (jK u.shape i) p)) m:=by
 refine Cl.flat (hX.no _ rfl) Oi rfl rfl ?_
 rw[Tv];dsimp only[aN]
 refine ar fun m1 hn1 hg1 hk1=>?_
 have hx1:Ext m m1:=⟨by omega,hk1⟩
 have hUl:=M.aI hU
 have g0:m1.get m.n=.cells p.c 98 none:=hg1
 have gU:=hx1.cells hU
 have hw1:=hw.aD hx1
 have ea:=fG hi
 have eb:=gZ hi
 obtain⟨b0,o0,bc,g0',cs,x0,hb0, -⟩:=hw1.iF cF (k:=.i64) ea
 obtain⟨a0,y0,z0⟩:=hw1.dK (k:=.i64) ea
 obtain⟨b1,o1,bc1,g1',cs1,x1,hb1, -⟩:=hw1.iF cF (k:=.i64) eb
 obtain⟨a1,y1,z1⟩:=hw1.dK (k:=.i64) eb
 obtain rfl:a0=.pointer (some ⟨b0,o0,none⟩):=Option.some.inj (y0.symm.trans x0)
 obtain rfl:a1=.pointer (some ⟨b1,o1,none⟩):=Option.some.inj (y1.symm.trans x1)
 have hl1:=M.aI hb1
 unfold ptrTo
 have em:(((i:Int)+1).tmod (u.shape.length:Int))=(((i+1)%u.shape.length:Nat):Int):=by
  rw[show((i:Int)+1)=((i+1:Nat):Int) by omega]
  exact(Int.ofNat_tmod _ _).symm
 rw[bd,aa,(iD gU).2.2.2.1,aa,y0,aa,z0,aa,aa,(iD gU).2.2.2.1,aa,aG,aa,wrap64 (by omega) (by omega),aa,(iD gU).2.2.2.1,aa,hw1.len cF,au,mZ (by omega),aa,em,y1,aa,z1,aa]
 refine ar fun m15 hn15 hg15 hk15=>?_
 refine ar fun m16 hn16 hg16 hk16=>?_
 refine av cG ((hk16 m1.n (by omega)).trans hg15) rfl rfl rfl fun m17 hn17 hg17 hk17=>?_
 refine⟨.inr ⟨fm (by omega),fm (by omega),za hw,fm (by omega),trivial⟩,?_⟩
 refine av cG ((hk17 m15.n (by omega)).trans hg16) rfl rfl rfl fun m19 hn19 hg19 hk19=>?_
 have ga:m19.get m1.n=.cells (dj u.shape i).c 98 none:=by rw[hk19 _ (by omega),hg17];rfl
 have gq:m19.get m15.n=.cells (jK u.shape i).c 98 none:=by rw[hg19];rfl
 have gp:m19.get m.n=.cells p.c 98 none:=by rw[hk19 _ (by omega),hk17 _ (by omega),hk16 _ (by omega),hk15 _ (by omega),g0]
 obtain⟨a1,a2,a3,a4⟩:=hs _ (List.mem_of_getElem? ea)
 obtain⟨b1,b2,b3,b4⟩:=hs _ (List.mem_of_getElem? eb)
 obtain⟨c1,c2,c3,c4⟩:=hp
 generalize dj u.shape i=A at*
 generalize jK u.shape i=B at*
 simp only[bC,bJ,aa,(pz ga).1,(pz ga).2,(pz gq).1,(pz gq).2,(pz gp).1,(pz gp).2,dc,dt,bI]
 have k1:=ji (a:=B.x-A.x) (b:=p.y-A.y) (N:=2000000) (by omega) (by omega) (by omega) (by omega)
 have k2:=ji (a:=B.y-A.y) (b:=p.x-A.x) (N:=2000000) (by omega) (by omega) (by omega) (by omega)
 rw[wrap64 (x:=B.x-A.x) (by omega) (by omega),wrap64 (x:=p.y-A.y) (by omega) (by omega),wrap64 (x:=B.y-A.y) (by omega) (by omega),wrap64 (x:=p.x-A.x) (by omega) (by omega),wrap64 (x:=(B.x-A.x)*(p.y-A.y)) (by omega) (by omega),wrap64 (x:=(B.y-A.y)*(p.x-A.x)) (by omega) (by omega)]
 exact⟨rfl,by omega⟩
end Go.Proofs.YtmdfgncoekfgdaaGreatDoor
namespace Go.Proofs.YtmdfgncoekfgdaaGreatDoor
open Go Go.D
variable {X:aF} {m:M}
theorem Hi{α:Type}[aY α]{T:TypeId}(hT:BH TE T α)(hty:aY.jN α=[]){n1:Nat}{acc:List α}{r v:Value}{cs:List Value}{x:α}(hw:Ow n1 m acc r)(hn:n1<=m.n)(hal:acc.length < 1000000)
  (hbs:aE TE m T 1 [(0,v)]=some (.slice (some ⟨m.n,0,none⟩) 1 1,m.push (.cells cs (aY.ty α) none))) (hr:∀m',aY.rep m' x cs) {P:Value->M->Prop}
  (hP:∀r' m2,Ow n1 m2 (acc++ [x]) r'->m.n<=m2.n->(∀c,c < n1->m2.get c=m.get c)->(∀c,c < m.n->(∀cs g,m.get c≠.cells cs (aY.ty α) g)->m2.get c=m.get c)->n1<=m2.low->P r' m2):
  aO (aE TE m T 1 [(0,v)]) fun a m1=>aO (aq TE (M.wl m1 (M.n m1)) .append [T,T] [r,a]) fun r' m2=>P r' m2:=by
 rw[hbs,au]
 obtain⟨m1,hm1⟩:∃y,y=m.push (.cells cs (aY.ty α) none):=⟨_,rfl⟩
 rw[<-hm1]
 have hx1:Ext m m1:=by rw[hm1];exact Ext.refl.push
 have hn1:m1.n=m.n+1:=by rw[hm1];rfl
 have hg1:m1.get m.n=.cells cs (aY.ty α) none:=by rw[hm1];exact M.aV
 have hw1:=hw.aD hx1
 obtain⟨r',m2,e1,h1,h2,h3,h4⟩:=hw1.append hT (by rw[hty];simp) (so hg1 (hr _)) (by omega) (by simp;omega)
 rw[e1,au]
 refine hP r' m2 h1 (by have:=h2.n;omega) (fun c hc=>by rw[h2.get c hc,hx1.get c (by omega)]) (fun c hc hne=>?_) h3
 rw[gA e1 (by omega) fun ad n k e he=>?_,hx1.get c hc]
 obtain⟨cs',g',hg',_⟩:=fy hw e
 rw[<-he]at hg'
 exact hne _ _ hg'
def jz(ms:List Mk)(id side:Int):List Int:=(ms.filter fun y=>decide (y.un=id) && decide (y.side=side)).map (·.id)
theorem M4{x:LW}:aE TE m 72 1 [(0,x.v)]=some (.slice (some ⟨m.n,0,none⟩) 1 1,m.push (.cells x.c 105 none)):=by kernel_rfl
abbrev CE(side size depth:Int)(tv mv:Value):List Value:=[.int .i64 side,.int .i64 size,.int .i64 depth,tv,mv]
theorem PQ{α:Type}[aY α]{n1:Nat}{l:List α}{r:Value}(h:Ow n1 m l r){b:Nat}{cs:List Value}{t:TypeId}(hb:m.get b=.cells cs t none):∀a n k,r=.slice (some a) n k->a.block≠b:=by
 rintro a n k rfl e
 rcases h with⟨h, -⟩ |⟨b',cs',h1,h2,h3,h4,_⟩
 ·cases h
 ·cases h1
  rw[<-e,h4]at hb
  cases hb
set_option maxRecDepth 100000 in
theorem sV{P29:List Value->M->Nat->Prop}{Fb L n2 k lo0 B:Nat}{vm out tv:Value}{ms:List Mk}{acc:List LW}{id fid side size depth:Int}{ts:List Int}{mm:M}
  (hm:Sl mm ms vm) (hF:mm.get Fb=.cells [.int .i64 fid,.int .i64 side] 107 none) (hL:mm.get L=.cells (CE side size depth tv (.slice none 0 0)) 105 none) (hts:Sl mm ts tv) (hacc:Ow n2 mm acc out) (hla:De mm acc out)
  (h20:ms.length<=20) (hal:acc.length < 1000) (n2L:n2<=L) (hk:k < 1000) (hlo:B<=lo0) (hB:B<=n2)
  (hP:∀out' m' lo' x,x.l=Lf.mk side size depth ts (jz ms id side)->Ow n2 m' (acc++ [x]) out'->De m' (acc++ [x]) out'->mm.n<=m'.n->(∀c,c < n2->m'.get c=mm.get c)->B<=lo'->P29 [out',.int .i64 ((k+1:Nat):Int)] m' lo'):
  Lp (fun P196 vs197 m198 lo199=>un vs197 fun v200 r201=>(ah (an TE .lss 3 v200 (.int .i64 (ms.length:Nat))) fun v202=>(aX v202
(ah (ai TE 58 vm v200) fun v203=>(ah (ag TE m198 89 v203) fun v204=>(bW (M.push m198 (.cells [(.int .i64 0),(.int .i64 0),(.int .i64 0),(.int .i64 0),(.bool false)] 89 none)) fun m205=>(aO (aB TE m205 89 (ptrTo (M.n m198)) v204) fun m206 b207=>(jn (fun R208=>(ah (ae TE 89 (ptrTo (M.n m198)) 1) fun v212=>(ah (ag TE m206 3 v212) fun v213=>(ah (an TE .eql 3 v213 (.int .i64 id)) fun v214=>(aX v214
(ah (ae TE 89 (ptrTo (M.n m198)) 2) fun v215=>(ah (ag TE m206 3 v215) fun v216=>(ah (ae TE 107 ((.pointer (some ⟨Fb,0,none⟩))) 1) fun v217=>(ah (ag TE m206 3 v217) fun v218=>(ah (an TE .eql 3 v216 v218) fun v219=>(R208 [v219] m206 (min lo199 b207)))))))
(R208 [(.bool false)] m206 (min lo199 b207)))))))
(fun vs209 m210 lo211=>un vs209 fun v220 r221=>(aX v220
(ah (ae TE 105 ((.pointer (some ⟨L,0,none⟩))) 4) fun v222=>(ah (ag TE m210 25 v222) fun v223=>(ah (ae TE 89 (ptrTo (M.n m198)) 0) fun v224=>(ah (ag TE m210 3 v224) fun v225=>(aO (aE TE m210 25 1 [(0,v225)]) fun v226 m227=>(aO (aq TE (M.wl m227 (M.n m227)) .append [25,25] [v223,v226]) fun v228 m229=>(ah (ae TE 105 ((.pointer (some ⟨L,0,none⟩))) 4) fun v230=>(aO (aB TE m229 25 v230 v228) fun m231 b232=>(ah (an TE .add 3 v200 (.int .i64 1)) fun v233=>(P196 [v233] m231 (min (min lo211 (M.low m229)) b232)))))))))))
(ah (an TE .add 3 v200 (.int .i64 1)) fun v234=>(P196 [v234] m210 lo211)))))))))
(ah (ag TE m198 105 ((.pointer (some ⟨L,0,none⟩)))) fun v235=>(aO (aE TE m198 72 1 [(0,v235)]) fun v236 m237=>(aO (aq TE (M.wl m237 (M.n m237)) .append [72,72] [out,v236]) fun v238 m239=>(ah (an TE .add 3 (.int .i64 (k:Nat)) (.int .i64 1)) fun v240=>(P29 [v238,v240] m239 (min lo199 (M.low m239)))))))))) [(.int .i64 0)] mm lo0:=by
 have hLn:=M.aI hL
 have hFn:=M.aI hF
 have hFL:Fb≠L:=fun e=>by rw[e,hL]at hF;cases hF
 refine Lp.intro (γ:=Nat) (fun i=>ms.length-i) (fun i vs m' lo=>vs=[.int .i64 i]/\i<=ms.length/\mm.n<=m'.n/\(∀c,c < mm.n->c≠L->m'.get c=mm.get c)/\B<=lo/\∃mv,m'.get L=.cells (CE side size depth tv mv) 105 none/\Ow mm.n m' (jz (ms.take i) id side) mv) 0
  ⟨rfl,Nat.zero_le _,Nat.le_refl _,fun _ _ _=>rfl,hlo,_,hL,Ow.nil⟩ ?_
 rintro i vs m' lo ⟨rfl,hi,hn',hk',hlo',mv,hL',hmv⟩
 have keepS:∀{α:Type} [aY α] {l:List α} {v:Value},(∀t∈aY.ty α::aY.jN α,t≠105)->Sl mm l v->Sl m' l v:=fun ht hs=>hs.bw fun b c t g hb hm'=>by
  rw[hk' b (M.aI hb) (fun e=>by rw[e,hL]at hb;cases hb;exact ht _ hm' rfl),hb]
 have hm':Sl m' ms vm:=keepS (by intro t ht;rw[List.mem_singleton.1 ht];decide) hm
 rw[aA,aM,aa,aj]
 refine ak (fun hlt=>?_) (fun hge=>?_)
 ·have hlt:i < ms.length:=by
   have:=of_decide_eq_true hlt
   omega
  obtain⟨y,hyi⟩:∃a,ms[i]?=some a:=⟨_,List.getElem?_eq_getElem hlt⟩
  have htk:ms.take (i+1)=ms.take i++ [y]:=by rw[List.take_add_one,hyi];rfl
  obtain⟨q,e1,e2⟩:=hm'.CZ (k:=.i64) hyi
  rw[e1,aa,e2,aa]
  refine ar fun m205 hn205 hg205 hk205=>?_
  unfold ptrTo
  refine av FT hg205 rfl rfl rfl fun m206 hn206 hg206 hk206=>?_
  have hx206:Ext m' m206:=⟨by omega,fun b hb=>by rw[hk206 b (by omega),hk205 b hb]⟩
  have gy:m206.get m'.n=.cells y.c 89 none:=hg206
  have gF:m206.get Fb=.cells [.int .i64 fid,.int .i64 side] 107 none:=by rw[hx206.get _ (by omega),hk' _ hFn hFL,hF]
  have gL:=hx206.cells hL'
  refine cq (fun vs m2 eZ=>vs=[.bool (decide (y.un=id) && decide (y.side=side))]/\m206=m2/\B<=eZ) (fun R hR=>?_) ?_
  ·rw[gj,aa,(Cr gy).2.1,aa,bI,aa,aj]
   refine ak (fun h=>?_) (fun h=>?_)
   ·rw[gh,aa,(Cr gy).2.2.1,aa,cT,aa,show ag TE m206 3 (.pointer (some ⟨Fb,0+1,none⟩))=some (.int .i64 side) by rw[bA,az gF];rfl,aa,bI,aa]
    exact hR _ _ _ ⟨by rw[h,Bool.true_and],rfl,by omega⟩
   ·exact hR _ _ _ ⟨by rw[h,Bool.false_and],rfl,by omega⟩
  rintro _ _ eZ ⟨rfl,rfl,hlo2⟩
  rw[aA,aj]
  refine ak (fun h=>?_) (fun h=>?_)
  ·simp only[iM,dg,aa,(Cr gy).1]
   rw[show ag TE m206 25 (.pointer (some ⟨L,0+4,none⟩))=some mv by rw[jU,az gL];rfl,aa,oZ,au]
   obtain⟨m227,hm227⟩:∃x,x=m206.push (.cells [.int .i64 y.id] 3 none):=⟨_,rfl⟩
   rw[<-hm227]
   have hx227:Ext m' m227:=by rw[hm227];exact hx206.push
   have hn227:m227.n=m206.n+1:=by rw[hm227];rfl
   have hg227:m227.get m206.n=.cells [.int .i64 y.id] 3 none:=by rw[hm227];exact M.aV
   obtain⟨r2,m229,m231,a1,a2,a3,a4,a5,a6,a7,a8⟩:=yO (T:=25) rV rfl xT rfl (m:=m') (m1:=m227) (x:=y.id) hL' (o:=0+4) rfl hLn hn' hmv hx227 (jw hg227) (by
    unfold jz
    rw[List.length_map]
    have:=List.length_filter_le (fun y:Mk=>decide (y.un=id) && decide (y.side=side)) (ms.take i)
    rw[List.length_take]at this;omega)
   rw[a1,au,a2,au,aG,aa,wrap64 (by omega) (by omega)]
   refine⟨i+1,by omega,rfl,by omega,by omega,fun c hc hne=>by rw[a7 c hc hne,hk' c hc hne],by omega,r2,a4,?_⟩
   unfold jz at a5⊢
   rw[htk,List.filter_append,List.map_append]
   simp only[List.filter_cons,h,if_true,List.filter_nil,List.map_cons,List.map_nil]
   exact a5
  ·rw[aG,aa,wrap64 (by omega) (by omega)]
   refine⟨i+1,by omega,rfl,by omega,by omega,fun c hc hne=>by rw[hx206.get c (by omega),hk' c hc hne],hlo2,mv,gL,?_⟩
   unfold jz at hmv⊢
   rw[htk,List.filter_append,List.map_append]
   simp only[List.filter_cons,h,Bool.false_eq_true,if_false,List.filter_nil,List.map_nil,List.append_nil]
   exact hmv.aD hx206
 ·have hi':i=ms.length:=by
   have:=of_decide_eq_false hge
   omega
  subst hi'
  rw[List.take_length]at hmv
  have htv:Sl m' ts tv:=keepS (by intro t ht;rw[List.mem_singleton.1 ht];decide) hts
  have hout:Ow n2 m' acc out:=Hs rfl hacc fun a n k e=>by
   obtain⟨cs,g,hb, -⟩:=fy hacc e
   exact hk' _ (M.aI hb) (PQ hacc hL a n k e)
  obtain⟨x,hx⟩:∃x:LW,x=⟨⟨side,size,depth,ts,jz ms id side⟩,tv,mv⟩:=⟨_,rfl⟩
  have gLx:m'.get L=.cells x.c 105 none:=by rw[hx];exact hL'
  rw[show ag TE m' 105 (.pointer (some ⟨L,0,none⟩))=some x.v by rw[HP,aH (o:=0) (n:=5) gLx (by show 0+5<=5;exact Nat.le_refl _)];rfl,aa]
  have one1:one x.tv=true:=by rw[hx];exact htv.one
  have one2:one x.mv=true:=by rw[hx];exact hmv.sl.one
  refine Hi (x:=x) OO rfl hout (by omega) (by omega) M4 (fun _=>⟨rfl,one1,one2⟩) fun out' m2 w2 n2' k2 k2' l2=>?_
  rw[aG,aa,wrap64 (by omega) (by omega)]
  have keepI:∀{l:List Int} {v:Value},Sl m' l v->Sl m2 l v:=fun hs=>hs.bw fun b c t g hb ht=>by
   have ht:t=3:=List.mem_singleton.1 ht
   subst ht
   rw[k2' b (M.aI hb) (fun cs' g' e=>by rw[hb]at e;cases e),hb]
  have keepI':∀{l:List Int} {v:Value},Sl mm l v->Sl m2 l v:=fun hs=>keepI (keepS (by intro t ht;rw[List.mem_singleton.1 ht];decide) hs)
  refine hP out' m2 _ x (by rw[hx]) w2 ⟨w2.sl,fun z hz=>?_,fun z hz=>?_⟩ (by omega) (fun c hc=>by rw[k2 c hc,hk' c (by omega) (by omega)]) (by omega)
  ·rcases List.mem_append.1 hz with hz |hz
   ·exact keepI' (hla.ts z hz)
   ·rw[List.mem_singleton.1 hz,hx];exact keepI htv
  ·rcases List.mem_append.1 hz with hz |hz
   ·exact keepI' (hla.ms z hz)
   ·rw[List.mem_singleton.1 hz,hx];exact keepI hmv.sl
end Go.Proofs.YtmdfgncoekfgdaaGreatDoor
namespace Go.Proofs.YtmdfgncoekfgdaaGreatDoor
open Go Go.D
variable {X:aF} {m:M}
theorem _root_.Go.D.Sl.Mq{l:List Ct}{v:Value}(h:Sl m l v){i:Nat}{x:Ct}(hi:l[i]?=some x){k:IntKind}:∃a,ai TE 110 v (.int k i)=some a/\ag TE m 115 a=some x.v:=by
 obtain⟨a,cs,h1,h2,h3⟩:=h.index Av (k:=k) hi
 have h3:cs=x.c':=h3
 subst h3
 exact⟨a,h1,h2⟩
theorem Y8{b:Nat}{x:Ct}{g:Option Nat}(h:m.get b=.cells x.c' 115 g):
  ag TE m 3 (.pointer (some ⟨b,0+0,none⟩))=some (.int .i64 x.a)/\ag TE m 3 (.pointer (some ⟨b,0+1,none⟩))=some (.int .i64 x.b)/\
  ag TE m 98 (.pointer (some ⟨b,0+2+0,none⟩))=some x.p.v/\ag TE m 98 (.pointer (some ⟨b,0+2+2,none⟩))=some x.q.v:=by
 refine⟨?_,?_,?_,?_⟩
 ·rw[bA,az h];rfl
 ·rw[bA,az h];rfl
 ·rw[rO,aH (n:=2) h (by show 0+2+0+2<=8;decide)];rfl
 ·rw[rO,aH (n:=2) h (by show 0+2+2+2<=8;decide)];rfl
theorem qR{α β:Type}{p:α->Bool}{f:α->β}{l:List α}{y:α}:((l++ [y]).filter p).map f=(l.filter p).map f++(if p y=true then [f y]else []):=by
 rw[List.filter_append,List.map_append]
 by_cases h:p y=true <;>simp[h]
set_option maxRecDepth 100000 in
theorem DW(hX:dF X){Q:M->Nat->Prop}{Fb L U lo0 B i0:Nat}{cv w:Value}{cts:List Ct}{u:Un}{fid size depth:Int}{mm:M}
  (hcs:Sl mm cts cv) (hF:mm.get Fb=.cells [.int .i64 fid,.int .i64 (i0:Nat)] 107 none) (hU:mm.get U=.cells (u.c w) 87 none) (hw:Sl mm u.shape w) (hL:mm.get L=.cells (CE (i0:Nat) size depth (.slice none 0 0) (.slice none 0 0)) 105 none)
  (hi0:i0 < u.shape.length) (h8:u.shape.length<=8) (hsm:∀q∈u.shape,q.sm 1000000) (hcp:∀c∈cts,c.p.sm 1000000/\c.q.sm 1000000) (hid: -1000<=u.id/\u.id<=1000) (hca:∀c∈cts,(-1000<=c.a/\c.a<=1000)/\ -1000<=c.b/\c.b<=1000) (hlc:cts.length<=1000) (hB:B<=L) (hlo:B<=lo0)
  (hQ:∀m' lo' tv,mm.n<=m'.n->(∀c,c < mm.n->c≠L->m'.get c=mm.get c)->B<=lo'->m'.get L=.cells (CE (i0:Nat) size depth tv (.slice none 0 0)) 105 none->Ow mm.n m' (fU cts u i0) tv->Q m' lo'):
  Lp (fun P115 vs116 m117 lo118=>un vs116 fun v119 r120=>(ah (an TE .lss 3 v119 (.int .i64 (cts.length:Nat))) fun v121=>(aX v121
(ah (ai TE 110 cv v119) fun v122=>(ah (ag TE m117 115 v122) fun v123=>(bW (M.push m117 (.cells [(.int .i64 0),(.int .i64 0),(.int .i64 0),(.int .i64 0),(.int .i64 0),(.int .i64 0),(.int .i64 0),(.int .i64 0)] 115 none)) fun m124=>(aO (aB TE m124 115 (ptrTo (M.n m117)) v123) fun m125 b126=>(jn (fun R127=>(ah (ae TE 115 (ptrTo (M.n m117)) 0) fun v131=>(ah (ag TE m125 3 v131) fun v132=>(ah (an TE .eql 3 v132 (.int .i64 u.id)) fun v133=>(aX v133
(ah (ae TE 107 ((.pointer (some ⟨Fb,0,none⟩))) 1) fun v134=>(ah (ag TE m125 3 v134) fun v135=>(ah (ae TE 115 (ptrTo (M.n m117)) 2) fun v136=>(ah (ae TE 113 v136 0) fun v137=>(ah (ag TE m125 98 v137) fun v138=>(bB TE X (.func 100) [v135,v138,((.pointer (some ⟨U,0,none⟩)))] m125 fun v139 m140 b141=>(aX v139
(ah (ae TE 107 ((.pointer (some ⟨Fb,0,none⟩))) 1) fun v142=>(ah (ag TE m140 3 v142) fun v143=>(ah (ae TE 115 (ptrTo (M.n m117)) 2) fun v144=>(ah (ae TE 113 v144 1) fun v145=>(ah (ag TE m140 98 v145) fun v146=>(bB TE X (.func 100) [v143,v146,((.pointer (some ⟨U,0,none⟩)))] m140 fun v147 m148 b149=>(R127 [v147] m148 (min (min (min lo118 b126) b141) b149))))))))
(R127 [(.bool false)] m140 (min (min lo118 b126) b141)))))))))
(ah (ae TE 115 (ptrTo (M.n m117)) 1) fun v150=>(ah (ag TE m125 3 v150) fun v151=>(ah (an TE .eql 3 v151 (.int .i64 u.id)) fun v152=>(aX v152
(ah (ae TE 107 ((.pointer (some ⟨Fb,0,none⟩))) 1) fun v153=>(ah (ag TE m125 3 v153) fun v154=>(ah (ae TE 115 (ptrTo (M.n m117)) 2) fun v155=>(ah (ae TE 113 v155 0) fun v156=>(ah (ag TE m125 98 v156) fun v157=>(bB TE X (.func 100) [v154,v157,((.pointer (some ⟨U,0,none⟩)))] m125 fun v158 m159 b160=>(aX v158
(ah (ae TE 107 ((.pointer (some ⟨Fb,0,none⟩))) 1) fun v161=>(ah (ag TE m159 3 v161) fun v162=>(ah (ae TE 115 (ptrTo (M.n m117)) 2) fun v163=>(ah (ae TE 113 v163 1) fun v164=>(ah (ag TE m159 98 v164) fun v165=>(bB TE X (.func 100) [v162,v165,((.pointer (some ⟨U,0,none⟩)))] m159 fun v166 m167 b168=>(R127 [v166] m167 (min (min (min lo118 b126) b160) b168))))))))
(R127 [(.bool false)] m159 (min (min lo118 b126) b160)))))))))
(R127 [(.bool false)] m125 (min lo118 b126)))))))))))
(fun vs128 m129 lo130=>un vs128 fun v169 r170=>(aX v169
(ah (ae TE 105 ((.pointer (some ⟨L,0,none⟩))) 3) fun v171=>(ah (ag TE m129 25 v171) fun v172=>(ah (ae TE 115 (ptrTo (M.n m117)) 0) fun v173=>(ah (ag TE m129 3 v173) fun v174=>(ah (ae TE 115 (ptrTo (M.n m117)) 1) fun v175=>(ah (ag TE m129 3 v175) fun v176=>(ah (an TE .add 3 v174 v176) fun v177=>(ah (an TE .sub 3 v177 (.int .i64 u.id)) fun v178=>(aO (aE TE m129 25 1 [(0,v178)]) fun v179 m180=>(aO (aq TE (M.wl m180 (M.n m180)) .append [25,25] [v172,v179]) fun v181 m182=>(ah (ae TE 105 ((.pointer (some ⟨L,0,none⟩))) 3) fun v183=>(aO (aB TE m182 25 v183 v181) fun m184 b185=>(ah (an TE .add 3 v119 (.int .i64 1)) fun v186=>(P115 [v186] m184 (min (min lo130 (M.low m182)) b185)))))))))))))))
(ah (an TE .add 3 v119 (.int .i64 1)) fun v187=>(P115 [v187] m129 lo130)))))))))
(Q m117 lo118)))) [(.int .i64 0)] mm lo0:=by
 have hLn:=M.aI hL
 have hFn:=M.aI hF
 have hUn:=M.aI hU
 have hFL:Fb≠L:=fun e=>by rw[e,hL]at hF;cases hF
 have hUL:U≠L:=fun e=>by rw[e,hL]at hU;exact absurd (Ob.cells.inj hU).2.1 (by decide)
 refine Lp.intro (γ:=Nat) (fun i=>cts.length-i) (fun i vs m' lo=>vs=[.int .i64 i]/\i<=cts.length/\mm.n<=m'.n/\(∀c,c < mm.n->c≠L->m'.get c=mm.get c)/\B<=lo/\∃tv,m'.get L=.cells (CE (i0:Nat) size depth tv (.slice none 0 0)) 105 none/\Ow mm.n m' (fU (cts.take i) u i0) tv) 0
  ⟨rfl,Nat.zero_le _,Nat.le_refl _,fun _ _ _=>rfl,hlo,_,hL,Ow.nil⟩ ?_
 rintro i vs m' lo ⟨rfl,hi,hn',hk',hlo',tv,hL',htv⟩
 have keepS:∀{α:Type} [aY α] {l:List α} {v:Value},(∀t∈aY.ty α::aY.jN α,t≠105)->Sl mm l v->Sl m' l v:=fun ht hs=>hs.bw fun b c t g hb hm'=>by
  rw[hk' b (M.aI hb) (fun e=>by rw[e,hL]at hb;exact ht _ hm' (Ob.cells.inj hb).2.1.symm),hb]
 have hcs':Sl m' cts cv:=keepS (by intro t ht;rw[List.mem_singleton.1 ht];decide) hcs
 have hw':Sl m' u.shape w:=keepS (by intro t ht;rw[List.mem_singleton.1 ht];decide) hw
 rw[aA,aM,aa,aj]
 refine ak (fun hlt=>?_) (fun hge=>?_)
 ·have hlt:i < cts.length:=by
   have:=of_decide_eq_true hlt
   omega
  obtain⟨y,hyi⟩:∃a,cts[i]?=some a:=⟨_,List.getElem?_eq_getElem hlt⟩
  have hym:=List.mem_of_getElem? hyi
  obtain⟨⟨ya1,ya2⟩,O5,Rb⟩:=hca y hym
  obtain⟨yp,yq⟩:=hcp y hym
  have htk:cts.take (i+1)=cts.take i++ [y]:=by rw[List.take_add_one,hyi];rfl
  obtain⟨q,e1,e2⟩:=hcs'.Mq (k:=.i64) hyi
  rw[e1,aa,e2,aa]
  refine ar fun m124 hn124 hg124 hk124=>?_
  unfold ptrTo
  refine av se hg124 rfl rfl rfl fun m125 hn125 hg125 hk125=>?_
  have hx125:Ext m' m125:=⟨by omega,fun b hb=>by rw[hk125 b (by omega),hk124 b hb]⟩
  have gy:m125.get m'.n=.cells y.c' 115 none:=hg125
  obtain⟨f1,f2,f3,f4⟩:=Y8 gy
  have gF:m125.get Fb=.cells [.int .i64 fid,.int .i64 (i0:Nat)] 107 none:=by rw[hx125.get _ (by omega),hk' _ hFn hFL,hF]
  have ldF:ag TE m125 3 (.pointer (some ⟨Fb,0+1,none⟩))=some (.int .i64 (i0:Nat)):=by rw[bA,az gF];rfl
  have gU:m125.get U=.cells (u.c w) 87 none:=by rw[hx125.get _ (by omega),hk' _ hUn hUL,hU]
  have gL:=hx125.cells hL'
  have onp:=CI (m:=m125) hX gU (hw'.aD hx125) hi0 h8 hsm yp
  have onq:=CI (m:=m125) hX gU (hw'.aD hx125) hi0 h8 hsm yq
  have hst:fU (cts.take (i+1)) u i0=fU (cts.take i) u i0++(if(fx u.id y && nR u.shape i0 y)=true then [y.a+y.b-u.id]else []):=by
   unfold fU
   rw[htk,qR]
  refine cq (fun vs m2 eZ=>vs=[.bool (fx u.id y && nR u.shape i0 y)]/\m125=m2/\B<=eZ) (fun R hR=>?_) ?_
  ·have hsd:nR u.shape i0 y=(Sb (dj u.shape i0) (jK u.shape i0) y.p && Sb (dj u.shape i0) (jK u.shape i0) y.q):=rfl
   simp only[iL,iK,rr,ry,ru,cT,aa,f1,f2,f3,f4,ldF,bI]
   rw[aj]
   refine ak (fun ha=>?_) (fun ha=>?_)
   ·have hown:fx u.id y=true:=by unfold fx;rw[ha];rfl
    refine aC onp ?_
    rw[aj]
    refine ak (fun hp=>?_) (fun hp=>?_)
    ·simp only[ldF,f4,aa]
     refine aC onq ?_
     exact hR _ _ _ ⟨by rw[hown,hsd,hp,Bool.true_and,Bool.true_and],rfl,by omega⟩
    ·exact hR _ _ _ ⟨by rw[hown,hsd,hp];rfl,rfl,by omega⟩
   ·rw[aj]
    refine ak (fun hb=>?_) (fun hb=>?_)
    ·have hown:fx u.id y=true:=by unfold fx;rw[hb,Bool.or_true]
     refine aC onp ?_
     rw[aj]
     refine ak (fun hp=>?_) (fun hp=>?_)
     ·simp only[ldF,f4,aa]
      refine aC onq ?_
      exact hR _ _ _ ⟨by rw[hown,hsd,hp,Bool.true_and,Bool.true_and],rfl,by omega⟩
     ·exact hR _ _ _ ⟨by rw[hown,hsd,hp];rfl,rfl,by omega⟩
    ·have hown:fx u.id y=false:=by unfold fx;rw[ha,hb];rfl
     exact hR _ _ _ ⟨by rw[hown,Bool.false_and],rfl,by omega⟩
  rintro _ _ eZ ⟨rfl,rfl,hlo2⟩
  rw[aA,aj]
  refine ak (fun h=>?_) (fun h=>?_)
  ·simp only[dn,iL,iK,aa,f1,f2,aG,dc]
   rw[show ag TE m125 25 (.pointer (some ⟨L,0+3,none⟩))=some tv by rw[jU,az gL];rfl,aa,wrap64 (x:=y.a+y.b) (by omega) (by omega),wrap64 (x:=y.a+y.b-u.id) (by omega) (by omega),oZ,au]
   obtain⟨m227,hm227⟩:∃x,x=m125.push (.cells [.int .i64 (y.a+y.b-u.id)] 3 none):=⟨_,rfl⟩
   rw[<-hm227]
   have hx227:Ext m' m227:=by rw[hm227];exact hx125.push
   have hn227:m227.n=m125.n+1:=by rw[hm227];rfl
   have hg227:m227.get m125.n=.cells [.int .i64 (y.a+y.b-u.id)] 3 none:=by rw[hm227];exact M.aV
   obtain⟨r2,m229,m231,a1,a2,a3,a4,a5,a6,a7,a8⟩:=yO (T:=25) rV rfl xT rfl (m:=m') (m1:=m227) (x:=y.a+y.b-u.id) hL' (o:=0+3) rfl hLn hn' htv hx227 (jw hg227) (by
    unfold fU
    rw[List.length_map]
    have:=List.length_filter_le (fun c=>fx u.id c && nR u.shape i0 c) (cts.take i)
    rw[List.length_take]at this;omega)
   rw[a1,au,a2,au,wrap64 (by omega) (by omega)]
   refine⟨i+1,by omega,rfl,by omega,by omega,fun c hc hne=>by rw[a7 c hc hne,hk' c hc hne],by omega,r2,a4,?_⟩
   rw[hst,if_pos h]
   exact a5
  ·rw[aG,aa,wrap64 (by omega) (by omega)]
   refine⟨i+1,by omega,rfl,by omega,by omega,fun c hc hne=>by rw[hx125.get c (by omega),hk' c hc hne],hlo2,tv,gL,?_⟩
   rw[hst,if_neg (by rw[h];decide),List.append_nil]
   exact htv.aD hx125
 ·have hi':i=cts.length:=by
   have:=of_decide_eq_false hge
   omega
  subst hi'
  rw[List.take_length]at htv
  exact hQ m' lo tv hn' hk' hlo' hL' htv
def Bb(us:List Un)(u:Un)(side:Int):List Int:=(us.filter fun v=>(decide (side= -1) && decide (v.back=u.front) ||decide (side= -2) && decide (v.front=u.back)) && cH u.shape v.shape).map (·.id)
end Go.Proofs.YtmdfgncoekfgdaaGreatDoor
namespace Go.Proofs.YtmdfgncoekfgdaaGreatDoor
open Go Go.D
variable {X:aF} {m:M}
theorem vI{l:List UW}{i:Nat}{y:UW}(h:l[i]?=some y):cd (l.take (i+1))=cd (l.take i)++ [y.u]:=by
 unfold cd
 rw[List.take_add_one,h,List.map_append];rfl
set_option maxRecDepth 100000 in
theorem Lq(hX:dF X){Q:M->Nat->Prop}{Fb L U lo0 B:Nat}{rv w:Value}{l:List UW}{u:Un}{fid side size depth:Int}{mm:M}
  (hFab:eF mm l rv) (hF:mm.get Fb=.cells [.int .i64 fid,.int .i64 side] 107 none) (hU:mm.get U=.cells (u.c w) 87 none) (hw:Sl mm u.shape w) (hL:mm.get L=.cells (CE side size depth (.slice none 0 0) (.slice none 0 0)) 105 none)
  (h8:u.shape.length<=8) (hlc:l.length<=12) (hB:B<=L) (hlo:B<=lo0)
  (hQ:∀m' lo' tv,mm.n<=m'.n->(∀c,c < mm.n->c≠L->m'.get c=mm.get c)->B<=lo'->m'.get L=.cells (CE side size depth tv (.slice none 0 0)) 105 none->Ow mm.n m' (Bb (cd l) u side) tv->Q m' lo'):
  Lp (fun P253 vs254 m255 lo256=>un vs254 fun v257 r258=>(ah (an TE .lss 3 v257 (.int .i64 (l.length:Nat))) fun v259=>(aX v259
(ah (ai TE 29 rv v257) fun v260=>(ah (ag TE m255 87 v260) fun v261=>(bW (M.push m255 (.cells [(.int .i64 0),(.int .i64 0),(.int .i64 0),(.slice none 0 0),(.int .i64 0),(.int .i64 0)] 87 none)) fun m262=>(aO (aB TE m262 87 (ptrTo (M.n m255)) v261) fun m263 b264=>(jn (fun R265=>(ah (ae TE 107 ((.pointer (some ⟨Fb,0,none⟩))) 1) fun v269=>(ah (ag TE m263 3 v269) fun v270=>(ah (an TE .eql 3 v270 (.int .i64 (-1))) fun v271=>(aX v271
(ah (ae TE 87 (ptrTo (M.n m255)) 4) fun v272=>(ah (ag TE m263 3 v272) fun v273=>(ah (ae TE 87 ((.pointer (some ⟨U,0,none⟩))) 5) fun v274=>(ah (ag TE m263 3 v274) fun v275=>(ah (an TE .eql 3 v273 v275) fun v276=>(aX v276
(R265 [(.bool true)] m263 (min lo256 b264))
(ah (ae TE 107 ((.pointer (some ⟨Fb,0,none⟩))) 1) fun v277=>(ah (ag TE m263 3 v277) fun v278=>(ah (an TE .eql 3 v278 (.int .i64 (-2))) fun v279=>(aX v279
(ah (ae TE 87 (ptrTo (M.n m255)) 5) fun v280=>(ah (ag TE m263 3 v280) fun v281=>(ah (ae TE 87 ((.pointer (some ⟨U,0,none⟩))) 4) fun v282=>(ah (ag TE m263 3 v282) fun v283=>(ah (an TE .eql 3 v281 v283) fun v284=>(R265 [v284] m263 (min lo256 b264)))))))
(R265 [(.bool false)] m263 (min lo256 b264))))))))))))
(ah (ae TE 107 ((.pointer (some ⟨Fb,0,none⟩))) 1) fun v285=>(ah (ag TE m263 3 v285) fun v286=>(ah (an TE .eql 3 v286 (.int .i64 (-2))) fun v287=>(aX v287
(ah (ae TE 87 (ptrTo (M.n m255)) 5) fun v288=>(ah (ag TE m263 3 v288) fun v289=>(ah (ae TE 87 ((.pointer (some ⟨U,0,none⟩))) 4) fun v290=>(ah (ag TE m263 3 v290) fun v291=>(ah (an TE .eql 3 v289 v291) fun v292=>(R265 [v292] m263 (min lo256 b264)))))))
(R265 [(.bool false)] m263 (min lo256 b264)))))))))))
(fun vs266 m267 lo268=>un vs266 fun v293 r294=>(jn (fun R295=>(aX v293
(ah (ae TE 87 ((.pointer (some ⟨U,0,none⟩))) 3) fun v299=>(ah (ag TE m267 45 v299) fun v300=>(ah (ae TE 87 (ptrTo (M.n m255)) 3) fun v301=>(ah (ag TE m267 45 v301) fun v302=>(bB TE X (.func 102) [v300,v302] m267 fun v303 m304 b305=>(R295 [v303] m304 (min lo268 b305)))))))
(R295 [(.bool false)] m267 lo268)))
(fun vs296 m297 lo298=>un vs296 fun v306 r307=>(aX v306
(ah (ae TE 105 ((.pointer (some ⟨L,0,none⟩))) 3) fun v308=>(ah (ag TE m297 25 v308) fun v309=>(ah (ae TE 87 (ptrTo (M.n m255)) 0) fun v310=>(ah (ag TE m297 3 v310) fun v311=>(aO (aE TE m297 25 1 [(0,v311)]) fun v312 m313=>(aO (aq TE (M.wl m313 (M.n m313)) .append [25,25] [v309,v312]) fun v314 m315=>(ah (ae TE 105 ((.pointer (some ⟨L,0,none⟩))) 3) fun v316=>(aO (aB TE m315 25 v316 v314) fun m317 b318=>(ah (an TE .add 3 v257 (.int .i64 1)) fun v319=>(P253 [v319] m317 (min (min lo298 (M.low m315)) b318)))))))))))
(ah (an TE .add 3 v257 (.int .i64 1)) fun v320=>(P253 [v320] m297 lo298)))))))))))
(Q m255 lo256)))) [(.int .i64 0)] mm lo0:=by
 have hLn:=M.aI hL
 have hFn:=M.aI hF
 have hUn:=M.aI hU
 have hFL:Fb≠L:=fun e=>by rw[e,hL]at hF;exact absurd (Ob.cells.inj hF).2.1 (by decide)
 have hUL:U≠L:=fun e=>by rw[e,hL]at hU;exact absurd (Ob.cells.inj hU).2.1 (by decide)
 refine Lp.intro (γ:=Nat) (fun i=>l.length-i) (fun i vs m' lo=>vs=[.int .i64 i]/\i<=l.length/\mm.n<=m'.n/\(∀c,c < mm.n->c≠L->m'.get c=mm.get c)/\B<=lo/\∃tv,m'.get L=.cells (CE side size depth tv (.slice none 0 0)) 105 none/\Ow mm.n m' (Bb (cd (l.take i)) u side) tv) 0
  ⟨rfl,Nat.zero_le _,Nat.le_refl _,fun _ _ _=>rfl,hlo,_,hL,Ow.nil⟩ ?_
 rintro i vs m' lo ⟨rfl,hi,hn',hk',hlo',tv,hL',htv⟩
 have hw':Sl m' u.shape w:=hw.bw fun b c t g hb hm'=>by
  have hm':t=98:=List.mem_singleton.1 hm'
  subst hm'
  rw[hk' b (M.aI hb) (fun e=>by rw[e,hL]at hb;exact absurd (Ob.cells.inj hb).2.1 (by decide)),hb]
 have hF':eF m' l rv:=hFab.bw fun c cs t g hb ht=>by
  rw[hk' c (M.aI hb) (fun e=>by
   rw[e,hL]at hb
   have:=(Ob.cells.inj hb).2.1
   rcases ht with rfl |rfl <;>exact absurd this (by decide)),hb]
 rw[aA,aM,aa,aj]
 refine ak (fun hlt=>?_) (fun hge=>?_)
 ·have hlt:i < l.length:=by
   have:=of_decide_eq_true hlt
   omega
  obtain⟨y,hyi⟩:∃a,l[i]?=some a:=⟨_,List.getElem?_eq_getElem hlt⟩
  have hym:=List.mem_of_getElem? hyi
  obtain⟨q,e1,e2,ow⟩:=hF'.sl.iQ (k:=.i64) hyi
  rw[e1,aa,e2,aa]
  refine ar fun m262 hn262 hg262 hk262=>?_
  unfold ptrTo
  refine av eH hg262 rfl rfl (Un.eE ow) fun m263 hn263 hg263 hk263=>?_
  have hx263:Ext m' m263:=⟨by omega,fun b hb=>by rw[hk263 b (by omega),hk262 b hb]⟩
  have gy:m263.get m'.n=.cells (y.u.c y.w) 87 none:=hg263
  obtain⟨y0, -, -,y3,y4,y5⟩:=iD gy
  have gF:m263.get Fb=.cells [.int .i64 fid,.int .i64 side] 107 none:=by rw[hx263.get _ (by omega),hk' _ hFn hFL,hF]
  have ldF:ag TE m263 3 (.pointer (some ⟨Fb,0+1,none⟩))=some (.int .i64 side):=by rw[bA,az gF];rfl
  have gU:m263.get U=.cells (u.c w) 87 none:=by rw[hx263.get _ (by omega),hk' _ hUn hUL,hU]
  obtain⟨-, -, -,u3,u4,u5⟩:=iD gU
  have gL:=hx263.cells hL'
  have hfb:Bb (cd (l.take (i+1))) u side=Bb (cd (l.take i)) u side++(if((decide (side= -1) && decide (y.u.back=u.front) ||decide (side= -2) && decide (y.u.front=u.back)) && cH u.shape y.u.shape)=true then [y.u.id]else []):=by
   unfold Bb
   rw[vI hyi,qR]
  refine cq (fun vs m2 eZ=>vs=[.bool (decide (side= -1) && decide (y.u.back=u.front) ||decide (side= -2) && decide (y.u.front=u.back))]/\m263=m2/\B<=eZ) (fun R hR=>?_) ?_
  ·simp only[cO,cN,cT,aa,y4,y5,u4,u5,ldF,bI,aj]
   refine ak (fun h1=>?_) (fun h1=>?_)
   ·refine ak (fun h2=>?_) (fun h2=>?_)
    ·exact hR _ _ _ ⟨by rw[h1,h2];rfl,rfl,by omega⟩
    ·refine ak (fun h3=>?_) (fun h3=>?_)
     ·exact hR _ _ _ ⟨by rw[h1,h2,h3];rfl,rfl,by omega⟩
     ·exact hR _ _ _ ⟨by rw[h1,h2,h3];rfl,rfl,by omega⟩
   ·refine ak (fun h3=>?_) (fun h3=>?_)
    ·exact hR _ _ _ ⟨by rw[h1,h3];rfl,rfl,by omega⟩
    ·exact hR _ _ _ ⟨by rw[h1,h3];rfl,rfl,by omega⟩
  rintro _ _ eZ ⟨rfl,rfl,hlo2⟩
  rw[aA]
  refine cq (fun vs m2 eZ=>vs=[.bool ((decide (side= -1) && decide (y.u.back=u.front) ||decide (side= -2) && decide (y.u.front=u.back)) && cH u.shape y.u.shape)]/\m263=m2/\B<=eZ) (fun R hR=>?_) ?_
  ·rw[aj]
   refine ak (fun h1=>?_) (fun h1=>?_)
   ·rw[bd,aa,u3,aa,bd,aa,y3,aa]
    refine aC (lN hX (hw'.aD hx263) ((hF'.sh y hym).aD hx263) (by omega) (hFab.ln y hym)) ?_
    exact hR _ _ _ ⟨by rw[h1,Bool.true_and],rfl,by omega⟩
   ·exact hR _ _ _ ⟨by rw[h1,Bool.false_and],rfl,by omega⟩
  rintro _ _ lo3 ⟨rfl,rfl,hlo3⟩
  rw[aA,aj]
  refine ak (fun h=>?_) (fun h=>?_)
  ·simp only[dn,bt,aa,y0]
   rw[show ag TE m263 25 (.pointer (some ⟨L,0+3,none⟩))=some tv by rw[jU,az gL];rfl,aa,oZ,au]
   obtain⟨m227,hm227⟩:∃x,x=m263.push (.cells [.int .i64 y.u.id] 3 none):=⟨_,rfl⟩
   rw[<-hm227]
   have hx227:Ext m' m227:=by rw[hm227];exact hx263.push
   have hn227:m227.n=m263.n+1:=by rw[hm227];rfl
   have hg227:m227.get m263.n=.cells [.int .i64 y.u.id] 3 none:=by rw[hm227];exact M.aV
   obtain⟨r2,m229,m231,a1,a2,a3,a4,a5,a6,a7,a8⟩:=yO (T:=25) rV rfl xT rfl (m:=m') (m1:=m227) (x:=y.u.id) hL' (o:=0+3) rfl hLn hn' htv hx227 (jw hg227) (by
    unfold Bb cd
    rw[List.length_map]
    have:=List.length_filter_le (fun v:Un=>(decide (side= -1) && decide (v.back=u.front) ||decide (side= -2) && decide (v.front=u.back)) && cH u.shape v.shape) ((l.take i).map (·.u))
    rw[List.length_map,List.length_take]at this;omega)
   rw[a1,au,a2,au,aG,aa,wrap64 (by omega) (by omega)]
   refine⟨i+1,by omega,rfl,by omega,by omega,fun c hc hne=>by rw[a7 c hc hne,hk' c hc hne],by omega,r2,a4,?_⟩
   rw[hfb,if_pos h]
   exact a5
  ·rw[aG,aa,wrap64 (by omega) (by omega)]
   refine⟨i+1,by omega,rfl,by omega,by omega,fun c hc hne=>by rw[hx263.get c (by omega),hk' c hc hne],hlo3,tv,gL,?_⟩
   rw[hfb,if_neg (by rw[h];decide),List.append_nil]
   exact htv.aD hx263
 ·have hi':i=l.length:=by
   have:=of_decide_eq_false hge
   omega
  subst hi'
  rw[List.take_length]at htv
  exact hQ m' lo tv hn' hk' hlo' hL' htv
theorem Fh(us:List Un)(u:Un):Bb us u (-1)=qt us u:=by
 unfold Bb qt
 simp
theorem Jb(us:List Un)(u:Un):Bb us u (-2)=vw us u:=by
 unfold Bb vw
 simp
end Go.Proofs.YtmdfgncoekfgdaaGreatDoor
namespace Go.Proofs.YtmdfgncoekfgdaaGreatDoor
open Go Go.D
variable {X:aF} {m:M}
theorem Ea{a b:List Pl}{x:Pl×Pl}(h:gE a b=some x):aP a=true/\aP b=true/\(x.1∈a\/x.1∈b)/\(x.2∈a\/x.2∈b):=by
 unfold gE at h
 split at h
 ·rename_i hv
  simp only[Bool.and_eq_true]at hv
  unfold oG at h
  obtain⟨i,hi,h⟩:=List.exists_of_findSome?_eq_some h
  unfold uU at h
  obtain⟨k,hk,h⟩:=List.exists_of_findSome?_eq_some h
  rw[List.mem_range]at hi hk
  obtain⟨-, -, -,m1,m2⟩:=sx h
  have a1:=List.mem_of_getElem? (fG hi)
  have a2:=List.mem_of_getElem? (gZ hi)
  have b1:=List.mem_of_getElem? (fG hk)
  have b2:=List.mem_of_getElem? (gZ hk)
  refine⟨hv.1.1,hv.1.2,?_,?_⟩
  ·rcases m1 with e |e |e |e <;>rw[e] <;>simp[a1,a2,b1,b2]
  ·rcases m2 with e |e |e |e <;>rw[e] <;>simp[a1,a2,b1,b2]
 ·cases h
theorem rZ{u:Un}(h:gX u=true):0<=u.id/\u.id<=99:=by
 unfold gX jL at h
 simp only[Bool.and_eq_true,decide_eq_true_eq]at h
 omega
theorem CQ{us:List Un}(hP:cS us){c:Ct}(h:c∈cf us):(c.p.sm 1000000/\c.q.sm 1000000)/\(-1000<=c.a/\c.a<=1000)/\ -1000<=c.b/\c.b<=1000:=by
 rcases lP h with⟨w,hw,hs⟩ |⟨u,v,hm,ht⟩
 ·obtain⟨e1,e2,hv,i,hi,e3,e4⟩:=dX hs
  have hid:=rZ (hP.val w hw)
  rw[e1,e2,e3,e4]
  exact⟨⟨dI hv _ (List.mem_of_getElem? (fG hi)),dI hv _ (List.mem_of_getElem? (gZ hi))⟩,by omega,by omega⟩
 ·obtain⟨hu,hv⟩:=fH hm
  obtain⟨e1,e2, -, -⟩:=dW ht
  have hu':=rZ (hP.val u hu)
  have hv':=rZ (hP.val v hv)
  rw[e1,e2]
  refine⟨?_,by omega,by omega⟩
  unfold dp at ht
  split at ht
  ·cases hs:gE u.shape v.shape with
   |none=>rw[hs]at ht;cases ht
   |some x=>
    rw[hs]at ht
    cases ht
    obtain⟨va,vb,m1,m2⟩:=Ea hs
    refine⟨?_,?_⟩
    ·rcases m1 with h |h
     ·exact dI va _ h
     ·exact dI vb _ h
    ·rcases m2 with h |h
     ·exact dI va _ h
     ·exact dI vb _ h
  ·cases ht
def MU(p q:Pl):Int:=(q.x-p.x)*(q.x-p.x)+(q.y-p.y)*(q.y-p.y)
def pn(us:List Un)(cts:List Ct)(ms:List Mk)(u:Un)(i:Nat):Lf:=
 if i < u.shape.length then⟨(i:Nat),MU (dj u.shape i) (jK u.shape i),u.front-u.back,kx (fU cts u i),jz ms u.id (i:Nat)⟩
 else if i=u.shape.length then⟨-1,mj u.shape,0,kx (Bb us u (-1)),jz ms u.id (-1)⟩
 else⟨-2,mj u.shape,0,kx (Bb us u (-2)),jz ms u.id (-2)⟩
def kW(us:List Un)(cts:List Ct)(ms:List Mk)(u:Un):List Lf:=(List.range (u.shape.length+2)).map (pn us cts ms u)
def cI(n i:Nat):Int:=if i < n then(i:Nat)else if i=n then -1 else -2
theorem zJ{u:Un}(h:gX u=true){i:Nat}(hi:i < u.shape.length+2):(lg u)[i]?=some ⟨u.id,cI u.shape.length i⟩:=by
 unfold lg cI
 rw[if_pos h]
 by_cases h1:i < u.shape.length
 ·rw[List.getElem?_append_left (by rw[List.length_map,List.length_range];exact h1),if_pos h1,List.getElem?_map,List.getElem?_range h1];rfl
 ·rw[List.getElem?_append_right (by rw[List.length_map,List.length_range];omega),List.length_map,List.length_range,if_neg h1]
  by_cases h2:i=u.shape.length
  ·rw[if_pos h2,h2,Nat.sub_self];rfl
  ·rw[if_neg h2,show i-u.shape.length=1 by omega];rfl
theorem vn{u:Un}(h:gX u=true):(lg u).length=u.shape.length+2:=by
 unfold lg
 rw[if_pos h,List.length_append,List.length_map,List.length_range];rfl
theorem _root_.Go.D.Sl.QR{l:List Fc}{v:Value}(h:Sl m l v){i:Nat}{x:Fc}(hi:l[i]?=some x){k:IntKind}:∃a,ai TE 102 v (.int k i)=some a/\ag TE m 107 a=some x.v:=by
 obtain⟨a,cs,h1,h2,h3⟩:=h.index vT (k:=k) hi
 have h3:cs=x.c:=h3
 subst h3
 exact⟨a,h1,h2⟩
theorem JD{a:Int}:aW TE 105 [(0,.int .i64 a)]=some (.agg (CE a 0 0 (.slice none 0 0) (.slice none 0 0)).toArray):=by kernel_rfl
theorem xR(hX:dF X){l:List UW}{r vm:Value}{ms:List Mk}(hF:eF m l r)(hP:cS (cd l))(hm:Sl m ms vm)(hM:oC (cd l) ms){id:Int}(hu:eL (cd l) id=none):
  C X (.func 36) [.agg #[r,vm],.int .i64 id] m m.n (.tuple #[.slice none 0 0,.int .i64 410]) m:=by
 refine Cl.flat (hX.no _ rfl) Ml rfl rfl ?_
 rw[Zc];dsimp only[aN]
 refine ar fun m1 hn1 hg1 hk1=>?_
 have g1:m1.get m.n=.cells [r,vm] 60 none:=hg1
 have hx1:Ext m m1:=⟨by omega,hk1⟩
 unfold ptrTo
 rw[cP,aa,show ag TE m1 31 (.pointer (some ⟨m.n,0+0,none⟩))=some (.agg #[r]) by rw[eo,aH (n:=1) g1 (by show 0+0+1<=2;decide)];rfl,aa]
 obtain⟨ov,m5,hc,hx5,hov⟩:=wM (m:=m1) hX (hF.aD hx1) hP id
 refine aC hc ?_
 rw[hu]at hov⊢
 have hov:ov=.agg Un.zc.toArray:=hov
 subst hov
 rw[aR,aR]
 simp only[List.getElem?_cons_zero,List.getElem?_cons_succ,aa]
 refine ar fun m9 hn9 hg9 hk9=>?_
 refine av eH hg9 rfl rfl rfl fun m10 hn10 hg10 hk10=>?_
 have hx10:Ext m5 m10:=⟨by omega,fun b hb=>by rw[hk10 b (by omega),hk9 b hb]⟩
 have hxa:=(hx1.trans hx5).trans hx10
 have hn5:=hx5.n
 refine cq (fun vs m' lo=>vs=[.bool true]/\m.n<=lo) (fun R hR=>?_) ?_
 ·rw[show ag TE m10 60 (.pointer (some ⟨m.n,0,none⟩))=some (.agg #[r,vm]) by rw[mN,aH (n:=2) (hx10.cells (hx5.cells g1)) (by show 0+2<=2;decide)];rfl,aa]
  refine aC (vz hX (hF.aD hxa) hP (hm.aD hxa) hM) ?_
  rw[bD,aa,aj,Bool.not_true,aU,bD,aa]
  exact hR _ _ _ ⟨rfl,by omega⟩
 rintro _ m' lo ⟨rfl,hlo⟩
 rw[aA,aj,bZ]
 exact⟨rfl,hlo⟩
end Go.Proofs.YtmdfgncoekfgdaaGreatDoor
