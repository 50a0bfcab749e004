/- unit.Touch, Stands, depth, Volume2. -/
import Derived.Test.YtmdfgncoekfgdaaGreatDoorG14J
import Derived.Test.YtmdfgncoekfgdaaGreatDoorG8J
import Derived.Test.YtmdfgncoekfgdaaGreatDoorG11J
import Derived.Test.YtmdfgncoekfgdaaGreatDoorG5J
import Derived.Test.YtmdfgncoekfgdaaGreatDoorG7J
import Derived.Test.YtmdfgncoekfgdaaGreatDoorG13J
namespace Go.Proofs.YtmdfgncoekfgdaaGreatDoor
open Go Go.D
variable {X:aF} {m:M}
def Bh:Option Ct->List Value
 |some x=>x.c'
 |none=>Ct.zc
theorem jY(o:Option Ct):(Bh o).length=8:=by cases o <;>rfl
theorem wV(o:Option Ct):(Bh o).all one=true:=by cases o <;>rfl
theorem qB{mm:M}{bl:Nat}{cs:List Value}{g:Option Nat}{o:Option Ct}(h0:mm.get bl=.cells cs 115 g)(hl:cs.length=8){P:Value->M->Nat->Prop}(hP:∀m',m'.n=mm.n->P (.agg (Bh o).toArray) m' bl):
  aO (aB TE mm 115 (.pointer (some ⟨bl,0,none⟩)) (.agg (Bh o).toArray)) fun m' b=>ah (ag TE m' 115 (.pointer (some ⟨bl,0,none⟩))) fun v=>P v m' b:=by
 refine av se h0 (by rw[aL];show(Bh o).length=8;exact jY o) (by rw[aL,hl];exact jY o) (by rw[aL];exact wV o) fun m' hn hg hk=>?_
 rw[aL]at hg
 have hg:m'.get bl=.cells (Bh o) 115 g:=hg
 rw[zk,aH hg (by rw[jY];exact Nat.le_refl _)]
 have e:((Bh o).drop 0).take 8=Bh o:=by rw[List.drop_zero,List.take_of_length_le (by rw[jY];exact Nat.le_refl _)]
 rw[e]
 show ah (some (Value.agg (Bh o).toArray)) _
 rw[aa]
 exact hP m' hn
theorem mY:aW TE 115 []=some (.agg (Bh none).toArray):=by kernel_rfl
theorem zW{a b x y:Int}{p q:Pl}:aW TE 115 [(0,.int .i64 a),(1,.int .i64 b),(2,.agg (qK p q).toArray),(3,.int .i64 x),(4,.int .i64 y)]=some (.agg (Bh (some ⟨a,b,p,q,x,y⟩)).toArray):=by kernel_rfl
theorem qc(o:Option (Pl×Pl)):(nd o).length=4:=by cases o <;>rfl
theorem DZ(o:Option (Pl×Pl)):(nd o).all one=true:=by cases o <;>rfl
theorem Ly{a b:Un}(h:iY a b=true):gX a=true/\gX b=true:=by
 unfold iY at h
 rw[Bool.and_eq_true,Bool.and_eq_true]at h
 exact h.1
theorem Dk{sc:List Ct->List Ct}(hX:dF X)(hS:xF X sc){a b:Un}{va vb:Value}(ha:Sl m a.shape va)(hb:Sl m b.shape vb)(la:a.shape.length < 1000000)(lb:b.shape.length < 1000000):
  C X (.func 182) [a.v va,b.v vb] m m.n (.tuple #[.agg (Bh (dp a b)).toArray,.bool (dp a b).isSome]) m:=by
 refine Cl.flat (hX.no _ rfl) NK rfl (by cases dp a b <;>rfl) ?_
 rw[SS];dsimp only[aN]
 refine ar fun m1 hn1 hg1 hk1=>?_
 refine ar fun m2 hn2 hg2 hk2=>?_
 refine ar fun m3 hn3 hg3 hk3=>?_
 simp only[aL]at hg1 hg2
 have hx3:Ext m m3:=⟨by omega,fun c hc=>by rw[hk3 c (by omega),hk2 c (by omega),hk1 c hc]⟩
 have g1:m3.get m.n=.cells (a.c va) 87 none:=by rw[hk3 _ (by omega),hk2 _ (by omega)];exact hg1
 have g2:m3.get m1.n=.cells (b.c vb) 87 none:=by rw[hk3 _ (by omega)];exact hg2
 have g3:m3.get m2.n=.cells Ct.zc 115 none:=hg3
 obtain⟨a0, -, -,a3,a4,a5⟩:=iD g1
 obtain⟨b0, -, -,b3,b4,b5⟩:=iD g2
 have ha3:=ha.aD hx3
 have hb3:=hb.aD hx3
 unfold ptrTo
 rw[bP g1,aa,bP g2,aa]
 refine aC (qF (m:=m3) hX ha3 hb3 (by omega) (by omega)) ?_
 rw[aR,aR,aR]
 simp only[List.getElem?_cons_zero,List.getElem?_cons_succ,aa]
 rw[bD,aa,aj]
 refine ak (fun h=>?_) (fun h=>?_)
 ·have h:iY a b=false:=by simpa using h
  have e:dp a b=none:=by unfold dp;rw[if_neg (by rw[h];decide)]
  rw[mY,aa]
  refine qB g3 rfl fun m' hn=>?_
  rw[e]
  exact⟨rfl,by omega⟩
 have h:iY a b=true:=by simpa using h
 have hun:=Ly h
 have e:dp a b=(gE a.shape b.shape).map fun s=>⟨a.id,b.id,s.1,s.2,max a.back b.back,min a.front b.front⟩:=by unfold dp;rw[if_pos h]
 rw[bd,aa,a3,aa,bd,aa,b3,aa]
 refine aC (Kv hX hS ha3 hb3 la lb) ?_
 rw[aR,aR]
 simp only[List.getElem?_cons_zero,List.getElem?_cons_succ,aa]
 refine ar fun m26 hn26 hg26 hk26=>?_
 refine av vN hg26 (by rw[aL];exact qc _) (by rw[aL];exact qc _) (by rw[aL];exact DZ _) fun m27 hn27 hg27 hk27=>?_
 rw[aL]at hg27
 have hg27:m27.get m3.n=.cells (nd (gE a.shape b.shape)) 113 none:=hg27
 have o27:∀c,c < m3.n->m27.get c=m3.get c:=fun c hc=>by rw[hk27 c (by omega),hk26 c hc]
 have r3:m27.get m2.n=.cells Ct.zc 115 none:=by rw[o27 _ (by omega),g3]
 rw[bD,aa,aj]
 cases hs:gE a.shape b.shape with
 |none=>
  show pB true _ _
  rw[bZ,mY,aa]
  refine qB r3 rfl fun m' hn=>?_
  rw[e,hs]
  exact⟨rfl,by omega⟩
 |some s=>
  show pB false _ _
  rw[aU]
  have r1:m27.get m.n=.cells (a.c va) 87 none:=by rw[o27 _ (by omega),g1]
  have r2:m27.get m1.n=.cells (b.c vb) 87 none:=by rw[o27 _ (by omega),g2]
  rw[hs]at hg27
  rw[bt,aa,(iD r1).1,aa,bt,aa,(iD r2).1,aa]
  rw[show ag TE m27 113 (.pointer (some ⟨m3.n,0,none⟩))=some (.agg (qK s.1 s.2).toArray) by rw[zl,aH hg27 (by rw[qc];exact Nat.le_refl _)];rfl,aa,zW,aa]
  refine qB r3 rfl fun m' hn=>?_
  rw[e,hs]
  exact⟨rfl,by omega⟩
theorem Dl(hX:dF X){a:Un}{va:Value}(ha:Sl m a.shape va)(la:a.shape.length < 1000000):
  C X (.func 122) [a.v va] m m.n (.int .i64 (if gX a then a.front-a.back else 0)) m:=by
 refine Cl.flat (hX.no _ rfl) N9 rfl rfl ?_
 rw[Tm];dsimp only[aN]
 refine ar fun m1 hn1 hg1 hk1=>?_
 simp only[aL]at hg1
 have hx1:Ext m m1:=⟨by omega,fun c hc=>by rw[hk1 c hc]⟩
 have g1:m1.get m.n=.cells (a.c va) 87 none:=hg1
 obtain⟨a0, -, -,a3,a4,a5⟩:=iD g1
 unfold ptrTo
 rw[bP g1,aa]
 refine aC (ja hX (ha.aD hx1) (by omega)) ?_
 rw[bD,aa,aj]
 refine ak (fun h=>?_) (fun h=>?_)
 ·have h:gX a=false:=by simpa using h
  rw[if_neg (by rw[h];decide)]
  exact⟨rfl,by omega⟩
 have h:gX a=true:=by simpa using h
 rw[if_pos h]
 have hu:=h
 unfold gX at hu
 simp only[Bool.and_eq_true,decide_eq_true_eq]at hu
 rw[cN,aa,a5,aa,cO,aa,a4,aa,dc,aa,wrap64 (by omega) (by omega)]
 exact⟨rfl,by omega⟩
theorem Ak(hX:dF X){a:Un}{va:Value}(ha:Sl m a.shape va)(la:a.shape.length < 1000000):
  C X (.func 47) [a.v va] m m.n (.int .i64 (BQ (mj a.shape*(if gX a then a.front-a.back else 0)))) m:=by
 refine Cl.flat (hX.no _ rfl) Qx rfl rfl ?_
 rw[F47];dsimp only[aN]
 refine ar fun m1 hn1 hg1 hk1=>?_
 simp only[aL]at hg1
 have hx1:Ext m m1:=⟨by omega,fun c hc=>by rw[hk1 c hc]⟩
 have g1:m1.get m.n=.cells (a.c va) 87 none:=hg1
 obtain⟨a0, -, -,a3,a4,a5⟩:=iD g1
 have ha1:=ha.aD hx1
 unfold ptrTo
 rw[bd,aa,a3,aa]
 refine aC (Da hX ha1 la) ⟨Nat.le_refl _,?_⟩
 rw[bP g1,aa]
 refine aC (Dl hX ha1 la) ?_
 rw[dt,aa]
 exact⟨rfl,by omega⟩
set_option maxRecDepth 100000 in
theorem Al(hX:dF X){a:Un}{va:Value}(ha:Sl m a.shape va)(la:a.shape.length < 1000000):
  C X (.func 181) [a.v va] m m.n (.tuple #[.agg (Bh (dm a)).toArray,.bool (dm a).isSome]) m:=by
 refine Cl.flat (hX.no _ rfl) NL rfl (by cases dm a <;>rfl) ?_
 rw[SU];dsimp only[aN]
 refine ar fun m1 hn1 hg1 hk1=>?_
 refine ar fun m2 hn2 hg2 hk2=>?_
 simp only[aL]at hg1
 have hx2:Ext m m2:=⟨by omega,fun c hc=>by rw[hk2 c (by omega),hk1 c hc]⟩
 have g1:m2.get m.n=.cells (a.c va) 87 none:=by rw[hk2 _ (by omega)];exact hg1
 have g2:m2.get m1.n=.cells Ct.zc 115 none:=hg2
 obtain⟨a0, -, -,a3,a4,a5⟩:=iD g1
 have ha2:=ha.aD hx2
 unfold ptrTo
 rw[bP g1,aa]
 refine aC (ja hX ha2 (by omega)) ?_
 rw[bD,aa,aj]
 refine ak (fun h=>?_) (fun h=>?_)
 ·have h:gX a=false:=by simpa using h
  have e:dm a=none:=by unfold dm;rw[if_neg (by rw[h];decide)]
  rw[mY,aa]
  refine qB g2 rfl fun m' hn=>?_
  rw[e]
  exact⟨rfl,by omega⟩
 have h:gX a=true:=by simpa using h
 have e:dm a=((List.range a.shape.length).findSome? (tE a.shape)).map fun s=>⟨a.id, -1,s.1,s.2,a.back,a.front⟩:=by unfold dm;rw[if_pos h]
 rw[bd,aa,a3,aa,ha2.len cF,au]
 refine Lp.intro (γ:=Nat) (fun i=>a.shape.length-i) (fun i vs mm lo=>vs=[.bool false,.int .i64 i]/\i<=a.shape.length/\Ext m2 mm/\m.n<=lo/\∀j,j < i->tE a.shape j=none) 0
  ⟨rfl,Nat.zero_le _,.refl,by omega,fun j hj=>by omega⟩ ?_
 rintro i vs mm lo ⟨rfl,hi,hx,hlo,hno⟩
 rw[aA,aA,aM,aa,aj]
 have hxn:=hx.n
 refine ak (fun hlt=>?_) (fun hge=>?_)
 ·have hlt:i < a.shape.length:=by simpa using hlt
  have ham:=ha2.aD hx
  obtain⟨q1,x1,y1⟩:=ham.dK (k:=.i64) (fG hlt)
  rw[x1,aa,y1,aa]
  refine ar fun m26 hn26 hg26 hk26=>?_
  refine av cG hg26 rfl rfl rfl fun m27 hn27 hg27 hk27=>?_
  have hx27:Ext mm m27:=⟨by omega,fun c hc=>by rw[hk27 c (by omega),hk26 c hc]⟩
  have r1:m27.get m.n=.cells (a.c va) 87 none:=hx27.cells (hx.cells g1)
  have ha27:=ham.aD hx27
  rw[aa,(iD r1).2.2.2.1,aa,aG,aa,wrap64 (by omega) (by omega),aa,(iD r1).2.2.2.1,aa,ha27.len cF,au,mZ (by omega),aa]
  have em:(((i:Int)+1).tmod (a.shape.length:Int))=(((i+1)%a.shape.length:Nat):Int):=by
   rw[show((i:Int)+1)=((i+1:Nat):Int) by omega]
   exact(Int.ofNat_tmod _ _).symm
  rw[em]
  obtain⟨q2,x2,y2⟩:=ha27.dK (k:=.i64) (gZ hlt)
  rw[x2,aa,y2,aa]
  refine ar fun um hn38 hg38 hk38=>?_
  refine av cG hg38 rfl rfl rfl fun m39 hn39 hg39 hk39=>?_
  have hx39:Ext m27 m39:=⟨by omega,fun c hc=>by rw[hk39 c (by omega),hk38 c hc]⟩
  have t1:m39.get mm.n=.cells (dj a.shape i).c 98 none:=by rw[hx39.get _ (by omega),hg27];rfl
  have t2:m39.get m27.n=.cells (jK a.shape i).c 98 none:=by rw[hg39];rfl
  have tu:=hx39.cells r1
  have tc:m39.get m1.n=.cells Ct.zc 115 none:=hx39.cells (hx27.cells (hx.cells g2))
  refine cq (fun vs m' lo=>vs=[.bool (decide ((dj a.shape i).y=0/\(jK a.shape i).y=0))]/\m'=m39/\m.n<=lo) (fun R hR=>?_) ?_
  ·rw[bJ,aa,show ag TE m39 3 (.pointer (some ⟨mm.n,0+1,none⟩))=some (.int .i64 (dj a.shape i).y) by rw[bA,az t1];rfl,aa,bI,aa,aj]
   refine ak (fun h1=>?_) (fun h1=>?_)
   ·have h1:=of_decide_eq_true h1
    rw[bJ,aa,show ag TE m39 3 (.pointer (some ⟨m27.n,0+1,none⟩))=some (.int .i64 (jK a.shape i).y) by rw[bA,az t2];rfl,aa,bI,aa]
    refine hR _ _ _ ⟨?_,rfl,by omega⟩
    congr 2
    rw[decide_eq_decide]
    exact⟨fun q=>⟨h1,q⟩,fun q=>q.2⟩
   ·have h1:=of_decide_eq_false h1
    refine hR _ _ _ ⟨?_,rfl,by omega⟩
    rw[decide_eq_false fun q=>h1 q.1]
  rintro _ m43 lo44 ⟨rfl,rfl,hlo44⟩
  rw[aA,aj]
  refine ak (fun hf=>?_) (fun hf=>?_)
  ·have hf:=of_decide_eq_true hf
   have hfl:tE a.shape i=some (dj a.shape i,jK a.shape i):=by unfold tE;rw[if_pos hf]
   obtain⟨u0, -, -, -,u4,u5⟩:=iD tu
   rw[bt,aa,u0,aa,bz t1,aa,bz t2,aa,om,aa,cO,aa,u4,aa,cN,aa,u5,aa,zW,aa]
   refine qB tc rfl fun m' hn=>?_
   rw[e,jX hlt hno hfl]
   exact⟨rfl,by omega⟩
  ·have hf:=of_decide_eq_false hf
   rw[aa]
   refine⟨i+1,by omega,rfl,by omega,hx.trans (hx27.trans hx39),hlo44,fun j hj=>?_⟩
   by_cases ej:j=i
   ·rw[ej];unfold tE;rw[if_neg hf]
   ·exact hno j (by omega)
 ·have hi':i=a.shape.length:=by
   have:¬(i:Int)< (a.shape.length:Int):=by simpa using hge
   omega
  subst hi'
  rw[mY,aa]
  refine qB (hx.cells g2) rfl fun m' hn=>?_
  rw[e,ib hno]
  exact⟨rfl,by omega⟩
end Go.Proofs.YtmdfgncoekfgdaaGreatDoor
namespace Go.Proofs.YtmdfgncoekfgdaaGreatDoor
open Go Go.D
variable {X:aF} {m:M}
theorem _root_.Go.D.Sl.BC{l:List Int}{v:Value}(h:Sl m l v){i:Nat}{n:Int}(hi:l[i]?=some n){k:IntKind}:∃a,ai TE 25 v (.int k i)=some a/\ag TE m 3 a=some (.int .i64 n):=by
 obtain⟨a,cs,h1,h2,h3⟩:=h.index iS (k:=k) hi
 rw[show cs=[.int .i64 n]from h3]at h2
 exact⟨a,h1,h2⟩
theorem _root_.Go.D.Af.BC{l:List Int}{v:Value}(h:Af m l v){i:Nat}{n:Int}(hi:l[i]?=some n){k:IntKind}:∃a,ai TE 25 v (.int k i)=some a/\ag TE m 3 a=some (.int .i64 n):=by
 obtain⟨a,cs,h1,h2,h3⟩:=h.index iS (k:=k) hi
 rw[show cs=[.int .i64 n]from h3]at h2
 exact⟨a,h1,h2⟩
end Go.Proofs.YtmdfgncoekfgdaaGreatDoor
namespace Go.Proofs.YtmdfgncoekfgdaaGreatDoor
open Go Go.D
variable {X:aF} {m:M}
theorem JE{a b:Int}:aW TE 107 [(0,.int .i64 a),(1,.int .i64 b)]=some (Fc.mk a b).v:=by kernel_rfl
theorem M5{x:Fc}:aE TE m 102 1 [(0,x.v)]=some (.slice (some ⟨m.n,0,none⟩) 1 1,m.push (.cells x.c 107 none)):=by kernel_rfl
theorem vo(hX:dF X){n1 oc uo:Nat}{u:Un}{w r x0:Value}{acc:List Fc}{ss:List Int}(hoc:m.get oc=.cells [r] 102 none)(hu:m.get uo=.cells (u.c w) 87 none)
  (h1:oc < n1) (h2:uo < n1) (huo:uo≠oc) (hn:n1<=m.n) (hw:Ow n1 m acc r) (hs:Sl m ss x0) (hal:acc.length+ss.length < 1000000) (hne:0 < ss.length):
  ∃m' b r',C X (.func 121) [x0,.pointer (some ⟨oc,0,none⟩),.pointer (some ⟨uo,0,none⟩)] m b (.tuple #[]) m'/\oc<=b/\m'.get oc=.cells [r'] 102 none/\Ow n1 m' (acc++ss.map (Fc.mk u.id)) r'/\m.n<=m'.n/\∀c,c < n1->c≠oc->m'.get c=m.get c:=by
 have key:=Cl.heap (E:=TE) (X:=X) (f:=121) (args:=[x0,.pointer (some ⟨oc,0,none⟩),.pointer (some ⟨uo,0,none⟩)]) (m:=m) (R:=fun v' m' b=>v'=.tuple #[]/\oc<=b/\∃r',m'.get oc=.cells [r'] 102 none/\Ow n1 m' (acc++ss.map (Fc.mk u.id)) r'/\m.n<=m'.n/\∀c,c < n1->c≠oc->m'.get c=m.get c) (hX.no _ rfl) Oa rfl ?_
 ·obtain⟨v',m',b,hc,rfl,hb,r',k1,k2,k3,k4⟩:=key
  exact⟨m',b,r',hc,hb,k1,k2,k3,k4⟩
 rw[Tn];dsimp only[aN]
 rw[hs.len iS,au]
 refine Lp.intro (γ:=Nat) (fun i=>ss.length-i) (fun i vs mm lo=>vs=[.int .i64 i]/\i<=ss.length/\(i=0\/lo<=oc)/\oc<=lo/\m.n<=mm.n/\Sl mm ss x0/\(∀c,c < n1->c≠oc->mm.get c=m.get c)/\∃r',mm.get oc=.cells [r'] 102 none/\Ow n1 mm (acc++(ss.take i).map (Fc.mk u.id)) r') 0
  ⟨rfl,Nat.zero_le _,.inl rfl,by omega,Nat.le_refl _,hs,fun _ _ _=>rfl,r,hoc,by rw[List.take_zero,List.map_nil,List.append_nil];exact hw⟩ ?_
 rintro i vs mm lo ⟨rfl,hi,hlo0,hlo,hnm,hsm,hkm,r',hr,how⟩
 rw[aA,aM,aa,aj]
 refine ak (fun hlt=>?_) (fun hge=>?_)
 ·have hlt:i < ss.length:=by simpa using hlt
  obtain⟨s,hsi⟩:∃s,ss[i]?=some s:=⟨_,List.getElem?_eq_getElem hlt⟩
  obtain⟨q,e1,e2⟩:=hsm.BC (k:=.i64) hsi
  have hum:mm.get uo=.cells (u.c w) 87 none:=by rw[hkm _ h2 huo,hu]
  rw[e1,aa,e2,aa,show ag TE mm 102 (.pointer (some ⟨oc,0,none⟩))=some r' by rw[zm,az hr];rfl,aa,bt,aa,(iD hum).1,aa,JE,aa,M5,au]
  obtain⟨m16,hm16⟩:∃x,x=mm.push (.cells (Fc.mk u.id s).c 107 none):=⟨_,rfl⟩
  rw[<-hm16]
  have hx16:Ext mm m16:=by rw[hm16];exact Ext.refl.push
  have hn16:m16.n=mm.n+1:=by rw[hm16];rfl
  have hg16:m16.get mm.n=.cells (Fc.mk u.id s).c 107 none:=by rw[hm16];exact M.aV
  have hone:=so (m:=m16) (x:=Fc.mk u.id s) hg16 rfl
  obtain⟨r2,m18,m19,a1,a2,a3,a4,a5,a6,a7,a8⟩:=yO (T:=102) OP rfl MS rfl (m:=mm) (m1:=m16) (x:=Fc.mk u.id s) hr (o:=0) rfl h1 (by omega) how hx16 hone (by rw[List.length_append,List.length_map,List.length_take];omega)
  rw[a1,au,a2,au,aG,aa,wrap64 (by omega) (by omega)]
  refine⟨i+1,by omega,rfl,by omega,.inr (by omega),by omega,by omega,?_,fun c hc hne=>by rw[a7 c hc hne,hkm c hc hne],r2,a4,?_⟩
  ·refine(hsm.aD hx16).bw fun b c t g hb ht=>?_
   have ht:t=3:=List.mem_singleton.1 ht
   subst ht
   rw[a8 b (M.aI hb) (fun e=>?_) (fun cs g' h'=>?_),hb]
   ·rw[e,hx16.cells hr]at hb
    cases hb
   ·rw[h']at hb
    cases hb
  ·rw[List.take_add_one,hsi]
   simp only[Option.toList_some,List.map_append,List.map_cons,List.map_nil]
   rw[<-List.append_assoc]
   exact a5
 ·have hi':i=ss.length:=by
   have:¬(i:Int)< (ss.length:Int):=by simpa using hge
   omega
  subst hi'
  rw[List.take_length]at how
  exact⟨.inr (by omega),rfl,by omega,r',hr,how,hnm,hkm⟩
def lg(u:Un):List Fc:=if gX u then(List.range u.shape.length).map (fun i=>Fc.mk u.id (i:Nat))++ [⟨u.id, -1⟩,⟨u.id, -2⟩]else []
theorem zI(hX:dF X){u:Un}{w:Value}(ha:Sl m u.shape w)(la:u.shape.length < 1000000):
  ∃m' v,C X (.func 46) [u.v w] m m.n v m'/\Ext m m'/\Ow m.n m' (lg u) v:=by
 have key:=Cl.gen (E:=TE) (X:=X) (f:=46) (args:=[u.v w]) (m:=m) (R:=fun v' m' b=>b=m.n/\Ext m m'/\Ow m.n m' (lg u) v') (hX.no _ rfl) Qy rfl ?_
 ·obtain⟨v',m',b,hc,rfl,hx,hw⟩:=key
  exact⟨m',v',hc,hx,hw⟩
 rw[F46];dsimp only[aN]
 refine ar fun m1 hn1 hg1 hk1=>?_
 simp only[aL]at hg1
 have hx1:Ext m m1:=⟨by omega,fun c hc=>by rw[hk1 c hc]⟩
 have g1:m1.get m.n=.cells (u.c w) 87 none:=hg1
 have ha1:=ha.aD hx1
 unfold ptrTo
 rw[bP g1,aa]
 refine aC (ja hX ha1 (by omega)) ?_
 rw[bD,aa,aj]
 refine ak (fun h=>?_) (fun h=>?_)
 ·have h:gX u=false:=by simpa using h
  refine .inl ⟨rfl,by omega,rfl,.refl,?_⟩
  unfold lg;rw[if_neg (by rw[h];decide)]
  exact Ow.nil
 have h:gX u=true:=by simpa using h
 have h8:=e9 h
 refine ar fun m7 hn7 hg7 hk7=>?_
 have hx7:Ext m1 m7:=⟨by omega,hk7⟩
 have g7:m7.get m.n=.cells (u.c w) 87 none:=hx7.cells g1
 rw[bd,aa,(iD g7).2.2.2.1,aa,(ha1.aD hx7).len cF,au]
 refine Lp.intro (γ:=Nat) (fun i=>u.shape.length-i) (fun i vs mm lo=>vs=[.int .i64 i]/\i<=u.shape.length/\m.n<=lo/\m7.n<=mm.n/\(∀c,c < m7.n->c≠m1.n->mm.get c=m7.get c)/\∃r',mm.get m1.n=.cells [r'] 102 none/\Ow m7.n mm ((List.range i).map fun i=>Fc.mk u.id (i:Nat)) r') 0
  ⟨rfl,Nat.zero_le _,by omega,Nat.le_refl _,fun _ _ _=>rfl,_,hg7,Ow.nil⟩ ?_
 rintro i vs mm lo ⟨rfl,hi,hlo,hnm,hkm,r',hr,how⟩
 have gum:mm.get m.n=.cells (u.c w) 87 none:=by rw[hkm _ (by omega) (by omega),g7]
 rw[aA,aM,aa,aj]
 refine ak (fun hlt=>?_) (fun hge=>?_)
 ·have hlt:i < u.shape.length:=by simpa using hlt
  rw[oZ,au]
  obtain⟨m19,hm19⟩:∃x,x=mm.push (.cells [.int .i64 (i:Int)] 3 none):=⟨_,rfl⟩
  rw[<-hm19]
  have hx19:Ext mm m19:=by rw[hm19];exact Ext.refl.push
  have hn19:m19.n=mm.n+1:=by rw[hm19];rfl
  have hg19:m19.get mm.n=.cells [.int .i64 (i:Int)] 3 none:=by rw[hm19];exact M.aV
  obtain⟨m21,b22,r2,hc,hb,q1,q2,q3,q4⟩:=vo (m:=m19) hX (n1:=m7.n) (ss:=[(i:Int)]) (hx19.cells hr) (hx19.cells gum) (by omega) (by omega) (by omega) (by omega) (how.aD hx19) (jw hg19) (by rw[List.length_map,List.length_range];simp;omega) (by simp)
  refine aC hc ?_
  rw[aG,aa,wrap64 (by omega) (by omega)]
  refine⟨i+1,by omega,rfl,by omega,by omega,by omega,fun c hc1 hc2=>by rw[q4 c hc1 hc2,hx19.get c (by omega),hkm c hc1 hc2],r2,q1,?_⟩
  rw[List.range_succ,List.map_append]
  exact q2
 ·have hi':i=u.shape.length:=by
   have:¬(i:Int)< (u.shape.length:Int):=by simpa using hge
   omega
  subst hi'
  rw[Mh,au]
  obtain⟨m25,hm25⟩:∃x,x=mm.push (.cells [.int .i64 (-1),.int .i64 (-2)] 3 none):=⟨_,rfl⟩
  rw[<-hm25]
  have hx25:Ext mm m25:=by rw[hm25];exact Ext.refl.push
  have hn25:m25.n=mm.n+1:=by rw[hm25];rfl
  have hg25:m25.get mm.n=.cells [.int .i64 (-1),.int .i64 (-2)] 3 none:=by rw[hm25];exact M.aV
  obtain⟨m27,b28,r2,hc,hb,q1,q2,q3,q4⟩:=vo (m:=m25) hX (n1:=m7.n) (ss:=[-1, -2]) (hx25.cells hr) (hx25.cells gum) (by omega) (by omega) (by omega) (by omega) (how.aD hx25) (yC hg25) (by rw[List.length_map,List.length_range];simp;omega) (by simp)
  refine aC hc ?_
  rw[show ag TE m27 102 (.pointer (some ⟨m1.n,0,none⟩))=some r2 by rw[zm,az q1];rfl,aa]
  refine .inr ⟨.inl (q2.flat (by simp)),by omega,⟨by omega,fun c hc=>by rw[q4 c (by omega) (by omega),hx25.get c (by omega),hkm c (by omega) (by omega),hx7.get c (by omega),hx1.get c hc]⟩,?_⟩
  unfold lg;rw[if_pos h]
  exact q2.mono (by omega)
end Go.Proofs.YtmdfgncoekfgdaaGreatDoor
namespace Go.Proofs.YtmdfgncoekfgdaaGreatDoor
open Go Go.D
variable {X:aF} {m:M}
theorem Hs{α:Type}[aY α](hty:aY.jN α=[]){n1:Nat}{m m':M}{l:List α}{r:Value}(h:Ow n1 m l r)(hk:∀a n k,r=.slice (some a) n k->m'.get a.block=m.get a.block):Ow n1 m' l r:=by
 rcases h with h |⟨b,cs,rfl,h2,h3,h4,h5,h6⟩
 ·exact .inl h
 ·refine .inr ⟨b,cs,rfl,h2,h3,by rw[hk _ _ _ rfl,h4],h5,fun i x hi=>aY.bw (h6 i x hi) fun b c t g _ ht=>?_⟩
  rw[hty]at ht;cases ht
theorem CD{x:Ct}{b:Nat}{g:Option Nat}(h:m.get b=.cells x.c' 115 g):ag TE m 115 (.pointer (some ⟨b,0,none⟩))=some x.v:=by
 rw[zk,aH (o:=0) (n:=8) h (by show 0+8<=8;exact Nat.le_refl _)];rfl
theorem Hy{x:Ct}:aE TE m 110 1 [(0,x.v)]=some (.slice (some ⟨m.n,0,none⟩) 1 1,m.push (.cells x.c' 115 none)):=by kernel_rfl
theorem qj:∀l:List UW,eS (cd l)=(dM l).map fun p=>(p.1.u,p.2.u)
 |[]=>rfl
 |x::r=>by
  show(cd r).map (fun y=>(x.u,y))++eS (cd r)=(r.map (fun b=>(x,b))++dM r).map _
  rw[qj r,List.map_append,cd,List.map_map,List.map_map];rfl
theorem nM:∀us:List Un,(eS us).length<=us.length*us.length
 |[]=>by simp[eS]
 |x::r=>by
  rw[eS,List.length_append,List.length_map]
  have:=nM r
  rw[List.length_cons,Nat.mul_add,Nat.add_mul]
  omega
theorem Jt(l:List UW):cf (cd l)=(l.filterMap fun x=>dm x.u)++(dM l).filterMap fun p=>dp p.1.u p.2.u:=by
 unfold cf
 rw[qj,List.filterMap_map,cd,List.filterMap_map];rfl
theorem qC(us:List Un):(cf us).length<=us.length+us.length*us.length:=by
 unfold cf
 rw[List.length_append]
 have h1:=List.length_filterMap_le dm us
 have h2:=List.length_filterMap_le (fun p:Un×Un=>dp p.1 p.2) (eS us)
 have h3:=nM us
 omega
set_option maxRecDepth 100000 in
theorem zR{sc:List Ct->List Ct}(hX:dF X)(hS:xF X sc){l:List UW}{v:Value}(h:eF m l v)(hlen:l.length<=12):
  ∃m' r,C X (.func 123) [.agg #[v]] m m.n r m'/\Ext m m'/\Ow m.n m' (sc (cf (cd l))) r:=by
 have key:=Cl.gen (E:=TE) (X:=X) (f:=123) (args:=[.agg #[v]]) (m:=m) (R:=fun v' m' b=>b=m.n/\Ext m m'/\Ow m.n m' (sc (cf (cd l))) v') (hX.no _ rfl) N8 rfl ?_
 ·obtain⟨v',m',b,hc,rfl,hx,hw⟩:=key
  exact⟨m',v',hc,hx,hw⟩
 have hcl:(cf (cd l)).length<=160:=by
  have h1:=qC (cd l)
  rw[dZ]at h1
  have:l.length*l.length<=12*12:=Nat.mul_le_mul hlen hlen
  omega
 rw[Tl];dsimp only[aN]
 refine ar fun m1 hn1 hg1 hk1=>?_
 refine ar fun m2 hn2 hg2 hk2=>?_
 have hx2:Ext m m2:=⟨by omega,fun c hc=>by rw[hk2 c (by omega),hk1 c hc]⟩
 have g1:m2.get m.n=.cells [v] 31 none:=by rw[hk2 _ (by omega),hg1];rfl
 have ldF:∀mm:M,mm.get m.n=.cells [v] 31 none->ag TE mm 29 (.pointer (some ⟨m.n,0+0,none⟩))=some v:=fun mm hh=>by rw[fD,az hh];rfl
 have keepF:∀mm:M,(∀c,c < m2.n->c≠m1.n->mm.get c=m2.get c)->eF mm l v:=fun mm hk=>h.bw fun c cs t g hb _=>by
  have:=M.aI hb
  rw[hk c (by omega) (by omega),hx2.get c this,hb]
 unfold ptrTo
 rw[bR,aa,ldF m2 g1,aa,(h.sl.aD hx2).len eP,au]
 refine Lp.intro (γ:=Nat) (fun i=>l.length-i) (fun i vs mm lo=>vs=[.int .i64 i]/\i<=l.length/\m2.n<=mm.n/\(∀c,c < m2.n->c≠m1.n->mm.get c=m2.get c)/\m.n<=lo/\∃r,mm.get m1.n=.cells [r] 110 none/\Ow m2.n mm ((l.take i).filterMap fun x=>dm x.u) r) 0
  ⟨rfl,Nat.zero_le _,Nat.le_refl _,fun _ _ _=>rfl,Nat.le_refl _,_,hg2,Ow.nil⟩ ?_
 rintro i vs mm lo ⟨rfl,hi,hnm,hkm,hlo,r,hr,how⟩
 rw[aA,aM,aa,aj]
 have hFm:=keepF mm hkm
 refine ak (fun hlt=>?_) (fun hge=>?_)
 ·have hlt:i < l.length:=by simpa using hlt
  obtain⟨x,hxi⟩:∃a,l[i]?=some a:=⟨_,List.getElem?_eq_getElem hlt⟩
  have hxm:=List.mem_of_getElem? hxi
  obtain⟨q,e1,e2,ow⟩:=hFm.sl.iQ (k:=.i64) hxi
  rw[e1,aa,e2,aa]
  refine ar fun m15 hn15 hg15 hk15=>?_
  refine av eH hg15 rfl rfl (Un.eE ow) fun m16 hn16 hg16 hk16=>?_
  have hx16:Ext mm m16:=⟨by omega,fun b hb=>by rw[hk16 b (by omega),hk15 b hb]⟩
  have g16:m16.get mm.n=.cells (x.u.c x.w) 87 none:=hg16
  rw[bP g16,aa]
  refine aC (Al hX ((hFm.sh x hxm).aD hx16) (by have:=h.ln x hxm;omega)) ?_
  rw[aR,aR]
  simp only[List.getElem?_cons_zero,List.getElem?_cons_succ,aa]
  refine ar fun m24 hn24 hg24 hk24=>?_
  refine av se hg24 (by rw[aL];exact jY _) (by rw[aL];exact jY _) (by rw[aL];exact wV _) fun m25 hn25 hg25 hk25=>?_
  rw[aL]at hg25
  have hg25:m25.get m16.n=.cells (Bh (dm x.u)) 115 none:=hg25
  have hx25:Ext mm m25:=hx16.trans ⟨by omega,fun b hb=>by rw[hk25 b (by omega),hk24 b hb]⟩
  have hxn:=hx25.n
  have htake:((l.take (i+1)).filterMap fun x=>dm x.u)=((l.take i).filterMap fun x=>dm x.u)++(dm x.u).toList:=by
   rw[List.take_add_one,hxi,List.filterMap_append]
   cases hs:dm x.u <;>simp[hs]
  rw[aj]
  cases hs:dm x.u with
  |none=>
   show pB false _ _
   rw[aU,aG,aa,wrap64 (by omega) (by omega)]
   refine⟨i+1,by omega,rfl,by omega,by omega,fun c hc hne=>by rw[hx25.get c (by omega),hkm c hc hne],by omega,r,hx25.cells hr,?_⟩
   rw[htake,hs]
   simp only[Option.toList_none,List.append_nil]
   exact how.aD hx25
  |some c=>
   rw[hs]at hg25
   have hg25:m25.get m16.n=.cells c.c' 115 none:=hg25
   show pB true _ _
   rw[bZ,show ag TE m25 110 (.pointer (some ⟨m1.n,0,none⟩))=some r by rw[pk,az (hx25.cells hr)];rfl,aa,CD hg25,aa,Hy,au]
   obtain⟨m30,hm30⟩:∃x,x=m25.push (.cells c.c' 115 none):=⟨_,rfl⟩
   rw[<-hm30]
   have hx30:Ext mm m30:=by rw[hm30];exact hx25.push
   have hn30:m30.n=m25.n+1:=by rw[hm30];rfl
   have hg30:m30.get m25.n=.cells c.c' 115 none:=by rw[hm30];exact M.aV
   obtain⟨r2,m32,m33,a1,a2,a3,a4,a5,a6,a7,a8⟩:=yO (T:=110) JO rfl GI rfl (m:=mm) (m1:=m30) (x:=c) hr (o:=0) rfl (by omega) hnm how hx30 (so hg30 rfl) (by
    have:=List.length_filterMap_le (fun x:UW=>dm x.u) (l.take i)
    rw[List.length_take]at this;omega)
   rw[a1,au,a2,au,aG,aa,wrap64 (by omega) (by omega)]
   refine⟨i+1,by omega,rfl,by omega,by omega,fun c hc hne=>by rw[a7 c hc hne,hkm c hc hne],by omega,r2,a4,?_⟩
   rw[htake,hs]
   exact a5
 have hi':i=l.length:=by
  have:¬(i:Int)< (l.length:Int):=by simpa using hge
  omega
 subst hi'
 rw[List.take_length]at how
 have g1m:mm.get m.n=.cells [v] 31 none:=by rw[hkm _ (by omega) (by omega),g1]
 rw[eo,aH g1m (by simp)]
 show ah (some (Value.agg #[v])) _
 rw[aa]
 obtain⟨m39,hc39,hx39,hn39,hg39⟩:=yR (m:=mm) hX h.sl.cells
 refine aC hc39 ?_
 rw[bO]
 have o39:∀c,c < m2.n->c≠m1.n->m39.get c=m2.get c:=fun c hc hne=>by rw[hx39.get c (by omega),hkm c hc hne]
 refine⟨_,eG l,_,fun k m'=>m39.n<=m'.n/\(∀c,c < m2.n->c≠m1.n->m'.get c=m2.get c)/\m'.get mm.n=.cells [v] 31 none/\∃r,m'.get m1.n=.cells [r] 110 none/\Ow m2.n m' ((l.filterMap fun x=>dm x.u)++((dM l).take k).filterMap fun p=>dp p.1.u p.2.u) r/\∀a n k,r=.slice (some a) n k->a.block≠m39.n,
  fun _ _=>False,m.n,⟨_,rfl⟩,vd hX (v:=v) (b:=mm.n) (by omega),by omega,?_,?_,?_,⟨Nat.le_refl _,o39,hg39,r,hx39.cells hr,by rw[List.take_zero,List.filterMap_nil,List.append_nil];exact how.aD hx39,fun a n k e=>?_⟩,?_,?_,?_⟩
 ·rintro k m' ⟨h1,h2,h3, -⟩
  exact⟨h3,keepF m' h2⟩
 ·rintro k m' m'' ⟨h1,h2,h3,r,h4,h5,h6⟩ hk
  have hkn:=hk.n
  refine⟨by omega,fun c hc hne=>by rw[hk.get c (by omega) (by omega),h2 c hc hne],by rw[hk.get _ (by omega) (by omega),h3],r,by rw[hk.get _ (by omega) (by omega),h4],Hs rfl h5 fun a n k e=>?_,h6⟩
  obtain⟨cs,g,hb, -⟩:=fy h5 e
  exact hk.get _ (M.aI hb) (h6 a n k e)
 ·rintro e m' m'' h;exact h.elim
 ·obtain⟨cs,g,hb, -⟩:=fy how e
  have:=M.aI hb
  omega
 ·rintro k args m42 hn42 hxk ⟨h1,h2,h3,r,h4,h5,h6⟩
  obtain⟨⟨a,b⟩,hp,rfl⟩:=yS hxk
  obtain⟨ha,hb,i',j',hij,hai,hbj⟩:=nL (List.mem_of_getElem? hp)
  have hF:=keepF m42 h2
  have oa:one a.w=true:=(hF.sh a ha).one
  have ob:one b.w=true:=(hF.sh b hb).one
  rw[aA,aA,vK]
  refine ar fun m48 hn48 hg48 hk48=>?_
  refine av eH hg48 rfl rfl (Un.eE oa) fun m49 hn49 hg49 hk49=>?_
  refine ar fun m51 hn51 hg51 hk51=>?_
  refine av eH hg51 rfl rfl (Un.eE ob) fun m52 hn52 hg52 hk52=>?_
  have eO:∀c,c < m42.n->m52.get c=m42.get c:=fun c hc=>by rw[hk52 c (by omega),hk51 c (by omega),hk49 c (by omega),hk48 c hc]
  refine⟨fun c _ hc=>eO c hc,fun m54 hn54 hk54=>?_⟩
  dsimp only
  have r1:m54.get m42.n=.cells (a.u.c a.w) 87 none:=by rw[hk54 _ (by omega),hk52 _ (by omega),hk51 _ (by omega),hg49];rfl
  have r2:m54.get m49.n=.cells (b.u.c b.w) 87 none:=by rw[hk54 _ (by omega),hg52];rfl
  have o54:∀c,c < m42.n->c≠m39.n->m54.get c=m42.get c:=fun c hc hne=>by rw[hk54 c hne,eO c hc]
  have o54':∀c,c < m2.n->c≠m1.n->m54.get c=m2.get c:=fun c hc hne=>by rw[o54 c (by omega) (by omega),h2 c hc hne]
  have hF54:=keepF m54 o54'
  have h4':m54.get m1.n=.cells [r] 110 none:=by rw[o54 _ (by omega) (by omega),h4]
  have h5':Ow m2.n m54 ((l.filterMap fun x=>dm x.u)++((dM l).take k).filterMap fun p=>dp p.1.u p.2.u) r:=Hs rfl h5 fun ad n k e=>by
   obtain⟨cs,g,hb, -⟩:=fy h5 e
   exact o54 _ (M.aI hb) (h6 ad n k e)
  have h3':m54.get mm.n=.cells [v] 31 none:=by rw[o54 _ (by omega) (by omega),h3]
  have hkl:k < (dM l).length:=(List.getElem?_eq_some_iff.1 hp).1
  rw[bP r1,aa,bP r2,aa]
  refine aC (Dk hX hS (hF54.sh a ha) (hF54.sh b hb) (by have:=h.ln a ha;omega) (by have:=h.ln b hb;omega)) ?_
  rw[aR,aR]
  simp only[List.getElem?_cons_zero,List.getElem?_cons_succ,aa]
  refine ar fun m62 hn62 hg62 hk62=>?_
  refine av se hg62 (by rw[aL];exact jY _) (by rw[aL];exact jY _) (by rw[aL];exact wV _) fun m63 hn63 hg63 hk63=>?_
  rw[aL]at hg63
  have hg63:m63.get m54.n=.cells (Bh (dp a.u b.u)) 115 none:=hg63
  have hx63:Ext m54 m63:=⟨by omega,fun b hb=>by rw[hk63 b (by omega),hk62 b hb]⟩
  have htake:(((dM l).take (k+1)).filterMap fun p=>dp p.1.u p.2.u)=(((dM l).take k).filterMap fun p=>dp p.1.u p.2.u)++(dp a.u b.u).toList:=by
   rw[List.take_add_one,hp,List.filterMap_append]
   cases hs:dp a.u b.u <;>simp[hs]
  rw[aj]
  cases ht:dp a.u b.u with
  |none=>
   show pB false _ _
   rw[aU]
   refine⟨by omega,fun c hc1 hc2 _=>hx63.get c (by omega),by omega,fun c hc hne=>by rw[hx63.get c (by omega),o54' c hc hne],by rw[hx63.get _ (by omega),h3'],r,hx63.cells h4',?_,h6⟩
   rw[htake,ht]
   simp only[Option.toList_none,List.append_nil]
   exact h5'.aD hx63
  |some c=>
   rw[ht]at hg63
   have hg63:m63.get m54.n=.cells c.c' 115 none:=hg63
   show pB true _ _
   rw[bZ,show ag TE m63 110 (.pointer (some ⟨m1.n,0,none⟩))=some r by rw[pk,az (hx63.cells h4')];rfl,aa,CD hg63,aa,Hy,au]
   obtain⟨m68,hm68⟩:∃x,x=m63.push (.cells c.c' 115 none):=⟨_,rfl⟩
   rw[<-hm68]
   have hx68:Ext m54 m68:=by rw[hm68];exact hx63.push
   have hn68:m68.n=m63.n+1:=by rw[hm68];rfl
   have hg68:m68.get m63.n=.cells c.c' 115 none:=by rw[hm68];exact M.aV
   obtain⟨r',m70,m71,⟨⟨kk,hr'⟩,a9⟩,a1,a2,a3,a4,a5,a6,a7,a8⟩:=Hj (T:=110) JO rfl GI rfl (m:=m54) (m1:=m68) (x:=c) h4' (o:=0) rfl (by omega) (by omega) h5' hx68 (so hg68 rfl) (by
    have e1:=List.length_filterMap_le (fun x:UW=>dm x.u) l
    have e2:=List.length_filterMap_le (fun p:UW×UW=>dp p.1.u p.2.u) ((dM l).take k)
    have e3:=nM (cd l)
    rw[qj,List.length_map,dZ]at e3
    have e4:l.length*l.length<=12*12:=Nat.mul_le_mul hlen hlen
    rw[List.length_take]at e2
    rw[List.length_append];omega)
   rw[a1,au,a2,au]
   refine⟨by omega,fun c hc1 hc2 hc3=>?_,by omega,fun c hc hne=>by rw[a7 c hc hne,o54' c hc hne],?_,r',a4,?_,fun ad n k e=>?_⟩
   ·by_cases e0:c=m39.n
    ·rw[a9 c (by omega) (by omega) (fun ad n k e=>by rw[e0];exact fun q=>h6 ad n k e q.symm),hx68.get c (by omega)]
    ·rcases hc3 with q |⟨cs,g,q⟩
     ·exact(e0 q).elim
     ·rw[a8 c (by omega) (by omega) (fun cs' g' q'=>by rw[hx68.get c (by omega),q]at q';cases q'),hx68.get c (by omega)]
   ·rw[a8 mm.n (by omega) (by omega) (fun cs' g' q'=>by rw[hx68.get _ (by omega),h3']at q';cases q'),hx68.get _ (by omega),h3']
   ·rw[htake,ht,<-List.append_assoc]
    exact a5
   ·rw[hr']at e
    cases e
    show m68.n≠m39.n
    omega
 ·rintro m73 lo74 ⟨h1,h2,h3,r,h4,h5,h6⟩ hlo74
  have hall:((dM l).take (eG l).length)=dM l:=by
   rw[mF,List.length_map,List.take_length]
  rw[hall,<-Jt]at h5
  rw[show ag TE m73 110 (.pointer (some ⟨m1.n,0,none⟩))=some r by rw[pk,az h4];rfl,aa]
  obtain⟨m77,b78,hc,hw,hb,hn77,hk77⟩:=hS.ct m73 m2.n _ r (by omega) h5 (by omega)
  refine aC hc ?_
  have hne:∀c,c < m2.n->∀a n k,r=.slice (some a) n k->c≠a.block:=fun c hc a n k e=>by
   obtain⟨cs,g,_,hge⟩:=fy h5 e
   omega
  rw[show ag TE m77 110 (.pointer (some ⟨m1.n,0,none⟩))=some r by rw[pk,az ((hk77 _ (hne _ (by omega))).trans h4)];rfl,aa]
  show(bY r=true/\_)\/_
  have hp:=hS.perm (cf (cd l))
  cases hcl0:cf (cd l)with
  |nil=>
   rw[hcl0]at h5 hp hw
   rcases h5 with⟨rfl, -⟩ |⟨b,cs, -,h', -⟩
   ·refine .inl ⟨rfl,by omega,rfl,.refl,?_⟩
    rw[List.Perm.eq_nil hp]
    exact Ow.nil
   ·simp at h'
  |cons c0 cr=>
   rw[<-hcl0]
   have hwne:sc (cf (cd l))≠ []:=by
    intro e
    have:=hp.length_eq
    rw[e,hcl0]at this
    simp at this
   refine .inr ⟨.inl (hw.flat hwne),by omega,⟨by omega,fun c hc=>?_⟩,hw.mono (by omega)⟩
   rw[hk77 c (hne c (by omega)),h2 c (by omega) (by omega),hx2.get c hc]
 ·rintro e m' eZ hne h;exact h.elim
theorem pE{sc:List Ct->List Ct}(hX:dF X)(hS:xF X sc){l:List UW}{v:Value}(h:eF m l v)(hf:gP (cd l)=true):
  ∃m' r,C X (.func 49) [.agg #[v]] m m.n r m'/\Ext m m'/\Ow m.n m' (sc (cf (cd l))) r:=by
 have hlen:l.length<=12:=by have:=(zK.1 hf).len;rw[dZ]at this;exact this
 have key:=Cl.gen (E:=TE) (X:=X) (f:=49) (args:=[.agg #[v]]) (m:=m) (R:=fun v' m' b=>b=m.n/\Ext m m'/\Ow m.n m' (sc (cf (cd l))) v') (hX.no _ rfl) Qv rfl ?_
 ·obtain⟨v',m',b,hc,rfl,hx,hw⟩:=key
  exact⟨m',v',hc,hx,hw⟩
 rw[F49];dsimp only[aN]
 refine ar fun m1 hn1 hg1 hk1=>?_
 have hx1:Ext m m1:=⟨by omega,hk1⟩
 have g1:m1.get m.n=.cells [v] 31 none:=hg1
 have ld:ag TE m1 31 (.pointer (some ⟨m.n,0,none⟩))=some (.agg #[v]):=by rw[eo,aH g1 (by simp)];rfl
 unfold ptrTo
 rw[ld,aa]
 refine aC (qs hX (h.aD hx1) (by omega)) ?_
 rw[hf,bD,aa,aj,Bool.not_true,aU,ld,aa]
 obtain⟨m9,r,hc,hx9,hw⟩:=zR hX hS (h.aD hx1) hlen
 refine aC hc ?_
 have hp:=hS.perm (cf (cd l))
 show(bY r=true/\_)\/_
 cases hcl0:sc (cf (cd l))with
 |nil=>
  rw[hcl0]at hw
  rcases hw with⟨rfl, -⟩ |⟨b,cs, -,h', -⟩
  ·exact .inl ⟨rfl,by omega,rfl,.refl,Ow.nil⟩
  ·simp at h'
 |cons c0 cr=>
  rw[hcl0]at hw
  exact .inr ⟨.inl (hw.flat (by simp)),by omega,hx1.trans hx9,hw.mono (by omega)⟩
end Go.Proofs.YtmdfgncoekfgdaaGreatDoor
namespace Go.Proofs.YtmdfgncoekfgdaaGreatDoor
open Go Go.D
set_option maxRecDepth 100000 in
theorem SF{W:Words}{x0 x1 x2:Value}{m:M}{R:List Value->M->Nat->Prop}:dN TE W Tryz.f261 [x0,x1,x2] m R=
(W.jn (fun a=>W.ah (an TE .leq 3 x1 x0) fun b=>aX b
(W.ah (an TE .leq 3 x0 x2) fun c=>a [c] m m.n)
(a [(.bool false)] m m.n))
(fun d f g=>W.un d fun h i=>R [h] f g)):=by kernel_rfl
set_option maxRecDepth 100000 in
theorem SG{W:Words}{x0:Value}{m:M}{R:List Value->M->Nat->Prop}:dN TE W Tryz.f248 [x0] m R=
(W.bB (.func 261) [x0,(.int .i64 0),(.int .i64 99)] m fun a b c=>R [a] b (min m.n c)):=by kernel_rfl
set_option maxRecDepth 100000 in
theorem SL{W:Words}{x0:Value}{m:M}{R:List Value->M->Nat->Prop}:dN TE W Tryz.f210 [x0] m R=
(W.bW (M.push m (.cells (cells x0) 89 none)) fun a=>W.jn (fun b=>W.ah (ae TE 89 (ptrTo m.n) 0) fun c=>W.ah (ag TE a 3 c) fun d=>W.bB (.func 261) [d,(.int .i64 0),(.int .i64 99)] a fun f g h=>aX f
(W.ah (ae TE 89 (ptrTo m.n) 1) fun i=>W.ah (ag TE g 3 i) fun j=>W.bB (.func 248) [j] g fun k l n=>aX k
(W.ah (ae TE 89 (ptrTo m.n) 2) fun o=>W.ah (ag TE l 3 o) fun p=>W.bB (.func 261) [p,(.int .i64 (-2)),(.int .i64 7)] l fun q r s=>aX q
(W.ah (ae TE 89 (ptrTo m.n) 3) fun t=>W.ah (ag TE r 3 t) fun u=>W.bB (.func 261) [u,(.int .i64 1),(.int .i64 5)] r fun v w y=>b [v] w (min (min (min (min m.n h) n) s) y))
(b [(.bool false)] r (min (min (min m.n h) n) s)))
(b [(.bool false)] l (min (min m.n h) n)))
(b [(.bool false)] g (min m.n h)))
(fun z A B=>W.un z fun C D=>R [C] A B)):=by kernel_rfl
set_option maxRecDepth 100000 in
theorem S7{W:Words}{x0:Value}{m:M}{R:List Value->M->Nat->Prop}:dN TE W Tryz.f156 [x0] m R=
(W.bW (M.push m (.cells (cells x0) 60 none)) fun a=>W.ah (ae TE 60 (ptrTo m.n) 1) fun b=>W.ah (ag TE a 58 b) fun c=>W.aO (aq TE a .len [58] [c]) fun d _=>W.Lp (fun f g h i=>W.un g fun j k=>W.un k fun l n=>W.un n fun o p=>W.ah (an TE .lss 3 o d) fun q=>aX q
(W.ah (ai TE 58 c o) fun r=>W.ah (ag TE h 89 r) fun s=>W.bW (M.push h (.cells [(.int .i64 0),(.int .i64 0),(.int .i64 0),(.int .i64 0),(.bool false)] 89 none)) fun t=>W.aO (aB TE t 89 (ptrTo h.n) s) fun u v=>W.ah (ae TE 60 (ptrTo m.n) 0) fun w=>W.ah (ag TE u 31 w) fun y=>W.ah (ae TE 89 (ptrTo h.n) 1) fun z=>W.ah (ag TE u 3 z) fun A=>W.bB (.func 98) [y,A] u fun B C D=>W.ah (cx B 0) fun E=>W.ah (cx B 1) fun F=>W.bW (M.push C (.cells [(.int .i64 0),(.int .i64 0),(.int .i64 0),(.slice none 0 0),(.int .i64 0),(.int .i64 0)] 87 none)) fun G=>W.aO (aB TE G 87 (ptrTo C.n) E) fun H I=>W.jn (fun J=>W.ah (iO .not F) fun K=>aX K
(J [(.bool true)] H (min (min (min i v) D) I))
(W.ah (ag TE H 89 (ptrTo h.n)) fun L=>W.bB (.func 210) [L] H fun N O P=>W.ah (iO .not N) fun Q=>aX Q
(J [(.bool true)] O (min (min (min (min i v) D) I) P))
(W.ah (ae TE 89 (ptrTo h.n) 0) fun S=>W.ah (ag TE O 3 S) fun T=>W.ah (an TE .leq 3 T l) fun U=>aX U
(J [(.bool true)] O (min (min (min (min i v) D) I) P))
(W.ah (ae TE 89 (ptrTo h.n) 2) fun V=>W.ah (ag TE O 3 V) fun X=>W.ah (ae TE 87 (ptrTo C.n) 3) fun Y=>W.ah (ag TE O 45 Y) fun Z=>W.aO (aq TE O .len [45] [Z]) fun a0 _=>W.ah (an TE .geq 3 X a0) fun a1=>J [a1] O (min (min (min (min i v) D) I) P)))))
(fun a2 a3 a4=>W.un a2 fun a5 a6=>aX a5
(R [(.bool false)] a3 a4)
(W.ah (ae TE 89 (ptrTo h.n) 0) fun a7=>W.ah (ag TE a3 3 a7) fun a8=>W.ah (an TE .add 3 o (.int .i64 1)) fun a9=>f [j,a8,a9] a3 a4)))
(W.ah (ae TE 60 (ptrTo m.n) 1) fun b0=>W.ah (ag TE h 58 b0) fun b1=>W.aO (aq TE h .len [58] [b1]) fun b2 _=>W.ah (an TE .leq 3 b2 (.int .i64 20)) fun b3=>R [b3] h i)) [(.bool false),(.int .i64 (-1)),(.int .i64 0)] a m.n):=by kernel_rfl
set_option maxRecDepth 100000 in
theorem F99{W:Words}{x0:Value}{m:M}{R:List Value->M->Nat->Prop}:dN TE W Tryz.f99 [x0] m R=
(W.bW (M.push m (.cells (cells x0) 60 none)) fun a=>W.jn (fun b=>W.ah (ae TE 60 (ptrTo m.n) 0) fun c=>W.ah (ag TE a 31 c) fun d=>W.bB (.func 59) [d] a fun f g h=>aX f
(W.ah (ag TE g 60 (ptrTo m.n)) fun i=>W.bB (.func 156) [i] g fun j k l=>b [j] k (min (min m.n h) l))
(b [(.bool false)] g (min m.n h)))
(fun n o p=>W.un n fun q r=>R [q] o p)):=by kernel_rfl
set_option maxRecDepth 100000 in
theorem F95{W:Words}{x0 x1:Value}{m:M}{R:List Value->M->Nat->Prop}:dN TE W Tryz.f95 [x0,x1] m R=
(W.ah (an TE .lss 3 x0 (.int .i64 0)) fun a=>aX a
(W.ah (an TE .add 3 x0 (.int .i64 1)) fun b=>W.ah (iO .neg b) fun c=>W.ah (an TE .rem 3 c x1) fun d=>R [d] m m.n)
(W.ah (an TE .rem 3 x0 x1) fun f=>R [f] m m.n)):=by kernel_rfl
set_option maxRecDepth 100000 in
theorem F96{W:Words}{x0 x1:Value}{m:M}{R:List Value->M->Nat->Prop}:dN TE W Tryz.f96 [x0,x1] m R=
(W.bW (M.push m (.cells (cells x1) 89 none)) fun a=>W.Lp (fun b c d f=>W.un c fun g h=>W.un h fun i j=>W.un j fun k l=>W.un l fun n o=>W.un o fun p q=>W.aO (aq TE d .len [58] [x0]) fun r _=>W.ah (an TE .lss 3 p r) fun s=>aX s
(W.ah (ai TE 58 x0 p) fun t=>W.ah (ae TE 89 t 0) fun u=>W.ah (ag TE d 3 u) fun v=>W.ah (ae TE 89 (ptrTo m.n) 0) fun w=>W.ah (ag TE d 3 w) fun y=>W.ah (an TE .eql 3 v y) fun z=>aX z
(R [(.slice none 0 0),(.bool false)] d f)
(W.jn (fun A=>W.ah (iO .not n) fun B=>aX B
(W.ah (ai TE 58 x0 p) fun C=>W.ah (ae TE 89 C 0) fun D=>W.ah (ag TE d 3 D) fun E=>W.ah (ae TE 89 (ptrTo m.n) 0) fun F=>W.ah (ag TE d 3 F) fun G=>W.ah (an TE .gtr 3 E G) fun H=>A [H] d f)
(A [(.bool false)] d f))
(fun I J K=>W.un I fun L N=>aX L
(W.ah (ag TE J 89 (ptrTo m.n)) fun O=>W.aO (aE TE J 58 1 [(0,O)]) fun P Q=>W.aO (aq TE (M.wl Q Q.n) .append [58,58] [k,P]) fun S T=>W.ah (ai TE 58 x0 p) fun U=>W.ah (ag TE T 89 U) fun V=>W.aO (aE TE T 58 1 [(0,V)]) fun X Y=>W.aO (aq TE (M.wl Y Y.n) .append [58,58] [S,X]) fun Z a0=>W.ah (an TE .add 3 p (.int .i64 1)) fun a1=>b [g,i,Z,(.bool true),a1] a0 (min (min K (M.low T)) (M.low a0)))
(W.ah (ai TE 58 x0 p) fun a2=>W.ah (ag TE J 89 a2) fun a3=>W.aO (aE TE J 58 1 [(0,a3)]) fun a4 a5=>W.aO (aq TE (M.wl a5 a5.n) .append [58,58] [k,a4]) fun a6 a7=>W.ah (an TE .add 3 p (.int .i64 1)) fun a8=>b [g,i,a6,n,a8] a7 (min K (M.low a7))))))
(W.ah (iO .not n) fun a9=>aX a9
(W.ah (ag TE d 89 (ptrTo m.n)) fun b0=>W.aO (aE TE d 58 1 [(0,b0)]) fun b1 b2=>W.aO (aq TE (M.wl b2 b2.n) .append [58,58] [k,b1]) fun b3 b4=>R [b3,(.bool true)] b4 (min f (M.low b4)))
(R [k,(.bool true)] d f))) [(.slice none 0 0),(.bool false),(.slice none 0 0),(.bool false),(.int .i64 0)] a m.n):=by kernel_rfl
set_option maxRecDepth 100000 in
theorem F34{W:Words}{x0:Value}{m:M}{R:List Value->M->Nat->Prop}:dN TE W Tryz.f34 [x0] m R=
(W.bW (M.push m (.cells (cells x0) 57 none)) fun a=>W.bW (M.push a (.cells [(.slice none 0 0),(.slice none 0 0)] 60 none)) fun b=>W.ah (ae TE 57 (ptrTo m.n) 0) fun c=>W.ah (ag TE b 22 c) fun d=>W.bB (.func 9) [d] b fun f g h=>W.ah (aW TE 60 [(0,f)]) fun i=>W.bW (M.push g (.cells [(.slice none 0 0),(.slice none 0 0)] 60 none)) fun j=>W.aO (aB TE j 60 (ptrTo g.n) i) fun k l=>W.Lp (fun n o p q=>W.un o fun r s=>W.jn (fun t=>W.ah (ae TE 57 (ptrTo m.n) 1) fun u=>W.ah (ag TE p 55 u) fun v=>W.aO (aq TE p .len [55] [v]) fun w _=>W.ah (an TE .lss 3 r w) fun y=>aX y
(W.ah (an TE .lss 3 r (.int .i64 8)) fun z=>aX z
(W.ah (ae TE 60 (ptrTo g.n) 0) fun A=>W.ah (ae TE 31 A 0) fun B=>W.ah (ag TE p 29 B) fun C=>W.aO (aq TE p .len [29] [C]) fun D _=>W.ah (an TE .gtr 3 D (.int .i64 0)) fun E=>t [E] p q)
(t [(.bool false)] p q))
(t [(.bool false)] p q))
(fun F G H=>W.un F fun I J=>aX I
(W.ah (ae TE 57 (ptrTo m.n) 1) fun K=>W.ah (ag TE G 55 K) fun L=>W.ah (ai TE 55 L r) fun N=>W.ah (ag TE G 166 N) fun O=>W.bW (M.push G (.cells [(.int .i64 0),(.int .i64 0),(.int .i64 0),(.int .i64 0)] 166 none)) fun P=>W.aO (aB TE P 166 (ptrTo G.n) O) fun Q S=>W.ah (ae TE 60 (ptrTo g.n) 0) fun T=>W.ah (ae TE 31 T 0) fun U=>W.ah (ag TE Q 29 U) fun V=>W.ah (ai TE 166 (ptrTo G.n) (.int .i64 1)) fun X=>W.ah (ag TE Q 3 X) fun Y=>W.ah (ae TE 60 (ptrTo g.n) 0) fun Z=>W.ah (ae TE 31 Z 0) fun a0=>W.ah (ag TE Q 29 a0) fun a1=>W.aO (aq TE Q .len [29] [a1]) fun a2 _=>W.bB (.func 95) [Y,a2] Q fun a3 a4 a5=>(M.n Q<=a5)/\(W.ah (ai TE 29 V a3) fun a6=>W.ah (ag TE a4 87 a6) fun a7=>W.bW (M.push a4 (.cells [(.int .i64 0),(.int .i64 0),(.int .i64 0),(.slice none 0 0),(.int .i64 0),(.int .i64 0)] 87 none)) fun a8=>W.aO (aB TE a8 87 (ptrTo a4.n) a7) fun a9 b0=>W.ah (ai TE 166 (ptrTo G.n) (.int .i64 0)) fun b1=>W.ah (ag TE a9 3 b1) fun b2=>W.bB (.func 95) [b2,(.int .i64 12)] a9 fun b3 b4 b5=>(M.n a9<=b5)/\(W.ah (ae TE 87 (ptrTo a4.n) 0) fun b6=>W.ah (ag TE b4 3 b6) fun b7=>W.ah (ai TE 166 (ptrTo G.n) (.int .i64 2)) fun b8=>W.ah (ag TE b4 3 b8) fun b9=>W.ah (ae TE 87 (ptrTo a4.n) 3) fun c0=>W.ah (ag TE b4 45 c0) fun c1=>W.aO (aq TE b4 .len [45] [c1]) fun c2 _=>W.ah (an TE .add 3 c2 (.int .i64 2)) fun c3=>W.bB (.func 95) [b9,c3] b4 fun c4 c5 c6=>(M.n b4<=c6)/\(W.ah (an TE .sub 3 c4 (.int .i64 2)) fun c7=>W.ah (ai TE 166 (ptrTo G.n) (.int .i64 3)) fun c8=>W.ah (ag TE c5 3 c8) fun c9=>W.bB (.func 95) [c9,(.int .i64 5)] c5 fun d0 d1 d2=>(M.n c5<=d2)/\(W.ah (an TE .add 3 (.int .i64 1) d0) fun d3=>W.ah (ai TE 166 (ptrTo G.n) (.int .i64 3)) fun d4=>W.ah (ag TE d1 3 d4) fun d5=>W.bB (.func 95) [d5,(.int .i64 2)] d1 fun d6 d7 d8=>(M.n d1<=d8)/\(W.ah (an TE .eql 3 d6 (.int .i64 0)) fun d9=>W.ah (aW TE 89 [(0,b3),(1,b7),(2,c7),(3,d3),(4,d9)]) fun g0=>W.bW (M.push d7 (.cells [(.int .i64 0),(.int .i64 0),(.int .i64 0),(.int .i64 0),(.bool false)] 89 none)) fun g1=>W.aO (aB TE g1 89 (ptrTo d7.n) g0) fun g2 g3=>W.ah (ae TE 60 (ptrTo g.n) 1) fun g4=>W.ah (ag TE g2 58 g4) fun g5=>W.ah (ag TE g2 89 (ptrTo d7.n)) fun g6=>W.bB (.func 96) [g5,g6] g2 fun g7 g8 g9=>W.ah (cx g7 0) fun h0=>W.ah (cx g7 1) fun h1=>aX h1
(W.ah (ae TE 60 (ptrTo g.n) 1) fun h2=>W.aO (aB TE g8 58 h2 h0) fun h3 h4=>W.ah (an TE .add 3 r (.int .i64 1)) fun h5=>n [h5] h3 (min (min (min (min (min (min (min (min (min (min H S) a5) b0) b5) c6) d2) d8) g3) g9) h4))
(W.ah (an TE .add 3 r (.int .i64 1)) fun h6=>n [h6] g8 (min (min (min (min (min (min (min (min (min H S) a5) b0) b5) c6) d2) d8) g3) g9))))))))
(W.ah (ag TE G 60 (ptrTo g.n)) fun h7=>W.aO (aB TE G 60 (ptrTo a.n) h7) fun h8 h9=>ah (ag TE h8 60 (ptrTo a.n)) fun i0=>R [i0] h8 (min H h9)))) [(.int .i64 0)] k (min (min m.n h) l)):=by kernel_rfl
end Go.Proofs.YtmdfgncoekfgdaaGreatDoor
namespace Go.Proofs.YtmdfgncoekfgdaaGreatDoor
open Go Go.D
variable {X:aF} {m:M}
theorem mQ(hX:dF X)(n lo hi:Int):C X (.func 261) [.int .i64 n,.int .i64 lo,.int .i64 hi] m m.n (.bool (jL n lo hi)) m:=by
 refine Cl.flat (hX.no _ rfl) Nw rfl rfl ?_
 rw[SF];dsimp only[aN]
 refine cq (fun vs m2 lo'=>vs=[.bool (jL n lo hi)]/\m.n<=lo') (fun R hR=>?_) ?_
 ·simp only[dk,aa,aj]
  refine ak (fun h=>hR _ _ _ ⟨by simp[jL,h],Nat.le_refl _⟩) (fun h=>hR _ _ _ ⟨by simp[jL,h],Nat.le_refl _⟩)
 ·rintro _ m2 lo' ⟨rfl,hl⟩
  rw[aA]
  exact⟨rfl,hl⟩
theorem Et(hX:dF X)(n:Int):C X (.func 248) [.int .i64 n] m m.n (.bool (jL n 0 99)) m:=by
 refine Cl.flat (hX.no _ rfl) Nx rfl rfl ?_
 rw[SG];dsimp only[aN]
 refine aC (mQ hX _ _ _) ?_
 exact⟨rfl,by omega⟩
theorem Cr{b:Nat}{x:Mk}{g:Option Nat}(h:m.get b=.cells x.c 89 g):
  ag TE m 3 (.pointer (some ⟨b,0+0,none⟩))=some (.int .i64 x.id)/\ag TE m 3 (.pointer (some ⟨b,0+1,none⟩))=some (.int .i64 x.un)/\ag TE m 3 (.pointer (some ⟨b,0+2,none⟩))=some (.int .i64 x.side)/\
  ag TE m 3 (.pointer (some ⟨b,0+3,none⟩))=some (.int .i64 x.kind)/\ag TE m 89 (.pointer (some ⟨b,0,none⟩))=some x.v:=by
 refine⟨?_,?_,?_,?_,?_⟩
 ·rw[bA,az h];rfl
 ·rw[bA,az h];rfl
 ·rw[bA,az h];rfl
 ·rw[bA,az h];rfl
 ·rw[KK,aH (o:=0) (n:=5) h (by show 0+5<=5;exact Nat.le_refl _)];rfl
def HE(x:Mk):Bool:=jL x.id 0 99 && jL x.un 0 99 && jL x.side (-2) 7 && jL x.kind 1 5
theorem Eu(hX:dF X)(x:Mk):C X (.func 210) [x.v] m m.n (.bool (HE x)) m:=by
 refine Cl.flat (hX.no _ rfl) NC rfl rfl ?_
 rw[SL];dsimp only[aN]
 refine ar fun m1 hn1 hg1 hk1=>?_
 have g1:m1.get m.n=.cells x.c 89 none:=hg1
 obtain⟨k0,k1,k2,k3, -⟩:=Cr g1
 unfold ptrTo
 refine cq (fun vs m2 lo'=>vs=[.bool (HE x)]/\m.n<=lo') (fun R hR=>?_) ?_
 ·rw[dg,aa,k0,aa]
  refine aC (mQ hX _ _ _) ?_
  rw[aj]
  refine ak (fun h0=>?_) (fun h0=>hR _ _ _ ⟨by unfold HE;rw[h0];rfl,by omega⟩)
  rw[gj,aa,k1,aa]
  refine aC (Et hX _) ?_
  rw[aj]
  refine ak (fun h1=>?_) (fun h1=>hR _ _ _ ⟨by unfold HE;rw[h0,h1];rfl,by omega⟩)
  rw[gh,aa,k2,aa]
  refine aC (mQ hX _ _ _) ?_
  rw[aj]
  refine ak (fun h2=>?_) (fun h2=>hR _ _ _ ⟨by unfold HE;rw[h0,h1,h2];rfl,by omega⟩)
  rw[tG,aa,k3,aa]
  refine aC (mQ hX _ _ _) ?_
  exact hR _ _ _ ⟨by unfold HE;rw[h0,h1,h2];rfl,by omega⟩
 ·rintro _ m2 lo' ⟨rfl,hl⟩
  rw[aA]
  exact⟨rfl,hl⟩
structure oC(us:List Un)(ms:List Mk):Prop where
 len:ms.length<=20
 Mr:ms.Pairwise fun a b=>a.id < b.id
 ok:∀x∈ms,HE x=true
 un:∀x∈ms,∃u∈us,u.id=x.un/\x.side < u.shape.length
theorem _root_.Go.D.Sl.CZ{l:List Mk}{v:Value}(h:Sl m l v){i:Nat}{x:Mk}(hi:l[i]?=some x){k:IntKind}:∃a,ai TE 58 v (.int k i)=some a/\ag TE m 89 a=some x.v:=by
 obtain⟨a,cs,h1,h2,h3⟩:=h.index kN (k:=k) hi
 have h3:cs=x.c:=h3
 subst h3
 exact⟨a,h1,h2⟩
def CF(ms:List Mk):Nat->Int
 |0=> -1
 |i+1=>match ms[i]? with |some x=>x.id |none=> -1
set_option maxRecDepth 100000 in
theorem Eo(hX:dF X){l:List UW}{v vm:Value}{ms:List Mk}(h:eF m l v)(hP:cS (cd l))(hm:Sl m ms vm)(hM:oC (cd l) ms):C X (.func 156) [.agg #[v,vm]] m m.n (.bool true) m:=by
 have h20:=hM.len
 refine Cl.flat (hX.no _ rfl) NU rfl rfl ?_
 rw[S7];dsimp only[aN]
 refine ar fun m1 hn1 hg1 hk1=>?_
 have g1:m1.get m.n=.cells [v,vm] 60 none:=hg1
 have hx1:Ext m m1:=⟨by omega,hk1⟩
 unfold ptrTo
 have ldM:∀mm:M,mm.get m.n=.cells [v,vm] 60 none->ag TE mm 58 (.pointer (some ⟨m.n,0+1,none⟩))=some vm:=fun mm hh=>by rw[rQ,az hh];rfl
 have ldF:∀mm:M,mm.get m.n=.cells [v,vm] 60 none->ag TE mm 31 (.pointer (some ⟨m.n,0+0,none⟩))=some (.agg #[v]):=fun mm hh=>by rw[eo,aH (n:=1) hh (by show 0+0+1<=2;decide)];rfl
 rw[eV,aa,ldM m1 g1,aa,(hm.aD hx1).len kN,au]
 refine Lp.intro (γ:=Nat) (fun i=>ms.length-i) (fun i vs mm lo=>vs=[.bool false,.int .i64 (CF ms i),.int .i64 i]/\i<=ms.length/\Ext m1 mm/\m.n<=lo) 0 ⟨rfl,Nat.zero_le _,.refl,Nat.le_refl _⟩ ?_
 rintro i vs mm lo ⟨rfl,hi,hx,hlo⟩
 rw[aA,aA,aA,aM,aa,aj]
 have hxn:=hx.n
 refine ak (fun hlt=>?_) (fun hge=>?_)
 ·have hlt:i < ms.length:=by simpa using hlt
  obtain⟨x,hxi⟩:∃a,ms[i]?=some a:=⟨_,List.getElem?_eq_getElem hlt⟩
  have hxm:=List.mem_of_getElem? hxi
  obtain⟨u,hu,hid,hside⟩:=hM.un x hxm
  have hfu:eL (cd l) x.un=some u:=by
   obtain⟨j,hj⟩:=List.getElem?_of_mem hu
   rw[<-hid];exact lU hP hj
  obtain⟨q,e1,e2⟩:=((hm.aD hx1).aD hx).CZ (k:=.i64) hxi
  rw[e1,aa,e2,aa]
  refine ar fun m18 hn18 hg18 hk18=>?_
  refine av FT hg18 rfl rfl rfl fun m19 hn19 hg19 hk19=>?_
  have hx19:Ext mm m19:=⟨by omega,fun b hb=>by rw[hk19 b (by omega),hk18 b hb]⟩
  have gm19:m19.get mm.n=.cells x.c 89 none:=hg19
  have gs19:=hx19.cells (hx.cells g1)
  rw[cP,aa,ldF m19 gs19,aa,gj,aa,(Cr gm19).2.1,aa]
  obtain⟨ov,m26,hc,hx26,hov⟩:=wM (m:=m19) hX (h.aD ((hx1.trans hx).trans hx19)) hP x.un
  refine aC hc ?_
  rw[hfu]at hov⊢
  obtain⟨w,rfl,hw⟩:=hov
  rw[aR,aR]
  simp only[List.getElem?_cons_zero,List.getElem?_cons_succ,aa]
  refine ar fun m30 hn30 hg30 hk30=>?_
  refine av eH hg30 rfl rfl (Un.eE hw.one) fun m31 hn31 hg31 hk31=>?_
  have hx31:Ext m26 m31:=⟨by omega,fun b hb=>by rw[hk31 b (by omega),hk30 b hb]⟩
  have gu31:m31.get m26.n=.cells (u.c w) 87 none:=hg31
  have gm31:=hx31.cells (hx26.cells gm19)
  have hxn26:=hx26.n
  refine cq (fun vs m' lo=>vs=[.bool false]/\m'=m31/\m.n<=lo) (fun R hR=>?_) ?_
  ·rw[bD,aa,aj]
   show pB false _ _
   rw[aU,(Cr gm31).2.2.2.2,aa]
   refine aC (Eu hX x) ?_
   rw[hM.ok x hxm,bD,aa,aj]
   show pB false _ _
   rw[aU,dg,aa,(Cr gm31).1,aa,dk,aa,aj]
   have hlast:¬x.id<=CF ms i:=by
    cases i with
    |zero=>
     have:=hM.ok x hxm
     unfold HE jL at this
     simp only[Bool.and_eq_true,decide_eq_true_eq]at this
     show¬x.id<= -1
     omega
    |succ j=>
     obtain⟨y,hy⟩:∃a,ms[j]?=some a:=⟨_,List.getElem?_eq_getElem (by omega)⟩
     have e:CF ms (j+1)=y.id:=by
      show(match ms[j]? with |some x=>x.id |none=> -1)=y.id
      rw[hy]
     rw[e]
     have h1:=(List.getElem?_eq_some_iff.1 hy)
     have h2:=(List.getElem?_eq_some_iff.1 hxi)
     have:=List.pairwise_iff_getElem.1 hM.Mr j (j+1) (by omega) hlt (by omega)
     rw[h1.2,h2.2]at this
     omega
   rw[decide_eq_false hlast,aU,gh,aa,(Cr gm31).2.2.1,aa,bd,aa,(iD gu31).2.2.2.1,aa,(hw.aD hx31).len cF,au,cR,aa]
   exact hR _ _ _ ⟨by rw[decide_eq_false (by omega)],rfl,by omega⟩
  rintro _ m35 lo36 ⟨rfl,rfl,hlo36⟩
  rw[aA,aj,aU,dg,aa,(Cr gm31).1,aa,aG,aa,wrap64 (by omega) (by omega)]
  exact⟨i+1,by omega,by simp[CF,hxi],by omega,((hx.trans hx19).trans hx26).trans hx31,hlo36⟩
 ·have hi':i=ms.length:=by
   have:¬(i:Int)< (ms.length:Int):=by simpa using hge
   omega
  subst hi'
  rw[aa,ldM mm (hx.cells g1),aa,((hm.aD hx1).aD hx).len kN,au,dk,aa]
  refine⟨?_,hlo⟩
  rw[decide_eq_true (by omega)];rfl
theorem vz(hX:dF X){l:List UW}{v vm:Value}{ms:List Mk}(h:eF m l v)(hP:cS (cd l))(hm:Sl m ms vm)(hM:oC (cd l) ms):C X (.func 99) [.agg #[v,vm]] m m.n (.bool true) m:=by
 have hlen:l.length<=12:=by have:=hP.len;rw[dZ]at this;exact this
 refine Cl.flat (hX.no _ rfl) Qh rfl rfl ?_
 rw[F99];dsimp only[aN]
 refine ar fun m1 hn1 hg1 hk1=>?_
 have g1:m1.get m.n=.cells [v,vm] 60 none:=hg1
 have hx1:Ext m m1:=⟨by omega,hk1⟩
 unfold ptrTo
 refine cq (fun vs m' lo=>vs=[.bool true]/\m.n<=lo) (fun R hR=>?_) ?_
 ·rw[cP,aa,show ag TE m1 31 (.pointer (some ⟨m.n,0+0,none⟩))=some (.agg #[v]) by rw[eo,aH (n:=1) g1 (by show 0+0+1<=2;decide)];rfl,aa]
  refine aC (qs hX (h.aD hx1) (by omega)) ?_
  rw[jk hP,aj,bZ,show ag TE m1 60 (.pointer (some ⟨m.n,0,none⟩))=some (.agg #[v,vm]) by rw[mN,aH (n:=2) g1 (by show 0+2<=2;decide)];rfl,aa]
  refine aC (Eo hX (h.aD hx1) hP (hm.aD hx1) hM) ?_
  exact hR _ _ _ ⟨rfl,by omega⟩
 ·rintro _ m' lo ⟨rfl,hlo⟩
  rw[aA]
  exact⟨rfl,hlo⟩
end Go.Proofs.YtmdfgncoekfgdaaGreatDoor
namespace Go.Proofs.YtmdfgncoekfgdaaGreatDoor
open Go Go.D
variable {X:aF} {m:M}
theorem kp(hX:dF X){c n:Int}(hc:nb c)(hn:0 < n):C X (.func 95) [.int .i64 c,.int .i64 n] m m.n (.int .i64 (dR c n)) m:=by
 refine Cl.flat (hX.no _ rfl) Qk rfl rfl ?_
 rw[F95];dsimp only[aN]
 exact qi hc hn (P:=fun v=>bs [v]=.int .i64 (dR c n)/\m.n<=m.n) ⟨rfl,Nat.le_refl _⟩
structure I4 where
 a:Int
 b:Int
 c:Int
 d:Int
def I4.c'(x:I4):List Value:=[.int .i64 x.a,.int .i64 x.b,.int .i64 x.c,.int .i64 x.d]
def I4.ok(x:I4):Prop:=nb x.a/\nb x.b/\nb x.c/\nb x.d
instance:aY I4 where
 ty:=166
 sz:=4
 agg:=true
 jN:=[]
 rep _ x cs:=cs=x.c'
 pos:=by decide
 one:=by intro h;cases h
 len:=by rintro _ _ _ rfl;rfl
 lO:=by rintro _ _ _ rfl;rfl
 bw:=by rintro _ _ _ _ rfl _;rfl
theorem GY:uJ TE 55 166 I4:=⟨af.t55,af.t166,by kernel_rfl,⟨_,rfl⟩,rfl,by kernel_rfl,rfl,rfl⟩
theorem P6{l:List I4}{v:Value}(h:Af m l v){i:Nat}{x:I4}(hx:l[i]?=some x):∃p,ai TE 55 v (.int .i64 i)=some p/\ag TE m 166 p=some (.agg x.c'.toArray):=by
 obtain⟨p,cs,e1,e2,e3⟩:=h.index GY (k:=.i64) hx
 have e3:cs=x.c':=e3
 subst e3
 exact⟨p,e1,e2⟩
theorem Lc{b o:Nat}{k:IntKind}{i:Nat}(hi:i < 4):ai TE 166 (.pointer (some ⟨b,o,none⟩)) (.int k i)=some (.pointer (some ⟨b,o+i,none⟩)):=by
 rcases(show i=0\/i=1\/i=2\/i=3 by omega)with rfl |rfl |rfl |rfl <;>kernel_rfl
def nW(ms:List Mk)(x:Mk):List Mk:=(ms.filter fun y=>decide (y.id < x.id))++x::(ms.filter fun y=>decide (x.id < y.id))
def ic(ms:List Mk)(x:Mk):List Mk:=(ms.filter fun y=>decide (y.id < x.id))++(if(ms.filter fun y=>decide (x.id < y.id))=[]then []else x::(ms.filter fun y=>decide (x.id < y.id)))
theorem xE{ms:List Mk}{x y:Mk}(hne:y.id≠x.id)(hasc:∀z∈ms,z.id < y.id):
  ic (ms++ [y]) x=if(ms.filter fun z=>decide (x.id < z.id))=[]/\x.id < y.id then ic ms x++ [x]++ [y]else ic ms x++ [y]:=by
 unfold ic
 rw[List.filter_append,List.filter_append]
 by_cases h:x.id < y.id
 ·have h2:¬y.id < x.id:=by omega
  simp only[List.filter_cons,decide_eq_true h,decide_eq_false h2,List.filter_nil,Bool.false_eq_true,if_true,if_false,List.append_nil,h,and_true]
  by_cases he:(ms.filter fun z=>decide (x.id < z.id))=[]
  ·rw[he];simp
  ·rw[if_neg he,if_neg (by simp),if_neg he];simp
 ·have h2:y.id < x.id:=by omega
  have he:(ms.filter fun z=>decide (x.id < z.id))=[]:=by
   rw[List.filter_eq_nil_iff]
   intro z hz
   have:=hasc z hz
   simp;omega
  simp only[List.filter_cons,decide_eq_false h,decide_eq_true h2,List.filter_nil,Bool.false_eq_true,if_true,if_false,h,and_false,he]
  simp
theorem Ad(ms:List Mk)(x:Mk):(ic ms x).length<=ms.length+1:=by
 unfold ic
 have:(ms.filter fun y=>decide (y.id < x.id)).length+(ms.filter fun y=>decide (x.id < y.id)).length<=ms.length:=by
  induction ms with
  |nil=>simp
  |cons a r ih=>
   simp only[List.filter_cons]
   by_cases h:a.id < x.id
   ·have:¬x.id < a.id:=by omega
    simp[h,this];omega
   ·by_cases h':x.id < a.id
    ·simp[h,h'];omega
    ·simp[h,h'];omega
 split
 ·rw[List.append_nil];omega
 ·rw[List.length_append,List.length_cons];omega
theorem KW{ms:List Mk}{x:Mk}:nW ms x=if(ms.filter fun y=>decide (x.id < y.id))=[]then ic ms x++ [x]else ic ms x:=by
 unfold nW ic
 split
 ·rename_i h;rw[h];simp
 ·rfl
theorem zw(ms:List Mk)(x:Mk):(nW ms x).length<=ms.length+1:=by
 have:(ms.filter fun y=>decide (y.id < x.id)).length+(ms.filter fun y=>decide (x.id < y.id)).length<=ms.length:=by
  induction ms with
  |nil=>simp
  |cons a r ih=>
   simp only[List.filter_cons]
   by_cases h:a.id < x.id
   ·have:¬x.id < a.id:=by omega
    simp[h,this];omega
   ·by_cases h':x.id < a.id
    ·simp[h,h'];omega
    ·simp[h,h'];omega
 unfold nW
 rw[List.length_append,List.length_cons];omega
theorem KU{us:List Un}{ms:List Mk}{x:Mk}(h:oC us ms)(hl:ms.length < 20)(hx:HE x=true)(hu:∃u∈us,u.id=x.un/\x.side < u.shape.length):oC us (nW ms x):=by
 have hm:∀y∈nW ms x,y=x\/y∈ms:=by
  intro y hy
  unfold nW at hy
  rw[List.mem_append,List.mem_cons,List.mem_filter,List.mem_filter]at hy
  rcases hy with h |h |h
  ·exact .inr h.1
  ·exact .inl h
  ·exact .inr h.1
 refine⟨by have:=zw ms x;omega,?_,fun y hy=>?_,fun y hy=>?_⟩
 ·unfold nW
  rw[List.pairwise_append,List.pairwise_cons]
  refine⟨h.Mr.filter _,⟨fun z hz=>by simpa using(List.mem_filter.1 hz).2,h.Mr.filter _⟩,fun a ha b hb=>?_⟩
  have ha:a.id < x.id:=by simpa using(List.mem_filter.1 ha).2
  rcases List.mem_cons.1 hb with rfl |hb
  ·exact ha
  ·have hb:x.id < b.id:=by simpa using(List.mem_filter.1 hb).2
   omega
 ·rcases hm y hy with rfl |hy
  ·exact hx
  ·exact h.ok y hy
 ·rcases hm y hy with rfl |hy
  ·exact hu
  ·exact h.un y hy
theorem M3{x:Mk}:aE TE m 58 1 [(0,x.v)]=some (.slice (some ⟨m.n,0,none⟩) 1 1,m.push (.cells x.c 89 none)):=by kernel_rfl
theorem push_mk{n1:Nat}{acc:List Mk}{r:Value}{x:Mk}(hw:Ow n1 m acc r)(hn:n1<=m.n)(hal:acc.length < 1000){P:M->Value->Prop}
  (hP:∀r' m2,Ow n1 m2 (acc++ [x]) r'->m.n<=m2.n->(∀c,c < n1->m2.get c=m.get c)->n1<=m2.low->P m2 r'):
  aO (aE TE m 58 1 [(0,x.v)]) fun a m1=>aO (aq TE (M.wl m1 (M.n m1)) .append [58,58] [r,a]) fun r' m2=>P m2 r':=by
 rw[M3,au]
 obtain⟨m1,hm1⟩:∃y,y=m.push (.cells x.c 89 none):=⟨_,rfl⟩
 rw[<-hm1]
 have hx1:Ext m m1:=by rw[hm1];exact Ext.refl.push
 have hn1:m1.n=m.n+1:=by rw[hm1];rfl
 have hg1:m1.get m.n=.cells x.c 89 none:=by rw[hm1];exact M.aV
 obtain⟨r',m2,e1,h1,h2,h3,h4⟩:=(hw.aD hx1).append ON (by simp[aY.jN]) (so hg1 rfl) (by omega) (by simp;omega)
 rw[e1,au]
 exact hP r' m2 h1 (by have:=h2.n;omega) (fun c hc=>by rw[h2.get c hc,hx1.get c (by omega)]) h3
set_option maxRecDepth 100000 in
theorem JP(hX:dF X){ms:List Mk}{vm:Value}{x:Mk}(hm:Sl m ms vm)(hasc:ms.Pairwise fun a b=>a.id < b.id)(hl:ms.length<=20):
  ∃m' r b,C X (.func 96) [vm,x.v] m m.n (.tuple #[r,.bool b]) m'/\Ext m m'/\(b=true->Ow m.n m' (nW ms x) r):=by
 have key:=Cl.gen (E:=TE) (X:=X) (f:=96) (args:=[vm,x.v]) (m:=m) (R:=fun v' m' b=>b=m.n/\Ext m m'/\∃r b,v'=.tuple #[r,.bool b]/\(b=true->Ow m.n m' (nW ms x) r)) (hX.no _ rfl) Qj rfl ?_
 ·obtain⟨v',m',b,hc,rfl,hx,r,b',rfl,h⟩:=key
  exact⟨m',r,b',hc,hx,h⟩
 rw[F96];dsimp only[aN]
 refine ar fun m1 hn1 hg1 hk1=>?_
 have g1:m1.get m.n=.cells x.c 89 none:=hg1
 have hx1:Ext m m1:=⟨by omega,hk1⟩
 unfold ptrTo
 refine Lp.intro (γ:=Nat) (fun i=>ms.length-i) (fun i vs mm lo=>∃r,vs=[.slice none 0 0,.bool false,r,.bool (!decide (((ms.take i).filter fun y=>decide (x.id < y.id))=[])),.int .i64 i]/\i<=ms.length/\m1.n<=mm.n/\(∀c,c < m1.n->mm.get c=m1.get c)/\m.n<=lo/\Ow m1.n mm (ic (ms.take i) x) r/\∀y∈ms.take i,y.id≠x.id) 0
  ⟨_,rfl,Nat.zero_le _,Nat.le_refl _,fun _ _=>rfl,Nat.le_refl _,Ow.nil,fun y hy=>(by simp at hy)⟩ ?_
 rintro i vs mm lo ⟨r,rfl,hi,hnm,hkm,hlo,how,hne⟩
 have hsm:Sl mm ms vm:=(hm.aD hx1).aD ⟨hnm,hkm⟩
 have gx:mm.get m.n=.cells x.c 89 none:=by rw[hkm _ (by omega),g1]
 rw[aA,aA,aA,aA,aA,hsm.len kN,au,aM,aa,aj]
 have hal:=Ad (ms.take i) x
 rw[List.length_take]at hal
 refine ak (fun hlt=>?_) (fun hge=>?_)
 ·have hlt:i < ms.length:=by simpa using hlt
  obtain⟨y,hyi⟩:∃a,ms[i]?=some a:=⟨_,List.getElem?_eq_getElem hlt⟩
  obtain⟨b0,o0,bc,g0,cs,e0,hb0,hr0,_,hj0⟩:=hsm.iF kN (k:=.i64) hyi
  have hr0:cs=y.c:=hr0
  subst hr0
  have hasc':∀z∈ms.take i,z.id < y.id:=by
   intro z hz
   obtain⟨j,hj⟩:=List.getElem?_of_mem hz
   have hji:j < i:=by
    have:=(List.getElem?_eq_some_iff.1 hj).1
    rw[List.length_take]at this;omega
   rw[List.getElem?_take_of_lt hji]at hj
   have h1:=List.getElem?_eq_some_iff.1 hj
   have h2:=List.getElem?_eq_some_iff.1 hyi
   have:=List.pairwise_iff_getElem.1 hasc j i h1.1 hlt hji
   rw[h1.2,h2.2]at this
   exact this
  obtain⟨a0,e0',ly⟩:=hsm.CZ (k:=.i64) hyi
  obtain rfl:a0=.pointer (some ⟨b0,o0,none⟩):=Option.some.inj (e0'.symm.trans e0)
  have hid:bc[o0+0]?=some (.int .i64 y.id):=by rw[hj0 0 (by decide)];rfl
  have htk:ms.take (i+1)=ms.take i++ [y]:=by rw[List.take_add_one,hyi];rfl
  rw[e0,aa,dg,aa,show ag TE mm 3 (.pointer (some ⟨b0,o0+0,none⟩))=some (.int .i64 y.id) by rw[bA,az hb0,hid],aa,dg,aa,(Cr gx).1,aa,bI,aa,aj]
  refine ak (fun heq=>?_) (fun heq=>?_)
  ·exact .inl ⟨rfl,hlo,rfl,.refl,_,_,rfl,fun h=>by cases h⟩
  have heq:y.id≠x.id:=of_decide_eq_false heq
  have hsnoc:=xE heq hasc'
  rw[<-htk]at hsnoc
  refine cq (fun vs m' lo'=>vs=[.bool (decide (((ms.take i).filter fun z=>decide (x.id < z.id))=[]/\x.id < y.id))]/\m'=mm/\m.n<=lo') (fun R hR=>?_) ?_
  ·rw[bD,aa,aj,Bool.not_not]
   refine ak (fun h=>?_) (fun h=>?_)
   ·have h:=of_decide_eq_true h
    rw[aa,dg,aa,show ag TE mm 3 (.pointer (some ⟨b0,o0+0,none⟩))=some (.int .i64 y.id) by rw[bA,az hb0,hid],aa,aa,(Cr gx).1,aa,cQ,aa]
    refine hR _ _ _ ⟨?_,rfl,hlo⟩
    congr 2
    rw[decide_eq_decide]
    exact⟨fun q=>⟨h,q⟩,fun q=>q.2⟩
   ·have h:=of_decide_eq_false h
    refine hR _ _ _ ⟨?_,rfl,hlo⟩
    rw[decide_eq_false fun q=>h q.1]
  rintro _ m26 lo27 ⟨rfl,rfl,hlo27⟩
  rw[aA,aj]
  have keepY:∀mm':M,(∀c,c < m1.n->mm'.get c=m26.get c)->m1.n<=mm'.n->ag TE mm' 89 (.pointer (some ⟨b0,o0,none⟩))=some y.v:=fun mm' hk hn'=>by
   have hs':Sl mm' ms vm:=(hm.aD hx1).aD ⟨hn',fun c hc=>by rw[hk c hc,hkm c hc]⟩
   obtain⟨a1,e1,l1⟩:=hs'.CZ (k:=.i64) hyi
   obtain rfl:a1=.pointer (some ⟨b0,o0,none⟩):=Option.some.inj (e1.symm.trans e0)
   exact l1
  have hne':∀z∈ms.take (i+1),z.id≠x.id:=by
   intro z hz
   rw[htk,List.mem_append,List.mem_singleton]at hz
   rcases hz with hz |rfl
   ·exact hne z hz
   ·exact heq
  refine ak (fun h=>?_) (fun h=>?_)
  ·have h:=of_decide_eq_true h
   rw[if_pos h]at hsnoc
   rw[(Cr gx).2.2.2.2,aa]
   refine push_mk (x:=x) how hnm (by omega) fun r41 m41 w41 n41 k41 l41=>?_
   rw[aa,keepY m41 k41 (by omega),aa]
   refine push_mk (x:=y) w41 (by omega) (by rw[List.length_append,List.length_singleton];omega) fun r47 m47 w47 n47 k47 l47=>?_
   rw[aG,aa,wrap64 (by omega) (by omega)]
   refine⟨i+1,by omega,r47,?_,by omega,by omega,fun c hc=>by rw[k47 c hc,k41 c hc,hkm c hc],by omega,?_,hne'⟩
   ·rw[htk,List.filter_append,decide_eq_false (by simp[h.2])];rfl
   ·rw[hsnoc];exact w47
  ·have h:=of_decide_eq_false h
   rw[if_neg h]at hsnoc
   rw[aa,keepY m26 (fun _ _=>rfl) hnm,aa]
   refine push_mk (x:=y) how hnm (by omega) fun r41 m41 w41 n41 k41 l41=>?_
   rw[aG,aa,wrap64 (by omega) (by omega)]
   refine⟨i+1,by omega,r41,?_,by omega,by omega,fun c hc=>by rw[k41 c hc,hkm c hc],by omega,?_,hne'⟩
   ·have e:decide (((ms.take (i+1)).filter fun y=>decide (x.id < y.id))=[])=decide (((ms.take i).filter fun y=>decide (x.id < y.id))=[]):=by
     rw[decide_eq_decide,htk,List.filter_append,List.append_eq_nil_iff]
     refine⟨fun q=>q.1,fun q=>⟨q,?_⟩⟩
     have:¬x.id < y.id:=fun q'=>h ⟨q,q'⟩
     simp[this]
    rw[e];rfl
   ·rw[hsnoc];exact w41
 ·have hi':i=ms.length:=by
   have:¬(i:Int)< (ms.length:Int):=by simpa using hge
   omega
  subst hi'
  rw[List.take_length]at how hne⊢
  rw[List.take_length]at hal
  have hins:= @KW ms x
  have fin:∀(mm':M) (r':Value),Ow m1.n mm' (nW ms x) r'->m1.n<=mm'.n->(∀c,c < m1.n->mm'.get c=m1.get c)->bY (bs [r',.bool true])=false/\Ext m mm'/\Ow m.n mm' (nW ms x) r':=fun mm' r' hw hn' hk'=>by
   refine⟨?_,hx1.trans ⟨hn',hk'⟩,hw.mono (by omega)⟩
   rcases hw with⟨rfl,he⟩ |⟨b,cs,rfl,_⟩
   ·unfold nW at he;simp at he
   ·simp[bs,bY,gg,bL]
  rw[bD,aa,aj,Bool.not_not]
  refine ak (fun h=>?_) (fun h=>?_)
  ·have h:=of_decide_eq_true h
   rw[if_pos h]at hins
   rw[(Cr gx).2.2.2.2,aa]
   refine push_mk (x:=x) how hnm (by omega) fun r41 m41 w41 n41 k41 l41=>?_
   rw[<-hins]at w41
   obtain⟨f1,f2,f3⟩:=fin m41 r41 w41 (by omega) (fun c hc=>by rw[k41 c hc,hkm c hc])
   exact .inr ⟨.inl f1,by omega,f2,_,_,rfl,fun _=>f3⟩
  ·have h:=of_decide_eq_false h
   rw[if_neg h]at hins
   rw[<-hins]at how
   obtain⟨f1,f2,f3⟩:=fin mm r how hnm hkm
   exact .inr ⟨.inl f1,by omega,f2,_,_,rfl,fun _=>f3⟩
end Go.Proofs.YtmdfgncoekfgdaaGreatDoor
namespace Go.Proofs.YtmdfgncoekfgdaaGreatDoor
open Go Go.D Go.ChangeShapes Go.WideShapes Go.ChangeAt Go.RowKit
theorem Ki:Tryz.prog.underlying 55=some (.slice 166):=by kernel_rfl
theorem MJ:Tryz.prog.underlying 166=some (.array 4 3):=by kernel_rfl
section
variable {H:Type} {enc:TypeId×Value->H} {W W':World} {sp:Nat->Bool} {held:Bool} {base:Nat}
theorem Lu:∀fuel cs x,DataW.trod enc Tryz.prog W 0 sp held fuel 166 cs=some x->∃y:I4,y.ok/\(∀m,aY.rep m y cs)/\∀u∈cs,bL u=true:=by
 intro fuel cs x h
 obtain⟨l,rfl,hl,hr⟩:=CJ MJ (by kernel_rfl) h
 match l,hl,hr with
 |[a,b,c,d],_,hr=>
  refine⟨⟨a,b,c,d⟩,⟨hr _ (by simp),hr _ (by simp),hr _ (by simp),hr _ (by simp)⟩,fun m=>rfl,fun u hu=>?_⟩
  obtain⟨z,_,rfl⟩:=List.mem_map.1 hu
  rfl
set_option maxRecDepth 100000 in
theorem AK{v:Value}{d:DataW H}{ps:List MemPlace}(hok:Value.okWide Tryz.prog W .any base 57 v)(h:DataW.Trod enc Tryz.prog W 0 sp held 57 v d ps):
  aJ (su W) v v/\∃vb vk va,v=.agg #[vb,vk,va]/\(∃l:List I6,Fz (ec W) l vb/\l.length < 9223372036854775808/\∀y∈l,y.ok)/\(∃l:List I4,Fz (ec W) l vk/\l.length < 9223372036854775808/\∀y∈l,y.ok):=by
 have hu:=Tryz.underlying57
 have hct:Tryz.prog.cellTypes Tryz.prog.depth 57=some [22,55,22]:=by kernel_rfl
 have hco:Tryz.prog.cellsOf 57=3:=by kernel_rfl
 have c1:Tryz.prog.cellsOf 22=1:=by kernel_rfl
 have c2:Tryz.prog.cellsOf 55=1:=by kernel_rfl
 simp only[Value.okWide,hu]at hok
 obtain⟨cs,rfl,hsz,ts,hts, -,hcell⟩:=hok
 rw[hct]at hts
 cases hts
 rw[hco]at hsz
 obtain⟨cs⟩:=cs
 have hsz:cs.length=3:=hsz
 obtain⟨fuel,h⟩:=h
 obtain⟨xs,n,_,_,_,hxl,hel⟩:=DataW.trod_struct hu h
 match cs,hsz with
 |[vb,vk,va],_=>
  have e0:=hel 0 _ rfl
  have e1:=hel 1 _ rfl
  have e2:=hel 2 _ rfl
  have hxl:xs.length=3:=hxl
  obtain⟨y0,hy0⟩:∃y,xs[0]?=some y:=⟨_,List.getElem?_eq_getElem (by omega)⟩
  obtain⟨y1,hy1⟩:∃y,xs[1]?=some y:=⟨_,List.getElem?_eq_getElem (by omega)⟩
  obtain⟨y2,hy2⟩:∃y,xs[2]?=some y:=⟨_,List.getElem?_eq_getElem (by omega)⟩
  rw[hy0]at e0
  rw[hy1]at e1
  rw[hy2]at e2
  replace e0:DataW.trod enc Tryz.prog W 0 sp held n 22 (([vb,vk,va].drop 0).take (Tryz.prog.cellsOf 22))=some y0:=e0
  rw[c1]at e0
  replace e0:DataW.trod enc Tryz.prog W 0 sp held n 22 [vb]=some y0:=e0
  replace e1:DataW.trod enc Tryz.prog W 0 sp held n 55 (([vb,vk,va].drop 1).take (Tryz.prog.cellsOf 55))=some y1:=e1
  rw[c2]at e1
  replace e1:DataW.trod enc Tryz.prog W 0 sp held n 55 [vk]=some y1:=e1
  replace e2:DataW.trod enc Tryz.prog W 0 sp held n 22 (([vb,vk,va].drop 2).take (Tryz.prog.cellsOf 22))=some y2:=e2
  rw[c1]at e2
  replace e2:DataW.trod enc Tryz.prog W 0 sp held n 22 [va]=some y2:=e2
  obtain⟨t0,h0,k0⟩:=hcell 0 vb rfl
  obtain⟨t1,h1,k1⟩:=hcell 1 vk rfl
  obtain⟨t2,h2,k2⟩:=hcell 2 va rfl
  cases h0;cases h1;cases h2
  obtain⟨a0,b0⟩:=Ax (α:=I6) (v:=vb) BT (by kernel_rfl) Jj k0 e0
  obtain⟨a1,b1⟩:=Ax (α:=I4) (v:=vk) Ki (by kernel_rfl) Lu k1 e1
  obtain⟨a2,b2⟩:=Ax (α:=I6) (v:=va) BT (by kernel_rfl) Jj k2 e2
  refine⟨.agg _ _ rfl fun j x y hx hy=>?_,vb,vk,va,rfl,b0,b1⟩
  rw[hx]at hy
  cases hy
  match j,hx with
  |0,hx=>cases hx;exact a0
  |1,hx=>cases hx;exact a1
  |2,hx=>cases hx;exact a2
  |j+3,hx=>simp at hx
theorem Ks{v:Value}{d:DataW H}{ps:List MemPlace}(hb:Below W.heap.size W W')(h:DataW.Trod enc Tryz.prog W 0 (fun _=>true) true 57 v d ps)(hlt:∀x∈ps,x.block < W.heap.size)(sp:Nat->Bool)(hs:∀x∈ps,sp x.block=true):DataW.Trod enc Tryz.prog W' 0 sp true 57 v d ps:=
 WideElems.Trod_stays laidOut (by kernel_rfl) (of_decide_eq_true (by kernel_rfl)) h (fun x hx=>hb.same (hlt x hx)) hs
end
end Go.Proofs.YtmdfgncoekfgdaaGreatDoor
