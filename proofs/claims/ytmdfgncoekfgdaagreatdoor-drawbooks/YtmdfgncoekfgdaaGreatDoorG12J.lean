/- One unit more at a place: the whole step. -/
import Derived.Test.YtmdfgncoekfgdaaGreatDoorG11J
import Derived.Test.YtmdfgncoekfgdaaGreatDoorG8J
import Derived.Test.YtmdfgncoekfgdaaGreatDoorG5J
namespace Go.Proofs.YtmdfgncoekfgdaaGreatDoor
open Go Go.D
variable {m:M}
theorem mJ{α:Type}:∀{l:List α},l.Nodup↔∀(i j:Nat) (x:α),l[i]?=some x->l[j]?=some x->i=j
 |[]=>by simp
 |a::l=>by
  rw[List.nodup_cons,mJ (l:=l)]
  constructor
  ·rintro⟨h1,h2⟩ i j x hi hj
   match i,j with
   |0,0=>rfl
   |0,j+1=>cases hi;exact absurd (List.mem_of_getElem? (by simpa using hj)) h1
   |i+1,0=>cases hj;exact absurd (List.mem_of_getElem? (by simpa using hi)) h1
   |i+1,j+1=>rw[h2 i j x (by simpa using hi) (by simpa using hj)]
  ·intro h
   refine⟨fun hm=>?_,fun i j x hi hj=>?_⟩
   ·obtain⟨i,hi⟩:=List.mem_iff_getElem?.1 hm
    have:=h 0 (i+1) a rfl (by simpa using hi)
    omega
   ·have:=h (i+1) (j+1) x (by simpa using hi) (by simpa using hj)
    omega
theorem get_modify{α:Type}{l:List α}{j i:Nat}{f:α->α}:(l.modify j f)[i]?=if j=i then l[i]?.map f else l[i]?:=by
 rw[List.getElem?_modify]
 by_cases h:j=i
 ·simp only[h,if_true];cases l[i]? <;>rfl
 ·simp only[h,if_false];cases l[i]? <;>rfl
theorem tn{es:List MapEntry}{kv:List ki}{j:Nat}{k:ki}{p:Pl}(h:JZ es kv)(hk:kv[j]?=some k)(hp:k.1=p):es.modify j (fun e=>{e with key:=p.v})=es:=by
 refine List.ext_getElem? fun i=>?_
 rw[get_modify]
 by_cases hij:j=i
 ·subst hij
  rw[if_pos rfl]
  cases he:es[j]? with
  |none=>rfl
  |some e=>
   have:=(HY h he hk).1
   simp only[Option.map_some,Option.some.injEq]
   rw[<-hp,<-this]
 ·rw[if_neg hij]
theorem tm{es:List MapEntry}{kv:List ki}{j:Nat}{k:ki}(h:JZ es kv){p:Pl}{l:List UW}{b:Nat}(hk:kv[j]?=some k)(hp:k.1=p):
  JZ (es.modify j (fun e=>{e with val:=ki.val (p,l,b)})) (kv.set j (p,l,b)):=by
 unfold JZ
 refine List.ext_getElem? fun i=>?_
 rw[List.getElem?_map,List.getElem?_map,get_modify,List.getElem?_set]
 have hlen:=CG h
 by_cases hij:j=i
 ·subst hij
  have hj:=(List.getElem?_eq_some_iff.1 hk).1
  rw[if_pos rfl,if_pos rfl,if_pos hj]
  obtain⟨e,he⟩:∃e,es[j]?=some e:=⟨_,List.getElem?_eq_getElem (by omega)⟩
  rw[he]
  have:=(HY h he hk).1
  show some (e.key,ki.val (p,l,b))=some (p.v,ki.val (p,l,b))
  rw[this,hp]
 ·rw[if_neg hij,if_neg hij]
  have:=congrArg (·[i]?) h
  simp only[List.getElem?_map]at this
  rw[<-this]
theorem qY{es:List MapEntry}{j:Nat}{v:Value}:(es.modify j (fun e=>{e with val:=v})).map (·.born)=es.map (·.born):=by
 refine List.ext_getElem? fun i=>?_
 rw[List.getElem?_map,List.getElem?_map,get_modify]
 by_cases hij:j=i
 ·rw[if_pos hij];cases es[i]? <;>rfl
 ·rw[if_neg hij]
theorem PM.add{n0 n1 r:Nat}{kv:List ki}(h:PM n1 m r kv)(hn0:n0<=r)(hn1:n0<=n1)(hnm:n1<=m.n)(hr:r < n1){p:Pl}{u:UW}(hw:one u.w=true)(hs:(fS kv p).length < 1000000){P:M->M->M->Prop}
  (hP:∀m2 m3 m4 kv',PM n1 m4 r kv'->(∀q,fS kv' q=if q=p then fS kv p++ [u]else fS kv q)->Z9 n1 r m m4->m2.n=m.n+1->m3.n=m.n+2->m4.n=m.n+2->n0<=m2.low->n0<=m3.low->n0<=m4.low->P m2 m3 m4):
  aO (aE TE m 29 1 [(0,u.v)]) fun a m1=>aO (dw TE (m1.wl m1.n) 133 (.map (some r)) p.v) fun e m2=>ah (cx e 0) fun eO=>
   aO (aq TE (m2.wl m2.n) .append [29,29] [eO,a]) fun nw m3=>ah (cx e 1) fun st=>ah (cz (m3.wl m3.n) (.map (some r)) st nw) fun m4=>P m2 m3 m4:=by
 rw[Cj,au]
 obtain⟨es,clock,he,hkv,hborn,hnd⟩:=h.ex
 generalize hm1:m.push (.cells u.c 87 none)=m1
 have hn1':m1.n=m.n+1:=by rw[<-hm1];rfl
 have hx1:Ext m m1:=by rw[<-hm1];exact Ext.refl.push
 have hg1:m1.get m.n=.cells u.c 87 none:=by rw[<-hm1];exact M.aV
 have hrm:r < m.n:=M.ve he
 have he1:(m1.wl m1.n).get r=.map es clock:=by show m1.get r=_;rw[hx1.get r hrm,he]
 rw[zi he1]
 have tail:∀(m2:M) (eO:Value) (ol:List UW),m2.n=m1.n->m2.low=r->(∀c,c≠r->m2.get c=m1.get c)->Ow n1 m2 ol eO->ol.length < 1000000->
   ∃nw m3 b,aq TE (m2.wl m2.n) .append [29,29] [eO,.slice (some ⟨m.n,0,none⟩) 1 1]=some (nw,m3)/\nw=ki.val (p,ol++ [u],b)/\Own n1 m3 (ol++ [u]) b/\m.n+1<=b/\m3.n=m.n+2/\n1<=m3.low/\
    (∀c,c < m2.n->(∀a n k,eO=.slice (some a) n k->c≠a.block)->m3.get c=m2.get c)/\(∀c,c < n1->m3.get c=m2.get c):=by
  intro m2 eO ol h2n h2l h2g hol hlen
  have hgm:m2.get m.n=.cells u.c 87 none:=by rw[h2g _ (by omega),hg1]
  obtain⟨nw,m3,e1,ho,hf,hl,hn3⟩:=hol.BE JL (by simp[aY.jN]) (uQ hgm hw) (by omega) (by simp;omega) (by simp)
  obtain⟨b,rfl,hb⟩:=Own.of ho (by simp)
  exact⟨_,m3,b,e1,rfl,⟨hb.1,by have:=hb.2.1;omega,hb.2.2⟩,by have:=hb.2.1;omega,by omega,hl,fun c hc hca=>gA e1 hc hca,hf.get⟩
 have plr:∀c cs t g,m.get c=.cells cs t g->c≠r:=fun c cs t g hc e=>by subst e;rw[he]at hc;cases hc
 rcases tp (p:=p) (i:=0) hkv with⟨a,b,c⟩ |⟨j,k,hj,hkp,hgl,hfind⟩
 ·
  rw[c]
  dsimp only
  rw[au,aR]
  simp only[List.getElem?_cons_zero,List.getElem?_cons_succ,aa]
  generalize hm2:(m1.wl m1.n).set r (.map (es++ [{key:=p.v,val:=.slice none 0 0,born:=clock}]) (clock+1))=m2
  have h2n:m2.n=m1.n:=by rw[<-hm2];rfl
  have h2l:m2.low=r:=by rw[<-hm2];show min m1.n r=r;omega
  have h2g:∀c,c≠r->m2.get c=m1.get c:=fun c hc=>by rw[<-hm2,M.cp hc];rfl
  have h2r:m2.get r=.map (es++ [{key:=p.v,val:=.slice none 0 0,born:=clock}]) (clock+1):=by rw[<-hm2];exact M.cA (m:=m1.wl m1.n) (by show r < m1.n;omega)
  obtain⟨nw,m3,b',e1,rfl,hown,hb',h3n,h3l,h3g,h3low⟩:=tail m2 (.slice none 0 0) [] h2n h2l h2g Ow.nil (by simp)
  rw[e1,au,aR]
  simp only[List.getElem?_cons_zero,List.getElem?_cons_succ,aa]
  have h3r:(m3.wl m3.n).get r=.map (es++ [{key:=p.v,val:=.slice none 0 0,born:=clock}]) (clock+1):=by
   show m3.get r=_
   rw[h3low r hr,h2r]
  have hnd':((es++ [{key:=p.v,val:=.slice none 0 0,born:=clock}]:List MapEntry).map (·.born)).Nodup:=by
   rw[List.map_append]
   refine List.nodup_append.2 ⟨hnd,by simp,?_⟩
   intro x hx y hy hxy
   obtain⟨e,hee,rfl⟩:=List.mem_map.1 hx
   have:=hborn e hee
   simp at hy
   omega
  have hst:fB ((clock:Nat):Int) (es++ [{key:=p.v,val:=.slice none 0 0,born:=clock}]) 0=some es.length:=by
   have:=nD (i:=0) (j:=es.length) (e:={key:=p.v,val:=.slice none 0 0,born:=clock}) hnd' (by simp)
   rw[this,Nat.zero_add]
  rw[nn h3r hst,aa]
  generalize hm4:(m3.wl m3.n).set r _=m4
  have h4n:m4.n=m3.n:=by rw[<-hm4];rfl
  have h4g:∀c,c≠r->m4.get c=m3.get c:=fun c hc=>by rw[<-hm4,M.cp hc];rfl
  have hlow4:m4.low=r:=by rw[<-hm4];show min m3.n r=r;omega
  have h4r:m4.get r=.map (es++ [{key:=p.v,val:=ki.val (p,[]++ [u],b'),born:=clock}]) (clock+1):=by
   rw[<-hm4,M.cA (m:=m3.wl m3.n) (by show r < m3.n;omega)]
   congr 1
   refine List.ext_getElem? fun i=>?_
   rw[get_modify]
   by_cases hi:es.length=i
   ·subst hi;simp
   ·rw[if_neg hi]
    by_cases hlt:i < es.length
    ·rw[List.getElem?_append_left hlt,List.getElem?_append_left hlt]
    ·rw[List.getElem?_eq_none (by simp;omega),List.getElem?_eq_none (by simp;omega)]
  have old4:∀c,c < m.n->c≠r->m4.get c=m.get c:=fun c hc hcr=>by rw[h4g c hcr,h3g c (by omega) (fun a n k e=>by cases e),h2g c hcr,hx1.get c hc]
  refine hP m2 m3 m4 (kv++ [(p,[]++ [u],b')]) ⟨⟨_,_,h4r,?_,?_,?_⟩,?_,?_,?_⟩ ?_ ⟨by omega,?_,?_⟩ (by omega) h3n (by omega) (by omega) (by omega) (by omega)
  ·unfold JZ at hkv⊢
   rw[List.map_append,List.map_append,hkv];rfl
  ·intro e hee
   rcases List.mem_append.1 hee with h |h
   ·have:=hborn e h;omega
   ·obtain rfl:=List.mem_singleton.1 h
    show clock < clock+1
    omega
  ·rw[List.map_append]at hnd'⊢;exact hnd'
  ·rw[List.map_append]
   exact List.nodup_append.2 ⟨h.keys,by simp,fun x hx y hy hxy=>b (by simp at hy;rw[<-hy,<-hxy];exact hx)⟩
  ·rw[List.map_append]
   refine List.nodup_append.2 ⟨h.JI,by simp,fun x hx y hy hxy=>?_⟩
   obtain⟨k,hk,rfl⟩:=List.mem_map.1 hx
   obtain⟨_,_,cs,hcs,_⟩:=h.own k hk
   have:=M.aI hcs
   simp at hy
   omega
  ·intro k hk
   rcases List.mem_append.1 hk with hk |hk
   ·have ho:=h.own k hk
    obtain⟨_,_,cs,hcs,_⟩:=id ho
    exact ho.bw (old4 _ (M.aI hcs) (plr _ _ _ _ hcs))
   ·obtain rfl:=List.mem_singleton.1 hk
    exact hown.bw (h4g _ (by show b'≠r;omega))
  ·intro q
   rw[Ez b q,a]
  ·intro c cs t g hc _
   rw[old4 c (M.aI hc) (plr _ _ _ _ hc),hc]
  ·intro c hc hcr
   exact old4 c (by omega) hcr
 ·
  have hjl:=(List.getElem?_eq_some_iff.1 hj).1
  have hlen:=CG hkv
  obtain⟨e,hej⟩:∃e,es[j]?=some e:=⟨_,List.getElem?_eq_getElem (by omega)⟩
  rw[hfind]
  dsimp only
  rw[au,aR]
  simp only[List.getElem?_cons_zero,List.getElem?_cons_succ,aa,Nat.zero_add,hej,Option.map_some,Option.getD_some]
  rw[tn hkv hj hkp]
  generalize hm2:(m1.wl m1.n).set r (.map es clock)=m2
  have h2n:m2.n=m1.n:=by rw[<-hm2];rfl
  have h2l:m2.low=r:=by rw[<-hm2];show min m1.n r=r;omega
  have h2g:∀c,c≠r->m2.get c=m1.get c:=fun c hc=>by rw[<-hm2,M.cp hc];rfl
  have h2r:m2.get r=.map es clock:=by rw[<-hm2];exact M.cA (m:=m1.wl m1.n) (by show r < m1.n;omega)
  have hok:=h.own k (List.mem_of_getElem? hj)
  obtain⟨_,hb0,cs0,hcs0,_⟩:=id hok
  have hb0m:=M.aI hcs0
  have old2:∀c cs t g,m.get c=.cells cs t g->m2.get c=.cells cs t g:=fun c cs t g hc=>by rw[h2g c (plr _ _ _ _ hc),hx1.get c (M.aI hc),hc]
  have hok2:Own n1 m2 k.2.1 k.2.2:=hok.bw (by rw[hcs0];exact old2 _ _ _ _ hcs0)
  obtain⟨nw,m3,b',e1,rfl,hown,hb',h3n,h3l,h3g,h3low⟩:=tail m2 (ki.val k) k.2.1 h2n h2l h2g hok2.ow (by rw[<-hgl];exact hs)
  rw[e1,au,aR]
  simp only[List.getElem?_cons_zero,List.getElem?_cons_succ,aa]
  have h3r:(m3.wl m3.n).get r=.map es clock:=by
   show m3.get r=_
   rw[h3low r hr,h2r]
  have hst:fB ((e.born:Nat):Int) es 0=some j:=by
   rw[nD (i:=0) hnd hej,Nat.zero_add]
  rw[nn h3r hst,aa]
  generalize hm4:(m3.wl m3.n).set r _=m4
  have h4n:m4.n=m3.n:=by rw[<-hm4];rfl
  have h4g:∀c,c≠r->m4.get c=m3.get c:=fun c hc=>by rw[<-hm4,M.cp hc];rfl
  have hlow4:m4.low=r:=by rw[<-hm4];show min m3.n r=r;omega
  have h4r:m4.get r=.map (es.modify j fun e=>{e with val:=ki.val (p,k.2.1++ [u],b')}) clock:=by
   rw[<-hm4,M.cA (m:=m3.wl m3.n) (by show r < m3.n;omega)]
  have old4:∀c,c < m.n->c≠r->c≠k.2.2->m4.get c=m.get c:=fun c hc hcr hck=>by rw[h4g c hcr,h3g c (by omega) (fun a n q e=>by cases e;exact hck),h2g c hcr,hx1.get c hc]
  have hset:kv.set j (p,k.2.1++ [u],b')=kv.set j (k.1,k.2.1++ [u],b'):=by rw[hkp]
  refine hP m2 m3 m4 (kv.set j (p,k.2.1++ [u],b')) ⟨⟨_,_,h4r,tm hkv hj hkp,?_,?_⟩,?_,?_,?_⟩ ?_ ⟨by omega,?_,?_⟩ (by omega) h3n (by omega) (by omega) (by omega) (by omega)
  ·intro f hf
   have:f.born∈(es.modify j fun e=>{e with val:=ki.val (p,k.2.1++ [u],b')}).map (·.born):=List.mem_map.2 ⟨f,hf,rfl⟩
   rw[qY]at this
   obtain⟨f',hf',hfe⟩:=List.mem_map.1 this
   rw[<-hfe]
   exact hborn f' hf'
  ·rw[qY];exact hnd
  ·have e:(kv.set j (p,k.2.1++ [u],b')).map (·.1)=kv.map (·.1):=by
    rw[List.map_set]
    refine List.ext_getElem? fun i=>?_
    rw[List.getElem?_set]
    by_cases hij:j=i
    ·subst hij;rw[if_pos rfl,List.length_map,if_pos hjl,List.getElem?_map,hj,Option.map_some,hkp]
    ·rw[if_neg hij]
   rw[e];exact h.keys
  ·rw[List.map_set]
   have hnin:b'∉kv.map (·.2.2):=fun hin=>by
    obtain⟨q,hq,hqb⟩:=List.mem_map.1 hin
    obtain⟨_,_,cs,hcs,_⟩:=h.own q hq
    have:=M.aI hcs
    omega
   have hold:=mJ.1 h.JI
   refine mJ.2 fun i i' x hi hi'=>?_
   rw[List.getElem?_set,List.length_map]at hi hi'
   by_cases h1:j=i <;>by_cases h2:j=i'
   ·omega
   ·rw[if_pos h1,if_pos hjl]at hi
    rw[if_neg h2]at hi'
    cases hi
    exact absurd (List.mem_of_getElem? hi') hnin
   ·rw[if_pos h2,if_pos hjl]at hi'
    rw[if_neg h1]at hi
    cases hi'
    exact absurd (List.mem_of_getElem? hi) hnin
   ·rw[if_neg h1]at hi
    rw[if_neg h2]at hi'
    exact hold i i' x hi hi'
  ·intro q hq
   obtain⟨i,hi⟩:=List.mem_iff_getElem?.1 hq
   rw[List.getElem?_set]at hi
   by_cases hij:j=i
   ·rw[if_pos hij,if_pos hjl]at hi
    cases hi
    exact hown.bw (h4g _ (by show b'≠r;omega))
   ·rw[if_neg hij]at hi
    have ho:=h.own q (List.mem_of_getElem? hi)
    obtain⟨_,_,cs,hcs,_⟩:=id ho
    have hne:q.2.2≠k.2.2:=fun e=>by
     exact hij (mJ.1 h.JI j i q.2.2 (by rw[List.getElem?_map,hj,Option.map_some,e]) (by rw[List.getElem?_map,hi,Option.map_some]))
    exact ho.bw (old4 _ (M.aI hcs) (plr _ _ _ _ hcs) hne)
  ·intro q
   rw[hset,Ik hj h.keys q,hkp,hgl]
  ·intro c cs t g hc ht
   rw[old4 c (M.aI hc) (plr _ _ _ _ hc) (fun e=>by
    subst e
    rw[hcs0]at hc
    cases hc
    rcases ht with h |h
    ·exact h rfl
    ·cases h),hc]
  ·intro c hc hcr
   exact old4 c (by omega) hcr (by omega)
end Go.Proofs.YtmdfgncoekfgdaaGreatDoor
namespace Go.Proofs.YtmdfgncoekfgdaaGreatDoor
open Go Go.D
variable {X:aF} {m:M}
def fR(l:List Pl)(i:Nat):Pl:=(l.take i).foldl (fun q p=>⟨min q.x p.x,min q.y p.y⟩) (l.headD ⟨0,0⟩)
def iA(l:List Pl)(i:Nat):Pl:=(l.take i).foldl (fun q p=>⟨max q.x p.x,max q.y p.y⟩) (l.headD ⟨0,0⟩)
theorem tX{l:List Pl}{i:Nat}{p:Pl}(h:l[i]?=some p):fR l (i+1)=⟨min (fR l i).x p.x,min (fR l i).y p.y⟩:=by
 unfold fR
 rw[List.take_add_one,h,Option.toList_some,List.foldl_append];rfl
theorem tY{l:List Pl}{i:Nat}{p:Pl}(h:l[i]?=some p):iA l (i+1)=⟨max (iA l i).x p.x,max (iA l i).y p.y⟩:=by
 unfold iA
 rw[List.take_add_one,h,Option.toList_some,List.foldl_append];rfl
def Pl.bW(p:Pl):Prop:=0<=p.x/\p.x<=40/\0<=p.y/\p.y<=40
theorem JF{l:List Pl}(hon:∀p∈l,p.off=false)(hne:l≠ []):∀i,i<=l.length->(fR l i).bW/\(iA l i).bW/\(fR l i).x<=(iA l i).x/\(fR l i).y<=(iA l i).y
 |0,_=>by
  cases l with
  |nil=>exact absurd rfl hne
  |cons p l=>
   have:=Pl.on (hon p List.mem_cons_self)
   exact⟨this,this,Int.le_refl _,Int.le_refl _⟩
 |i+1,hi=>by
  obtain⟨h1,h2,h3,h4⟩:=JF hon hne i (by omega)
  obtain⟨p,hp⟩:∃p,l[i]?=some p:=⟨_,List.getElem?_eq_getElem (by omega)⟩
  have:=Pl.on (hon p (List.mem_of_getElem? hp))
  rw[tX hp,tY hp]
  unfold Pl.bW at h1 h2⊢
  dsimp only
  omega
def zx(l:List Pl)(q:Pl):Bool:=decide ((fR l l.length).x<=q.x) && decide (q.x < (iA l l.length).x) && decide ((fR l l.length).y<=q.y) && decide (q.y < (iA l l.length).y)
def og(u:Un)(q:Pl):Bool:=zx u.shape q && decide (0<=nv u.shape q.x q.y)
def tR(us:List UW)(q:Pl):List UW:=us.filter fun u=>og u.u q
def jR(y x:Int)(q:Pl):Bool:=decide (q.y < y) ||(decide (q.y=y) && decide (q.x < x))
def iC(kv:List ki)(us:List UW)(u:UW)(y x:Int):Prop:=∀q,fS kv q=tR us q++(if og u.u q && jR y x q then [u]else [])
structure Cv(m0:M)(u:UW)(b8 b16 b26:Nat)(lo hi:Pl)(kv:List ki)(mm:M):Prop where
 eO:∀c,c < m0.n->mm.get c=m0.get c
 n:m0.n+2<=mm.n
 un:mm.get b8=.cells u.c 87 none
 lo:mm.get b16=.cells lo.c 98 none
 hi:mm.get b26=.cells hi.c 98 none
 pm:PM (m0.n+2) mm (m0.n+1) kv
theorem Cv.bw{m0:M}{u:UW}{b8 b16 b26:Nat}{lo hi:Pl}{kv:List ki}{mm mm':M}(h:Cv m0 u b8 b16 b26 lo hi kv mm)(hx:Ext mm mm'):Cv m0 u b8 b16 b26 lo hi kv mm':=
 ⟨fun c hc=>by rw[hx.get c (by have:=h.n;omega),h.eO c hc],by have:=h.n;have:=hx.n;omega,hx.cells h.un,hx.cells h.lo,hx.cells h.hi,h.pm.aD hx⟩
theorem qa{α:Type}[aY α]{m0 mm:M}{l:List α}{v:Value}(h:Sl m0 l v)(ho:∀c,c < m0.n->mm.get c=m0.get c):Sl mm l v:=h.bw fun b c t g hb _=>by rw[ho b (M.aI hb),hb]
theorem PM.store{n1 r b:Nat}{kv:List ki}{m':M}{cs:List Value}{t:TypeId}(h:PM n1 m r kv)(hb:m.get b=.cells cs t none)(hk:∀c,c≠b->m'.get c=m.get c):PM n1 m' r kv:=by
 obtain⟨es,clock,h1,h2⟩:=h.ex
 refine⟨⟨es,clock,by rw[hk r (fun e=>by subst e;rw[h1]at hb;cases hb),h1],h2⟩,h.keys,h.JI,fun k hk'=>?_⟩
 have ho:=h.own k hk'
 obtain⟨_,_,cs',h3,_⟩:=id ho
 exact ho.bw (hk _ fun e=>by rw[e,hb]at h3;cases h3)
theorem Eh{l:List Pl}{y:Int}{q:Pl}(h:zx l q=true):jR y (iA l l.length).x q=jR (y+1) (fR l l.length).x q:=by
 simp only[zx,Bool.and_eq_true,decide_eq_true_eq]at h
 have e1:decide (q.x < (iA l l.length).x)=true:=by simp;omega
 have e2:decide (q.x < (fR l l.length).x)=false:=by simp;omega
 unfold jR
 rw[e1,e2,Bool.and_true,Bool.and_false,Bool.or_false]
 by_cases h1:q.y < y <;>by_cases h2:q.y=y <;>by_cases h3:q.y < y+1 <;>simp[h1,h2,h3] <;>omega
theorem sJ{y x:Int}{q:Pl}:jR y (x+1) q=(jR y x q ||decide (q=⟨x,y⟩)):=by
 obtain⟨a,b⟩:=q
 unfold jR
 dsimp only
 have e:decide (({x:=a,y:=b}:Pl)=⟨x,y⟩)=(decide (a=x) && decide (b=y)):=by by_cases h1:a=x <;>by_cases h2:b=y <;>simp[h1,h2]
 rw[e]
 by_cases h1:b < y <;>by_cases h2:b=y <;>by_cases h3:a < x <;>by_cases h4:a=x <;>by_cases h5:a < x+1 <;>simp[h1,h2,h3,h4,h5] <;>omega
theorem Hq{y x:Int}:jR y x ⟨x,y⟩=false:=by
 unfold jR
 simp
theorem iC.step{kv kv':List ki}{us:List UW}{u:UW}{y x:Int}(h:iC kv us u y x)(hc:og u.u ⟨x,y⟩=true)(hq:∀q,fS kv' q=if q=⟨x,y⟩then fS kv ⟨x,y⟩++ [u]else fS kv q):iC kv' us u y (x+1):=by
 intro q
 rw[hq,sJ]
 by_cases e:q=⟨x,y⟩
 ·subst e
  rw[if_pos rfl,h ⟨x,y⟩,Hq,hc]
  simp
 ·rw[if_neg e,h q]
  simp[e]
theorem iC.skip{kv:List ki}{us:List UW}{u:UW}{y x:Int}(h:iC kv us u y x)(hc:og u.u ⟨x,y⟩=false):iC kv us u y (x+1):=by
 intro q
 rw[h q,sJ]
 by_cases e:q=⟨x,y⟩
 ·subst e
  rw[hc];simp
 ·simp[e]
theorem iC.row{kv:List ki}{us:List UW}{u:UW}{y:Int}(h:iC kv us u y (iA u.u.shape u.u.shape.length).x):iC kv us u (y+1) (fR u.u.shape u.u.shape.length).x:=by
 intro q
 rw[h q]
 congr 1
 cases hc:og u.u q with
 |false=>rfl
 |true=>
  have:zx u.u.shape q=true:=by
   unfold og at hc
   rw[Bool.and_eq_true]at hc
   exact hc.1
  rw[Eh this]
theorem iC.start{kv:List ki}{us:List UW}{u:UW}(h:∀q,fS kv q=tR us q):iC kv us u (fR u.u.shape u.u.shape.length).y (fR u.u.shape u.u.shape.length).x:=by
 intro q
 rw[h q]
 have:(og u.u q && jR (fR u.u.shape u.u.shape.length).y (fR u.u.shape u.u.shape.length).x q)=false:=by
  cases hc:og u.u q with
  |false=>rfl
  |true=>
   unfold og at hc
   simp only[zx,Bool.and_eq_true,decide_eq_true_eq]at hc
   unfold jR
   simp
   omega
 rw[this];simp
theorem iC.done{kv:List ki}{us:List UW}{u:UW}{y x:Int}(h:iC kv us u y x)(hy:(iA u.u.shape u.u.shape.length).y<=y):∀q,fS kv q=tR (us++ [u]) q:=by
 intro q
 rw[h q]
 unfold tR
 rw[List.filter_append]
 congr 1
 cases hc:og u.u q with
 |false=>simp[hc]
 |true=>
  have hc':=hc
  unfold og at hc'
  simp only[zx,Bool.and_eq_true,decide_eq_true_eq]at hc'
  have:jR y x q=true:=by
   unfold jR
   simp
   omega
  simp[hc,this]
end Go.Proofs.YtmdfgncoekfgdaaGreatDoor
namespace Go.Proofs.YtmdfgncoekfgdaaGreatDoor
open Go Go.D
variable {X:aF} {m:M}
theorem _root_.Go.D.Sl.iQ{l:List UW}{v:Value}(h:Sl m l v){i:Nat}{x:UW}(hi:l[i]?=some x){k:IntKind}:∃a,ai TE 29 v (.int k i)=some a/\ag TE m 87 a=some x.v/\one x.w=true:=by
 obtain⟨a,cs,h1,h2,rfl,h3⟩:=h.index eP (k:=k) hi
 exact⟨a,h1,h2,h3⟩
theorem wB{b:Nat}{x:UW}{e:TypeId}{g:Option Nat}(h:m.get b=.cells x.c e g):ag TE m 87 (.pointer (some ⟨b,0,none⟩))=some x.v:=bP h
theorem Fk(hX:dF X){us:List UW}{v:Value}(hl:Sl m us v)(hsh:∀x∈us,Sl m x.u.shape x.w)(hval:∀x∈us,aP x.u.shape=true)(hlen:us.length<=1000):
  ∃m' kv,C X (.func 67) [.agg #[v]] m m.n (.map (some (m.n+1))) m'/\Ext m m'/\PM (m.n+2) m' (m.n+1) kv/\∀q,fS kv q=tR us q:=by
 have key:=Cl.heap (E:=TE) (X:=X) (f:=67) (args:=[.agg #[v]]) (m:=m) (R:=fun v' m' b=>b=m.n/\v'=.map (some (m.n+1))/\Ext m m'/\∃kv,PM (m.n+2) m' (m.n+1) kv/\∀q,fS kv q=tR us q) (hX.no _ rfl) Qm rfl ?_
 ·obtain⟨v',m',b,hc,rfl,rfl,hx,kv,h1,h2⟩:=key
  exact⟨m',kv,hc,hx,h1,h2⟩
 rw[F67];dsimp only[aN]
 refine ar fun m1 hn1 hg1 hk1=>?_
 refine ar fun m2 hn2 hg2 hk2=>?_
 have g0:m2.get m.n=.cells [v] 31 none:=by rw[hk2 _ (by omega),hg1];rfl
 have old2:∀c,c < m.n->m2.get c=m.get c:=fun c hc=>by rw[hk2 c (by omega),hk1 c hc]
 rw[hn1]at hg2 hn2 hk2⊢
 simp only[ptrTo]
 rw[bR,aa,fD,az g0]
 simp only[Nat.zero_add,List.getElem?_cons_zero,aa]
 rw[(qa hl old2).len eP,au]
 refine Lp.intro (γ:=Nat) (fun i=>us.length-i) (fun i vs m8 lo=>vs=[.int .i64 i]/\i<=us.length/\(∀c,c < m.n->m8.get c=m.get c)/\m.n+2<=m8.n/\m.n<=lo/\∃kv,PM (m.n+2) m8 (m.n+1) kv/\∀q,fS kv q=tR (us.take i) q) 0
  ⟨rfl,Nat.zero_le _,old2,by omega,Nat.le_refl _,[],⟨⟨[],0,hg2,rfl,(fun e he=>by cases he),List.nodup_nil⟩,List.nodup_nil,List.nodup_nil,(fun k hk=>by cases hk)⟩,fun q=>rfl⟩ ?_
 rintro i vs m8 lo8 ⟨rfl,hi,old8,hn8,hlo8,kv8,hpm8,hget8⟩
 simp only[aA,aM,aa,aj]
 refine ak (fun hlt=>?_) (fun hge=>?_)
 ·have hlt:i < us.length:=by simpa using hlt
  obtain⟨x,hx⟩:∃x,us[i]?=some x:=⟨_,List.getElem?_eq_getElem hlt⟩
  have hxm:=List.mem_of_getElem? hx
  have hshx:=hsh x hxm
  have hv:=hval x hxm
  have hsl:=cC hv
  have hon:=kl hv
  have hne:x.u.shape≠ []:=by intro e;rw[e]at hsl;simp at hsl
  obtain⟨p0,hp0⟩:∃p,x.u.shape[0]?=some p:=⟨_,List.getElem?_eq_getElem (by omega)⟩
  obtain⟨a,e1,e2,hone⟩:=(qa hl old8).iQ (k:=.i64) hx
  rw[e1,aa,e2,aa]
  refine ar fun m15 hn15 hg15 hk15=>?_
  refine av eH hg15 rfl rfl (Un.eE hone) fun m16 hn16 hg16 hk16=>?_
  have hx816:Ext m8 m16:=⟨by omega,fun b hb=>by rw[hk16 b (by omega),hk15 b hb]⟩
  have old16:∀c,c < m.n->m16.get c=m.get c:=fun c hc=>by rw[hx816.get c (by omega),old8 c hc]
  obtain⟨b0,o0,bc0,gg0,cs0,ea0,hb0,_⟩:=hshx.iF cF (k:=.i64) hp0
  have hb0m:=M.aI hb0
  obtain⟨a0,ea1,la0⟩:=(qa hshx old16).dK (k:=.i64) hp0
  obtain rfl:a0=.pointer (some ⟨b0,o0,none⟩):=by
   have:=ea1.symm.trans ea0
   exact Option.some.inj this
  have ea1:ai TE 45 x.w (.int .i64 0)=some (.pointer (some ⟨b0,o0,none⟩)):=ea1
  have ldw:∀mm:M,mm.get m8.n=.cells x.c 87 none->ag TE mm 45 (.pointer (some ⟨m8.n,0+3,none⟩))=some x.w:=fun mm h=>by
   rw[mO,az h];rfl
  rw[bd,aa,ldw m16 hg16,aa,ea1,aa,la0,aa,aa,ldw m16 hg16,aa,ea1,aa,la0,aa]
  refine ar fun m26 hn26 hg26 hk26=>?_
  refine ar fun m27 hn27 hg27 hk27=>?_
  have h27:=(hk27 m16.n (by omega)).trans hg26
  refine av cG h27 rfl rfl rfl fun m28 hn28 hg28 hk28=>?_
  refine⟨.inr ⟨by show m8.n≠m16.n;omega,by show b0≠m16.n;omega,trivial⟩,?_⟩
  have h28:=(hk28 m26.n (by omega)).trans hg27
  refine av cG h28 rfl rfl rfl fun m30 hn30 hg30 hk30=>?_
  have hx1630:Ext m16 m30:=⟨by omega,fun b hb=>by rw[hk30 b (by omega),hk28 b (by omega),hk27 b (by omega),hk26 b hb]⟩
  have hp0':fR x.u.shape 0=p0/\iA x.u.shape 0=p0:=by
   have:x.u.shape.headD ⟨0,0⟩=p0:=by
    rw[List.headD_eq_head?_getD,List.head?_eq_getElem?,hp0];rfl
   exact⟨this,this⟩
  have cv30:Cv m x m8.n m16.n m26.n (fR x.u.shape 0) (iA x.u.shape 0) kv8 m30:=by
   rw[hp0'.1,hp0'.2]
   exact⟨fun c hc=>by rw[hx1630.get c (by omega),old16 c hc],by omega,hx1630.cells hg16,by rw[hk30 _ (by omega),hg28];rfl,by rw[hg30];rfl,(hpm8.aD hx816).aD hx1630⟩
  rw[aa,ldw m30 cv30.un,aa,(qa hshx cv30.eO).len cF,au]
  refine Lp.intro (γ:=Nat) (fun k=>x.u.shape.length-k) (fun k vs m37 lo=>vs=[.int .i64 k]/\k<=x.u.shape.length/\Cv m x m8.n m16.n m26.n (fR x.u.shape k) (iA x.u.shape k) kv8 m37/\m30.n<=m37.n/\m.n<=lo) 0 ⟨rfl,Nat.zero_le _,cv30,Nat.le_refl _,by omega⟩ ?_
  rintro k vs m37 lo37 ⟨rfl,hk,cv37,hn37,hlo37⟩
  simp only[aA,aM,aa,aj]
  refine ak (fun hlt2=>?_) (fun hge2=>?_)
  ·have hlt2:k < x.u.shape.length:=by simpa using hlt2
   obtain⟨p,hp⟩:∃p,x.u.shape[k]?=some p:=⟨_,List.getElem?_eq_getElem hlt2⟩
   obtain⟨q,e1,e2⟩:=(qa hshx cv37.eO).dK (k:=.i64) hp
   rw[e1,aa,e2,aa]
   refine ar fun m44 hn44 hg44 hk44=>?_
   refine av cG hg44 rfl rfl rfl fun m45 hn45 hg45 hk45=>?_
   have hx45:Ext m37 m45:=⟨by omega,fun b hb=>by rw[hk45 b (by omega),hk44 b hb]⟩
   have cv45:=cv37.bw hx45
   have glo:=cv45.lo
   have ghi:=cv45.hi
   have gp:m45.get m37.n=.cells p.c 98 none:=hg45
   simp only[Pl.c]at glo ghi gp
   simp only[bC,bJ,aa,bA,az glo,az ghi,az gp,Nat.zero_add,List.getElem?_cons_zero,List.getElem?_cons_succ,kU,jT,au]
   rw[ez rfl rfl,aa,ez rfl rfl,aa]
   refine av cG glo rfl rfl rfl fun m69 hn69 hg69 hk69=>?_
   refine⟨.inr ⟨by show m26.n≠m16.n;omega,by show m37.n≠m16.n;omega,by show m26.n≠m16.n;omega,by show m37.n≠m16.n;omega,trivial⟩,?_⟩
   have ghi69:=(hk69 m26.n (by omega)).trans ghi
   refine av cG ghi69 rfl rfl rfl fun m71 hn71 hg71 hk71=>?_
   simp only[aG,aa]
   rw[wrap64 (by omega) (by omega)]
   refine⟨k+1,by omega,by simp,by omega,⟨?_,?_,?_,?_,?_,?_⟩,by omega,by omega⟩
   ·intro c hc
    rw[hk71 c (by omega),hk69 c (by omega),cv45.eO c hc]
   ·have:=cv45.n;omega
   ·rw[hk71 _ (by omega),hk69 _ (by omega),cv45.un]
   ·rw[hk71 _ (by omega),hg69,tX hp];rfl
   ·rw[hg71,tY hp];rfl
   ·exact(cv45.pm.store cv45.lo hk69).store ghi69 hk71
  ·have hk':k=x.u.shape.length:=by
    have:¬(k:Int)< (x.u.shape.length:Int):=by simpa using hge2
    omega
   subst hk'
   obtain⟨hbl,hbh,hbx,hby⟩:=JF hon hne _ (Nat.le_refl _)
   generalize hLO:fR x.u.shape x.u.shape.length=LO at*
   generalize hHI:iA x.u.shape x.u.shape.length=HI at*
   unfold Pl.bW at hbl hbh
   have glo:=cv37.lo
   simp only[Pl.c]at glo
   simp only[bC,bJ,aa,bA,az glo,Nat.zero_add,List.getElem?_cons_zero,List.getElem?_cons_succ]
   refine Lp.intro (γ:=Int) (fun y=>(HI.y-y).toNat) (fun y vs m78 lo=>vs=[.int .i64 y]/\LO.y<=y/\y<=HI.y/\m37.n<=m78.n/\m.n<=lo/\∃kv,Cv m x m8.n m16.n m26.n LO HI kv m78/\iC kv (us.take i) x y LO.x) LO.y
    ⟨rfl,Int.le_refl _,hby,Nat.le_refl _,hlo37,kv8,cv37,by have:=iC.start (u:=x) hget8;rw[hLO]at this;exact this⟩ ?_
   rintro y vs m78 lo78 ⟨rfl,hy1,hy2,hn78,hlo78,kv78,cv78,hmap78⟩
   have ghi:=cv78.hi
   have glo:=cv78.lo
   simp only[Pl.c]at glo ghi
   simp only[aA,az ghi,az glo,List.getElem?_cons_zero,List.getElem?_cons_succ,aa,cR,aj]
   refine ak (fun hend=>?_) (fun hgo=>?_)
   ·have hend:HI.y<=y:=by simpa using hend
    simp only[aG,aa]
    rw[wrap64 (by omega) (by omega)]
    refine⟨i+1,by omega,by simp,by omega,cv78.eO,cv78.n,hlo78,kv78,cv78.pm,?_⟩
    rw[List.take_add_one,hx]
    exact hmap78.done (by rw[hHI];exact hend)
   ·have hgo:y < HI.y:=by
     have:¬HI.y<=y:=by simpa using hgo
     omega
    refine Lp.intro (γ:=Int) (fun z=>(HI.x-z).toNat) (fun z vs m90 lo=>vs=[.int .i64 z]/\LO.x<=z/\z<=HI.x/\m37.n<=m90.n/\m.n<=lo/\∃kv,Cv m x m8.n m16.n m26.n LO HI kv m90/\iC kv (us.take i) x y z) LO.x
     ⟨rfl,Int.le_refl _,hbx,hn78,hlo78,kv78,cv78,hmap78⟩ ?_
    rintro z vs m90 lo90 ⟨rfl,hz1,hz2,hn90,hlo90,kv90,cv90,hmap90⟩
    have ghi:=cv90.hi
    simp only[Pl.c]at ghi
    simp only[aA,az ghi,List.getElem?_cons_zero,List.getElem?_cons_succ,aa,aM,aj]
    refine ak (fun hgo2=>?_) (fun hend2=>?_)
    ·have hgo2:z < HI.x:=by simpa using hgo2
     rw[ez rfl rfl,aa]
     refine ar fun m98 hn98 hg98 hk98=>?_
     refine av cG hg98 rfl rfl rfl fun m99 hn99 hg99 hk99=>?_
     have hx99:Ext m90 m99:=⟨by omega,fun b hb=>by rw[hk99 b (by omega),hk98 b hb]⟩
     have cv99:=cv90.bw hx99
     have gq:m99.get m90.n=.cells (Pl.c ⟨z,y⟩) 98 none:=hg99
     have hn99':=cv99.n
     rw[show ag TE m99 45 (.pointer (some ⟨m8.n,3,none⟩))=some x.w from ldw m99 cv99.un,aa]
     refine aC (CT hX (qa hshx cv99.eO) (by omega) z y) ?_
     simp only[cR,aa,aj]
     have hin:zx x.u.shape ⟨z,y⟩=true:=by
      unfold zx
      rw[hLO,hHI]
      simp only[Bool.and_eq_true,decide_eq_true_eq]
      exact⟨⟨⟨hz1,hgo2⟩,hy1⟩,hgo⟩
     have hcov:og x.u ⟨z,y⟩=decide (0<=nv x.u.shape z y):=by unfold og;rw[hin,Bool.true_and]
     refine ak (fun hc=>?_) (fun hc=>?_)
     ·rw[bz gq,aa,wB cv99.un,aa]
      have hsz:(fS kv90 ⟨z,y⟩).length < 1000000:=by
       rw[hmap90 ⟨z,y⟩,List.length_append]
       have h1:(tR (us.take i) ⟨z,y⟩).length<=(us.take i).length:=List.length_filter_le _ _
       have h2:(us.take i).length<=us.length:=by rw[List.length_take];omega
       have h3:(if og x.u ⟨z,y⟩ && jR y z ⟨z,y⟩then [x]else []).length<=1:=by split <;>simp
       omega
      refine PM.add (n0:=m.n) cv99.pm (by omega) (by omega) (by omega) (by omega) hone hsz fun m112 m115 m117 kv' hpm' hget' hfr hm2 hm3 hm4 l2 l3 l4=>?_
      simp only[aG,aa]
      rw[wrap64 (by omega) (by omega)]
      refine⟨z+1,by omega,rfl,by omega,by omega,by omega,by omega,kv',⟨fun c hc=>by rw[hfr.low c (by omega) (by omega),cv99.eO c hc],by omega,hfr.cell _ _ _ _ cv99.un (.inr rfl),hfr.cell _ _ _ _ cv99.lo (.inr rfl),hfr.cell _ _ _ _ cv99.hi (.inr rfl),hpm'⟩,?_⟩
      exact hmap90.step (by rw[hcov];exact hc) hget'
     ·simp only[aG,aa]
      rw[wrap64 (by omega) (by omega)]
      exact⟨z+1,by omega,rfl,by omega,by omega,by omega,by omega,kv90,cv99,hmap90.skip (by rw[hcov];exact hc)⟩
    ·have hz:z=HI.x:=by
      have:¬z < HI.x:=by simpa using hend2
      omega
     subst hz
     simp only[aG,aa]
     rw[wrap64 (by omega) (by omega)]
     refine⟨y+1,by omega,rfl,by omega,by omega,by omega,hlo90,kv90,cv90,?_⟩
     have:=iC.row (kv:=kv90) (us:=us.take i) (u:=x) (y:=y) (by rw[hHI];exact hmap90)
     rw[hLO]at this
     exact this
 ·have hi':i=us.length:=by
   have:¬(i:Int)< (us.length:Int):=by simpa using hge
   omega
  subst hi'
  rw[List.take_length]at hget8
  exact⟨.inl rfl,by omega,rfl,⟨by omega,old8⟩,kv8,hpm8,hget8⟩
end Go.Proofs.YtmdfgncoekfgdaaGreatDoor
namespace Go.Proofs.YtmdfgncoekfgdaaGreatDoor
open Go Go.D
variable {X:aF} {m:M}
def Bi(us:List Un)(q:Pl):List Un:=us.filter fun u=>og u q
theorem Jq(us:List UW)(q:Pl):(tR us q).map (·.u)=Bi (us.map (·.u)) q:=by
 unfold tR Bi
 rw[List.filter_map]
 rfl
def tM(us:List Un)(behind:Bool)(x y:Int):Int:=
 if behind then Rr (dq (fun a b=>decide (a.back < b.back)) (Bi us ⟨39-x,y⟩) none)
 else Rr (dq (fun a b=>decide (b.front < a.front)) (Bi us ⟨x,y⟩) none)
theorem zN(hX:dF X){us:List UW}{b1 b2 r n1:Nat}{kv:List ki}{behind:Bool}(h1:m.get b1=.cells [.bool behind] 4 none)(h2:m.get b2=.cells [.map (some r)] 133 none)
  (hpm:PM n1 m r kv) (hget:∀q,fS kv q=tR us q) (hsh:∀x∈us,Sl m x.u.shape x.w) (hlen:us.length<=1000) {x y:Int} (hx:0<=x) (hx':x < 40):
  C X (.func 130) [.int .i64 x,.int .i64 y,ptrTo b1,ptrTo b2] m m.n (.int .i64 (tM (us.map (·.u)) behind x y)) m:=by
 refine Cl.flat (hX.no _ rfl) N4 rfl rfl ?_
 rw[Th];dsimp only[aN]
 simp only[ptrTo]
 rw[sZ,az h1]
 simp only[List.getElem?_cons_zero,aa,aj]
 have go:∀(bf:Un->Un->Bool) (fn:Nat) (q:Pl) (P:Value->M->Nat->Prop),(∀a b wa wb (m1:M),C X (.func fn) [a.v wa,b.v wb] m1 m1.n (.bool (bf a b)) m1)->
   (∀m2,m.n<=m2.n->∀b,m.n<=b->P (.int .i64 (Rr (dq bf (Bi (us.map (·.u)) q) none))) m2 b)->
   ah (eK TE m 133 (.map (some r)) q.v false) fun v5=>bB TE X (.func 132) [v5,.func (.func fn) #[] #[]] m fun v6 m7 b8=>ah (cx v6 0) fun v9=>ah (cx v6 1) fun v10=>bB TE X (.func 131) [v9,v10] m7 fun v11 m12 b13=>P v11 m12 (min (min m.n b8) b13):=by
  intro bf fn q P hs hP
  obtain⟨v5,e5,hs5⟩:=hpm.lookup q
  rw[e5,aa]
  rw[hget q]at hs5
  have hsu:=hs5.PS fun x hx=>hsh x (List.mem_filter.1 hx |>.1)
  rw[Jq]at hsu
  have hl:(Bi (us.map (·.u)) q).length < 4611686018427387904:=by
   have:(Bi (us.map (·.u)) q).length<=(us.map (·.u)).length:=List.length_filter_le _ _
   rw[List.length_map]at this
   omega
  obtain⟨rv,m7,hc,hx7,ho⟩:=Ja hX (g:=.func fn) (fi:= #[]) (ca:= #[]) bf hl hsu (fun a b wa wb m1 _=>hs a b wa wb m1)
  refine aC hc ?_
  rw[aR,aR]
  simp only[List.getElem?_cons_zero,List.getElem?_cons_succ,aa]
  refine aC (P4 hX ho) ?_
  have:=hx7.n
  exact hP m7 (by omega) _ (by omega)
 have ldm:ag TE m 133 (.pointer (some ⟨b2,0,none⟩))=some (.map (some r)):=by rw[HO,az h2];rfl
 refine ak (fun hb=>?_) (fun hb=>?_)
 ·rw[ldm,aa,dc,aa,wrap64 (by omega) (by omega),ez rfl rfl,aa]
  exact go (fun a b=>decide (a.back < b.back)) 133 ⟨39-x,y⟩ (fun v m2 b=>bs [v]=.int .i64 (tM (us.map (·.u)) behind x y)/\m.n<=b) (fun a b wa wb m1=>JJ hX a b wa wb) (fun m2 hn b hbb=>⟨by rw[bs,tM,hb];rfl,hbb⟩)
 ·rw[ldm,aa,ez rfl rfl,aa]
  exact go (fun a b=>decide (b.front < a.front)) 134 ⟨x,y⟩ (fun v m2 b=>bs [v]=.int .i64 (tM (us.map (·.u)) behind x y)/\m.n<=b) (fun a b wa wb m1=>EA hX a b wa wb) (fun m2 hn b hbb=>⟨by rw[bs,tM,hb];rfl,hbb⟩)
def dE(us:List Un)(behind:Bool):List Int:=kz (fun i j=>tM us behind i j) 40 40
theorem wQ(hX:dF X){us:List Un}{v:Value}{behind:Bool}(hl:Sl m us v)(hval:∀u∈us,aP u.shape=true)(hlen:us.length<=1000):
  ∃v' m',C X (.func 60) [.agg #[v],.bool behind] m m.n (FG 40 40 v') m'/\Ext m m'/\Ow m.n m' (dE us behind) v':=by
 have key:=Cl.heap (E:=TE) (X:=X) (f:=60) (args:=[.agg #[v],.bool behind]) (m:=m) (R:=fun w m' b=>b=m.n/\Ext m m'/\∃v',w=FG 40 40 v'/\Ow m.n m' (dE us behind) v') (hX.no _ rfl) Qo rfl ?_
 ·obtain⟨w,m',b,hc,rfl,hx,v',rfl,hr⟩:=key
  exact⟨v',m',hc,hx,hr⟩
 rw[F60];dsimp only[aN]
 refine ar fun m1 hn1 hg1 hk1=>?_
 refine ar fun m2 hn2 hg2 hk2=>?_
 refine ar fun m3 hn3 hg3 hk3=>?_
 have hx3:Ext m m3:=⟨by omega,fun b hb=>by rw[hk3 b (by omega),hk2 b (by omega),hk1 b hb]⟩
 have g0:m3.get m.n=.cells [v] 31 none:=by rw[hk3 _ (by omega),hk2 _ (by omega),hg1];rfl
 have gb:m3.get m1.n=.cells [.bool behind] 4 none:=by rw[hk3 _ (by omega),hg2];rfl
 obtain⟨usw,rfl,hsw,hshw⟩:=(hl.aD hx3).PE
 simp only[ptrTo]
 rw[eo,aH g0 (by simp)]
 simp only[List.drop_zero,List.take_succ_cons,List.take_zero,Option.map_some,aa]
 obtain⟨m6,kv,hc,hx6,hpm,hget⟩:=Fk hX hsw hshw (fun x hx=>hval x.u (List.mem_map.2 ⟨x,hx,rfl⟩)) (by rw[List.length_map]at hlen;exact hlen)
 refine aC hc ?_
 refine ar fun m8 hn8 hg8 hk8=>?_
 refine av MP hg8 rfl rfl rfl fun m9 hn9 hg9 hk9=>?_
 have hx69:Ext m6 m9:=⟨by omega,fun b hb=>by rw[hk9 b (by omega),hk8 b hb]⟩
 have hx39:=hx6.trans hx69
 have h3n:=hx39.n
 obtain⟨v',m12,hc12,hx12,ho12⟩:=KI (m:=m9) hX (w:=40) (h:=40) (by omega) (by omega) (g:=.func 130) (fi:= #[]) (ca:= #[.pointer (some ⟨m1.n,0,none⟩),.pointer (some ⟨m6.n,0,none⟩)]) (fun i j=>tM (usw.map (·.u)) behind i j)
  (fun i j mm hi hj hx=>by
   have hx3m:=hx39.trans hx
   exact zN (m:=mm) hX (b1:=m1.n) (b2:=m6.n) (hx3m.cells gb) (hx.cells (by rw[hg9];rfl)) ((hpm.aD hx69).aD hx) hget (fun x hx'=>(hshw x hx').aD hx3m) (by rw[List.length_map]at hlen;exact hlen) (by omega) (by omega)) (by omega)
 refine aC hc12 ?_
 have hx312:=hx39.trans hx12
 have gd:=hx312.cells hg3
 have hone:one v'=true:=ho12.sl.one
 have h12n:=hx312.n
 refine av BV gd rfl rfl (by show(true && (true && (one v' && true)))=true;rw[hone];rfl) fun m14 hn14 hg14 hk14=>?_
 have e2:ag TE m14 27 (.pointer (some ⟨m2.n,0,none⟩))=some (FG 40 40 v'):=by rw[pj,aH hg14 (by simp[aL])];rfl
 rw[e2,aa]
 have ho14:Ow m9.n m14 (dE (usw.map (·.u)) behind) v':=ho12.bw fun b c t g hb ht=>by
  by_cases hbm:b=m2.n
  ·subst hbm
   rw[gd]at hb
   cases hb
   simp[aY.ty,aY.jN]at ht
  ·rw[hk14 b hbm,hb]
 have hfl:bY (bs [FG 40 40 v'])=false:=by
  have hne:dE (usw.map (·.u)) behind≠ []:=fun e=>by
   have:=congrArg List.length e
   unfold dE at this
   rw[ky]at this
   simp at this
  rcases ho14 with⟨_,h0⟩ |⟨b,cs,rfl,_⟩
  ·exact absurd h0 hne
  ·rfl
 exact⟨.inl hfl,by have:=hx6.n;omega,⟨by omega,fun b hb=>by rw[hk14 b (by omega),(hx3.trans hx312).get b hb]⟩,v',rfl,ho14.mono (by omega)⟩
end Go.Proofs.YtmdfgncoekfgdaaGreatDoor
namespace Go.Proofs.YtmdfgncoekfgdaaGreatDoor
open Go Go.D
variable {X:aF} {m:M}
def gX(u:Un):Bool:=jL u.id 0 99 && jL u.kind 1 8 && jL u.Cx 0 7 && decide (0<=u.back) && decide (u.back < u.front) && decide (u.front<=8) && aP u.shape
def iY(a b:Un):Bool:=gX a && gX b && decide (max a.back b.back < min a.front b.front)
def iP(a b:Un):Bool:=iY a b && cH a.shape b.shape
theorem wF(hX:dF X)(n lo hi:Int):C X (.func 180) [.int .i64 n,.int .i64 lo,.int .i64 hi] m m.n (.bool (jL n lo hi)) m:=by
 refine Cl.flat (hX.no _ rfl) NM rfl rfl ?_
 rw[SV];dsimp only[aN]
 refine cq (fun vs m2 lo'=>vs=[.bool (jL n lo hi)]/\m.n<=lo') (fun R hR=>?_) ?_
 ·simp only[dk,aa,aj]
  refine ak (fun h=>hR _ _ _ ⟨by simp[jL,h],Nat.le_refl _⟩) (fun h=>hR _ _ _ ⟨by simp[jL,h],Nat.le_refl _⟩)
 ·rintro _ m2 lo' ⟨rfl,hl⟩
  rw[aA]
  exact⟨rfl,hl⟩
theorem iD{b:Nat}{u:Un}{w:Value}{g:Option Nat}(h:m.get b=.cells (u.c w) 87 g):
  ag TE m 3 (.pointer (some ⟨b,0+0,none⟩))=some (.int .i64 u.id)/\ag TE m 3 (.pointer (some ⟨b,0+1,none⟩))=some (.int .i64 u.kind)/\ag TE m 3 (.pointer (some ⟨b,0+2,none⟩))=some (.int .i64 u.Cx)/\
  ag TE m 45 (.pointer (some ⟨b,0+3,none⟩))=some w/\ag TE m 3 (.pointer (some ⟨b,0+4,none⟩))=some (.int .i64 u.back)/\ag TE m 3 (.pointer (some ⟨b,0+5,none⟩))=some (.int .i64 u.front):=by
 refine⟨?_,?_,?_,?_,?_,?_⟩ <;>first |(rw[bA,az h];rfl) |(rw[mO,az h];rfl)
theorem ja(hX:dF X){u:Un}{w:Value}(hw:Sl m u.shape w)(hb:u.shape.length < 4611686018427387904):C X (.func 120) [u.v w] m m.n (.bool (gX u)) m:=by
 refine Cl.flat (hX.no _ rfl) Oc rfl rfl ?_
 rw[To];dsimp only[aN]
 refine ar fun m1 hn1 hg1 hk1=>?_
 simp only[aL]at hg1
 have hx1:Ext m m1:=⟨by omega,hk1⟩
 have hg1:m1.get m.n=.cells (u.c w) 87 none:=hg1
 obtain⟨l0,l1,l2,l3,l4,l5⟩:=iD hg1
 unfold ptrTo
 refine cq (fun vs mm lo=>vs=[.bool (jL u.id 0 99 && jL u.kind 1 8 && jL u.Cx 0 7)]/\m1=mm/\m.n<=lo) (fun R hR=>?_) ?_
 ·rw[bt,aa,l0,aa]
  refine aC (wF hX _ _ _) ?_
  rw[aj]
  refine ak (fun h1=>?_) (fun h1=>hR _ _ _ ⟨by rw[h1];rfl,rfl,by omega⟩)
  rw[lW,aa,l1,aa]
  refine aC (wF hX _ _ _) ?_
  rw[aj]
  refine ak (fun h2=>?_) (fun h2=>hR _ _ _ ⟨by rw[h1,h2];rfl,rfl,by omega⟩)
  rw[lV,aa,l2,aa]
  refine aC (wF hX _ _ _) ?_
  exact hR _ _ _ ⟨by rw[h1,h2];rfl,rfl,by omega⟩
 rintro _ _ lo ⟨rfl,rfl,hlo⟩
 rw[aA]
 refine cq (fun vs mm lo=>vs=[.bool (gX u)]/\m.n<=lo) (fun R hR=>?_) ?_
 ·rw[aj]
  refine ak (fun h=>?_) (fun h=>hR _ _ _ ⟨by unfold gX;rw[h];rfl,hlo⟩)
  simp only[bd,cO,cN,aa,l3,l4,l5,dk,aM,aj]
  refine ak (fun h1=>?_) (fun h1=>hR _ _ _ ⟨by unfold gX;rw[h,h1];rfl,hlo⟩)
  refine ak (fun h2=>?_) (fun h2=>hR _ _ _ ⟨by unfold gX;rw[h,h1,h2];rfl,hlo⟩)
  refine ak (fun h3=>?_) (fun h3=>hR _ _ _ ⟨by unfold gX;rw[h,h1,h2,h3];rfl,hlo⟩)
  refine aC (fw hX (hw.aD hx1) hb) ?_
  exact hR _ _ _ ⟨by unfold gX;rw[h,h1,h2,h3];rfl,by omega⟩
 ·rintro _ mm lo ⟨rfl,hlo⟩
  rw[aA]
  exact⟨rfl,hlo⟩
theorem nH(hX:dF X){u:Un}{w:Value}(hw:Sl m u.shape w)(hb:u.shape.length < 4611686018427387904):C X (.func 135) [u.v w] m m.n (.bool (gX u)) m:=by
 refine Cl.flat (hX.no _ rfl) NZ rfl rfl ?_
 rw[Tc];dsimp only[aN]
 refine ar fun m1 hn1 hg1 hk1=>?_
 simp only[aL]at hg1
 have hx1:Ext m m1:=⟨by omega,hk1⟩
 have hg1:m1.get m.n=.cells (u.c w) 87 none:=hg1
 obtain⟨l0,l1,l2,l3,l4,l5⟩:=iD hg1
 unfold ptrTo
 have n1:jL u.id 0 99=(!(decide (u.id < 0)) && !(decide (99 < u.id))):=by unfold jL;by_cases a:u.id < 0 <;>by_cases b:99 < u.id <;>simp[a,b] <;>omega
 have n2:jL u.kind 1 8=(!(decide (u.kind < 1)) && !(decide (8 < u.kind))):=by unfold jL;by_cases a:u.kind < 1 <;>by_cases b:8 < u.kind <;>simp[a,b] <;>omega
 have n3:jL u.Cx 0 7=(!(decide (u.Cx < 0)) && !(decide (7 < u.Cx))):=by unfold jL;by_cases a:u.Cx < 0 <;>by_cases b:7 < u.Cx <;>simp[a,b] <;>omega
 refine cq (fun vs mm lo=>vs=[.bool (!(jL u.id 0 99 && jL u.kind 1 8 && jL u.Cx 0 7))]/\m1=mm/\m.n<=lo) (fun R hR=>?_) ?_
 ·simp only[bt,lW,lV,aa,l0,l1,l2,aM,cQ,aj]
  rw[n1,n2,n3]at hR
  refine ak (fun h1=>hR _ _ _ ⟨by rw[h1];rfl,rfl,Nat.le_refl _⟩) (fun h1=>?_)
  refine ak (fun h2=>hR _ _ _ ⟨by rw[h1,h2];rfl,rfl,Nat.le_refl _⟩) (fun h2=>?_)
  refine ak (fun h3=>hR _ _ _ ⟨by rw[h1,h2,h3];rfl,rfl,Nat.le_refl _⟩) (fun h3=>?_)
  refine ak (fun h4=>hR _ _ _ ⟨by rw[h1,h2,h3,h4];rfl,rfl,Nat.le_refl _⟩) (fun h4=>?_)
  refine ak (fun h5=>hR _ _ _ ⟨by rw[h1,h2,h3,h4,h5];rfl,rfl,Nat.le_refl _⟩) (fun h5=>?_)
  exact hR _ _ _ ⟨by rw[h1,h2,h3,h4,h5];simp,rfl,Nat.le_refl _⟩
 rintro _ _ lo ⟨rfl,rfl,hlo⟩
 rw[aA,aj]
 refine ak (fun h=>?_) (fun h=>?_)
 ·refine⟨?_,hlo⟩
  have h:(jL u.id 0 99 && jL u.kind 1 8 && jL u.Cx 0 7)=false:=by
   cases h':(jL u.id 0 99 && jL u.kind 1 8 && jL u.Cx 0 7)with
   |false=>rfl
   |true=>rw[h']at h;cases h
  unfold gX
  rw[h];rfl
 have h:(jL u.id 0 99 && jL u.kind 1 8 && jL u.Cx 0 7)=true:=by
  cases h':(jL u.id 0 99 && jL u.kind 1 8 && jL u.Cx 0 7)with
  |true=>rfl
  |false=>rw[h']at h;cases h
 refine cq (fun vs mm lo=>vs=[.bool (gX u)]/\m.n<=lo) (fun R hR=>?_) ?_
 ·simp only[bd,cO,cN,aa,l3,l4,l5,dk,cR,aM,aj]
  refine ak (fun h1=>?_) (fun h1=>hR _ _ _ ⟨by unfold gX;rw[h,h1];rfl,hlo⟩)
  refine ak (fun h2=>?_) (fun h2=>hR _ _ _ ⟨by unfold gX;rw[h,h1,h2];rfl,hlo⟩)
  refine ak (fun h3=>?_) (fun h3=>hR _ _ _ ⟨by unfold gX;rw[h,h1,h2,h3];rfl,hlo⟩)
  refine aC (qd hX (hw.aD hx1) hb) ?_
  exact hR _ _ _ ⟨by unfold gX;rw[h,h1,h2,h3];rfl,by omega⟩
 ·rintro _ mm lo ⟨rfl,hlo⟩
  rw[aA]
  exact⟨rfl,hlo⟩
theorem qF(hX:dF X){a b:Un}{va vb:Value}(ha:Sl m a.shape va)(hb:Sl m b.shape vb)(la:a.shape.length < 4611686018427387904)(lb:b.shape.length < 4611686018427387904):
  C X (.func 190) [a.v va,b.v vb] m m.n (.tuple #[.int .i64 (max a.back b.back),.int .i64 (min a.front b.front),.bool (iY a b)]) m:=by
 refine Cl.flat (hX.no _ rfl) NF rfl rfl ?_
 rw[SN];dsimp only[aN]
 refine ar fun m1 hn1 hg1 hk1=>?_
 refine ar fun m2 hn2 hg2 hk2=>?_
 simp only[aL]at hg1 hg2
 have hx2:Ext m m2:=⟨by omega,fun c hc=>by rw[hk2 c (by omega),hk1 c hc]⟩
 have g1:m2.get m.n=.cells (a.c va) 87 none:=by rw[hk2 _ (by omega)];exact hg1
 have g2:m2.get m1.n=.cells (b.c vb) 87 none:=hg2
 obtain⟨-, -, -, -,a4,a5⟩:=iD g1
 obtain⟨-, -, -, -,b4,b5⟩:=iD g2
 unfold ptrTo
 simp only[cO,cN,aa,a4,a5,b4,b5,jT,kU,au]
 refine cq (fun vs mm lo=>vs=[.int .i64 (max a.back b.back),.int .i64 (min a.front b.front),.bool (iY a b)]/\m.n<=lo) (fun R hR=>?_) ?_
 ·rw[aM,aa,aj]
  refine ak (fun h=>?_) (fun h=>hR _ _ _ ⟨by unfold iY;rw[h,Bool.and_false],by omega⟩)
  rw[bP g1,aa]
  refine aC (ja hX (ha.aD hx2) la) ?_
  rw[aj]
  refine ak (fun h1=>?_) (fun h1=>hR _ _ _ ⟨by unfold iY;rw[h1];rfl,by omega⟩)
  rw[bP g2,aa]
  refine aC (ja hX (hb.aD hx2) lb) ?_
  exact hR _ _ _ ⟨by unfold iY;rw[h,h1,Bool.true_and,Bool.and_true],by omega⟩
 ·rintro _ mm lo ⟨rfl,hlo⟩
  rw[aA,aA,aA]
  exact⟨rfl,hlo⟩
theorem An(hX:dF X){a b:Un}{va vb:Value}(ha:Sl m a.shape va)(hb:Sl m b.shape vb)(la:a.shape.length < 4611686018427387904)(lb:b.shape.length < 4611686018427387904):
  ∃x y,C X (.func 190) [a.v va,b.v vb] m m.n (.tuple #[.int .i64 x,.int .i64 y,.bool (iY a b)]) m:=⟨_,_,qF hX ha hb la lb⟩
theorem e9{u:Un}(h:gX u=true):u.shape.length<=8:=by
 unfold gX at h
 rw[Bool.and_eq_true]at h
 exact(cC h.2).2
theorem xP(hX:dF X){a b:Un}{va vb:Value}(ha:Sl m a.shape va)(hb:Sl m b.shape vb)(la:a.shape.length < 4611686018427387904)(lb:b.shape.length < 4611686018427387904):
  C X (.func 129) [a.v va,b.v vb] m m.n (.bool (iP a b)) m:=by
 refine Cl.flat (hX.no _ rfl) N5 rfl rfl ?_
 rw[Ti];dsimp only[aN]
 refine ar fun m1 hn1 hg1 hk1=>?_
 refine ar fun m2 hn2 hg2 hk2=>?_
 simp only[aL]at hg1 hg2
 have hx2:Ext m m2:=⟨by omega,fun c hc=>by rw[hk2 c (by omega),hk1 c hc]⟩
 have g1:m2.get m.n=.cells (a.c va) 87 none:=by rw[hk2 _ (by omega)];exact hg1
 have g2:m2.get m1.n=.cells (b.c vb) 87 none:=hg2
 obtain⟨-, -, -,a3, -, -⟩:=iD g1
 obtain⟨-, -, -,b3, -, -⟩:=iD g2
 unfold ptrTo
 rw[bP g1,aa,bP g2,aa]
 obtain⟨x,y,hc⟩:=An (m:=m2) hX (ha.aD hx2) (hb.aD hx2) la lb
 refine aC hc ?_
 rw[aR,aR,aR]
 simp only[List.getElem?_cons_zero,List.getElem?_cons_succ,aa]
 refine cq (fun vs mm lo=>vs=[.bool (iP a b)]/\m.n<=lo) (fun R hR=>?_) ?_
 ·rw[aj]
  refine ak (fun h=>?_) (fun h=>hR _ _ _ ⟨by unfold iP;rw[h];rfl,by omega⟩)
  have h':=h
  unfold iY at h'
  simp only[Bool.and_eq_true]at h'
  rw[bd,aa,a3,aa,bd,aa,b3,aa]
  refine aC (lN hX (ha.aD hx2) (hb.aD hx2) (by have:=e9 h'.1.1;omega) (by have:=e9 h'.1.2;omega)) ?_
  exact hR _ _ _ ⟨by unfold iP;rw[h];rfl,by omega⟩
 ·rintro _ mm lo ⟨rfl,hlo⟩
  rw[aA]
  exact⟨rfl,hlo⟩
theorem yI(hX:dF X){a b:Un}{va vb:Value}(ha:Sl m a.shape va)(hb:Sl m b.shape vb)(la:a.shape.length < 4611686018427387904)(lb:b.shape.length < 4611686018427387904):
  C X (.func 191) [a.v va,b.v vb] m m.n (.bool (iY a b)) m:=by
 refine Cl.flat (hX.no _ rfl) ND rfl rfl ?_
 rw[SM];dsimp only[aN]
 refine ar fun m1 hn1 hg1 hk1=>?_
 refine ar fun m2 hn2 hg2 hk2=>?_
 simp only[aL]at hg1 hg2
 have hx2:Ext m m2:=⟨by omega,fun c hc=>by rw[hk2 c (by omega),hk1 c hc]⟩
 have g1:m2.get m.n=.cells (a.c va) 87 none:=by rw[hk2 _ (by omega)];exact hg1
 have g2:m2.get m1.n=.cells (b.c vb) 87 none:=hg2
 obtain⟨-, -, -, -,a4,a5⟩:=iD g1
 obtain⟨-, -, -, -,b4,b5⟩:=iD g2
 unfold ptrTo
 refine cq (fun vs mm lo=>vs=[.bool (iY a b)]/\m.n<=lo) (fun R hR=>?_) ?_
 ·rw[bP g1,aa]
  refine aC (nH hX (ha.aD hx2) la) ?_
  rw[aj]
  refine ak (fun h1=>?_) (fun h1=>hR _ _ _ ⟨by unfold iY;rw[h1];rfl,by omega⟩)
  rw[bP g2,aa]
  refine aC (nH hX (hb.aD hx2) lb) ?_
  rw[aj]
  refine ak (fun h2=>?_) (fun h2=>hR _ _ _ ⟨by unfold iY;rw[h2,Bool.and_false];rfl,by omega⟩)
  simp only[cO,cN,aa,a4,a5,b4,b5,jT,kU,au,aM]
  exact hR _ _ _ ⟨by unfold iY;rw[h1,h2,Bool.true_and,Bool.true_and],by omega⟩
 ·rintro _ mm lo ⟨rfl,hlo⟩
  rw[aA]
  exact⟨rfl,hlo⟩
theorem vU(hX:dF X){a b:Un}{va vb:Value}(ha:Sl m a.shape va)(hb:Sl m b.shape vb)(la:a.shape.length < 4611686018427387904)(lb:b.shape.length < 4611686018427387904):
  C X (.func 136) [a.v va,b.v vb] m m.n (.bool (iP a b)) m:=by
 refine Cl.flat (hX.no _ rfl) NY rfl rfl ?_
 rw[Tb];dsimp only[aN]
 refine ar fun m1 hn1 hg1 hk1=>?_
 refine ar fun m2 hn2 hg2 hk2=>?_
 simp only[aL]at hg1 hg2
 have hx2:Ext m m2:=⟨by omega,fun c hc=>by rw[hk2 c (by omega),hk1 c hc]⟩
 have g1:m2.get m.n=.cells (a.c va) 87 none:=by rw[hk2 _ (by omega)];exact hg1
 have g2:m2.get m1.n=.cells (b.c vb) 87 none:=hg2
 obtain⟨-, -, -,a3, -, -⟩:=iD g1
 obtain⟨-, -, -,b3, -, -⟩:=iD g2
 unfold ptrTo
 refine cq (fun vs mm lo=>vs=[.bool (iP a b)]/\m.n<=lo) (fun R hR=>?_) ?_
 ·rw[bP g1,aa,bP g2,aa]
  refine aC (yI hX (ha.aD hx2) (hb.aD hx2) la lb) ?_
  rw[aj]
  refine ak (fun h=>?_) (fun h=>hR _ _ _ ⟨by unfold iP;rw[h];rfl,by omega⟩)
  have h':=h
  unfold iY at h'
  simp only[Bool.and_eq_true]at h'
  rw[bd,aa,a3,aa,bd,aa,b3,aa]
  refine aC (yL hX (ha.aD hx2) (hb.aD hx2) (by have:=e9 h'.1.1;omega) (by have:=e9 h'.1.2;omega)) ?_
  exact hR _ _ _ ⟨by unfold iP;rw[h];rfl,by omega⟩
 ·rintro _ mm lo ⟨rfl,hlo⟩
  rw[aA]
  exact⟨rfl,hlo⟩
end Go.Proofs.YtmdfgncoekfgdaaGreatDoor
namespace Go.D
open Go
section
variable {E:Env} {α:Type} [aY α] {n1:Nat} {m:M} {l ys:List α} {v y:Value} {T:TypeId}
end
end Go.D
namespace Go.D
open Go
section
variable {E:Env} {m:M} {T:TypeId} {ti:TI} {e:TypeId} {b n:Nat} {cs:List Value} {te:TypeId} {g:Option Nat}
theorem yB(t1:E.ty.get T=some ti)(t2:ti.d=.slice e)(hk:0 < ti.es)(h:m.get b=.cells cs te g)(hg:g=none\/g=some ti.es){o c j:Nat}(hnc:n<=c)(hj:j<=n):
  ∃a',slice? E m T (.slice (some ⟨b,o,none⟩) n c) (some (.int .i64 j)) none none=some (.slice (some a') (n-j) (c-j))/\(j < c->a'=⟨b,o+j*ti.es,none⟩):=by
 have b1:kb n c (some (.int .i64 j)) none none=some (j,n,c):=by unfold kb;simp only[JG hj]
 have e1:Nat.beq ti.es 0=false:=by
  cases hb:Nat.beq ti.es 0 with
  |false=>rfl
  |true=>have:=Nat.eq_of_beq_eq_true hb;omega
 have e2:Nat.ble n c=true:=Nat.ble_eq_true_of_le hnc
 have e0:(⟨b,o,none⟩:Addr).add (j*ti.es)=⟨b,o+j*ti.es,none⟩:=aZ (a:=⟨b,o,none⟩) rfl _
 have e4:j < c->Nat.beq c j=false:=fun hlt=>by
  cases hb:Nat.beq c j with
  |false=>rfl
  |true=>have:=Nat.eq_of_beq_eq_true hb;omega
 rcases hg with rfl |rfl
 ·refine⟨bif Nat.beq c j then⟨b,o,none⟩else(⟨b,o,none⟩:Addr).add (j*ti.es),?_,fun hlt=>by rw[e4 hlt];exact e0⟩
  simp only[slice?,t1,t2,b1,h,e1,e2,Bool.not_true,Bool.or_false,cond_false]
 ·have e3:Nat.beq ti.es ti.es=true:=Nat.beq_refl _
  refine⟨bif Nat.beq c j && !((none:Option Value).isNone && Nat.beq (o+c*ti.es) cs.length)then⟨b,o,none⟩else(⟨b,o,none⟩:Addr).add (j*ti.es),?_,fun hlt=>by rw[e4 hlt];exact e0⟩
  simp only[slice?,t1,t2,b1,h,e1,e2,e3,Bool.not_true,Bool.or_false,cond_false,cond_true]
theorem Ow.PY{α:Type}[aY α]{n1:Nat}{m m':M}{l:List α}{v:Value}(ht:aY.jN α=[])(h:Ow n1 m l v)(hk:∀c,n1<=c->c < m.n->m'.get c=m.get c):Ow n1 m' l v:=by
 rcases h with h |⟨b,cs,h1,h2,h3,h4,h5,h6⟩
 ·exact .inl h
 ·exact .inr ⟨b,cs,h1,h2,h3,by rw[hk b h3 (M.aI h4),h4],h5,fun i x hi=>aY.bw (h6 i x hi) fun b c t g _ h=>by rw[ht]at h;cases h⟩
def Sw{α:Type}[aY α](m:M)(l:List α)(v:Value):Prop:=
 Sl m l v/\∃b o c bc g,v=.slice (some ⟨b,o,none⟩) l.length c/\l.length<=c/\m.get b=.cells bc (aY.ty α) g/\(g=none\/g=some (aY.sz α))
theorem Sw.aD{α:Type}[aY α]{m':M}{l:List α}{v:Value}(h:Sw m l v)(he:Ext m m'):Sw m' l v:=by
 obtain⟨h1,b,o,c,bc,g,h2,h3,h4,h5⟩:=h
 exact⟨h1.aD he,b,o,c,bc,g,h2,h3,he.cells h4,h5⟩
theorem Sl.part{α:Type}[aY α]{l:List α}{b o c:Nat}(h:Sl m l (.slice (some ⟨b,o,none⟩) l.length c)){i k:Nat}(hik:i+k<=l.length){c':Nat}:Sl m ((l.drop i).take k) (.slice (some ⟨b,o+i*aY.sz α,none⟩) k c'):=by
 have hlen:((l.drop i).take k).length=k:=by rw[List.length_take,List.length_drop];omega
 rcases h with⟨h,_⟩ |⟨b',o',c1,bc,g,he,hb,hle,hel⟩
 ·cases h
 ·cases he
  refine .inr ⟨b,_,c',bc,g,by rw[hlen],hb,?_,fun j x hj=>?_⟩
  ·rw[hlen]
   have:(i+k)*aY.sz α<=l.length*aY.sz α:=Nat.mul_le_mul_right _ hik
   rw[Nat.add_mul]at this
   omega
  ·have hj2:=(List.getElem?_eq_some_iff.1 hj).1
   rw[hlen]at hj2
   rw[List.getElem?_take_of_lt hj2,List.getElem?_drop]at hj
   have:=hel (i+j) x hj
   rwa[Nat.add_mul,<-Nat.add_assoc]at this
end
end Go.D
namespace Go.Proofs.YtmdfgncoekfgdaaGreatDoor
open Go Go.D
variable {X:aF} {m:M}
structure cS(us:List Un):Prop where
 len:us.length<=12
 val:∀u∈us,gX u=true
 Mr:∀(i:Nat) (a b:Un),us[i]?=some a->us[i+1]?=some b->a.id < b.id
 apart:∀(i k:Nat) (a b:Un),i < k->us[i]?=some a->us[k]?=some b->iP a b=false
open Classical in
noncomputable def gP(us:List Un):Bool:=decide (cS us)
open Classical in
theorem jk{us:List Un}(h:cS us):gP us=true:=by unfold gP;exact decide_eq_true h
open Classical in
theorem lh{us:List Un}(h:¬cS us):gP us=false:=by unfold gP;exact decide_eq_false h
open Classical in
theorem zK{us:List Un}:gP us=true↔cS us:=by unfold gP;exact decide_eq_true_iff
theorem Fq(a b:Un):iY a b=iY b a:=by
 unfold iY
 rw[Bool.and_comm (gX a),Int.max_comm,Int.min_comm]
theorem nN(a b:List Pl):cH a b=cH b a:=by
 unfold cH
 cases aP a <;>cases aP b <;>cases decide (cU a b < 0)<;>cases decide (cU b a < 0)<;>rfl
theorem sN(a b:Un):iP a b=iP b a:=by unfold iP;rw[Fq,nN]
def cd(l:List UW):List Un:=l.map (·.u)
theorem km{l:List UW}{i:Nat}{x:UW}(h:l[i]?=some x):(cd l)[i]?=some x.u:=by unfold cd;rw[List.getElem?_map,h];rfl
theorem dZ{l:List UW}:(cd l).length=l.length:=by unfold cd;rw[List.length_map]
theorem lF{l:List UW}{i:Nat}{u:Un}(h:(cd l)[i]?=some u):∃x,l[i]?=some x/\x.u=u:=by
 unfold cd at h
 rw[List.getElem?_map]at h
 cases hx:l[i]? with
 |none=>rw[hx]at h;cases h
 |some x=>rw[hx]at h;cases h;exact⟨x,rfl,rfl⟩
theorem Am{l:List UW}{u:Un}(h:u∈cd l):∃x∈l,x.u=u:=by unfold cd at h;obtain⟨x,hx,rfl⟩:=List.mem_map.1 h;exact⟨x,hx,rfl⟩
structure eF(m:M)(l:List UW)(v:Value):Prop where
 sl:Sl m l v
 sh:∀x∈l,Sl m x.u.shape x.w
 ln:∀x∈l,x.u.shape.length < 1000000
 cap:l=[]\/∃b o c bc g,v=.slice (some ⟨b,o,none⟩) l.length c/\l.length<=c/\m.get b=.cells bc 87 g/\(g=none\/g=some 6)
theorem eF.aD{l:List UW}{v:Value}{m':M}(h:eF m l v)(hx:Ext m m'):eF m' l v:=
 ⟨h.sl.aD hx,fun x hx'=>(h.sh x hx').aD hx,h.ln,h.cap.imp id fun⟨b,o,c,bc,g,h1,h2,h3,h4⟩=>⟨b,o,c,bc,g,h1,h2,hx.cells h3,h4⟩⟩
theorem eF.bw{l:List UW}{v:Value}{m':M}(h:eF m l v)(hk:∀c cs t g,m.get c=.cells cs t g->(t=87\/t=98)->m'.get c=.cells cs t g):eF m' l v:=
 ⟨h.sl.bw fun b c t g hb ht=>hk b c t g hb (.inl (by simpa[aY.ty,aY.jN]using ht)),fun x hx=>(h.sh x hx).bw fun b c t g hb ht=>hk b c t g hb (.inr (by simpa[aY.ty,aY.jN]using ht)),h.ln,
  h.cap.imp id fun⟨b,o,c,bc,g,h1,h2,h3,h4⟩=>⟨b,o,c,bc,g,h1,h2,hk _ _ _ _ h3 (.inl rfl),h4⟩⟩
def eG:List UW->List (List Value)
 |[]=> []
 |a::r=>r.map (fun b=> [a.v,b.v])++eG r
theorem AF{l:List UW}{i:Nat}{a:UW}(h:l[i]?=some a):eG (l.drop i)=(l.drop (i+1)).map (fun b=> [a.v,b.v])++eG (l.drop (i+1)):=by
 have hi:=(List.getElem?_eq_some_iff.1 h).1
 rw[List.drop_eq_getElem_cons hi,(List.getElem?_eq_some_iff.1 h).2,eG]
theorem AG{x:UW}{r:List UW}:eG (x::r)=r.map (fun b=> [x.v,b.v])++eG r:=rfl
theorem vd(hX:dF X){l:List UW}{v:Value}{b:Nat}(hlen:l.length < 1000000):
  OY TE X (fun o=>∃cs g,o=.cells cs 87 g) (.func 189) [] [ptrTo b] (eG l) (fun m=>m.get b=.cells [v] 31 none/\eF m l v):=by
 intro y n0 B I J m hD hI hJ hy hn0 hB hyield h0
 refine Cl.gen (R:=fun v m2 b=>B<=b/\(I (eG l).length m2\/J m2)) (hX.no _ rfl) NG rfl ?_
 rw[show([]:List Value)++ .func (.yield y) #[] #[]::[ptrTo b]=[.func (.yield y) #[] #[],ptrTo b]from rfl,SO];dsimp only[aN]
 have ld:∀m1:M,m1.get b=.cells [v] 31 none->ag TE m1 29 (.pointer (some ⟨b,0+0,none⟩))=some v:=fun m1 h=>by rw[fD,az h];rfl
 unfold ptrTo
 rw[bR,aa,ld m (hD _ _ h0).1,aa,(hD _ _ h0).2.sl.len eP,au]
 refine Lp.intro (γ:=Nat) (fun i=>l.length-i) (fun i vs m1 lo=>∃P,vs=[.int .i64 i]/\i<=l.length/\eG l=P++eG (l.drop i)/\I P.length m1/\n0<=m1.n/\m.n<=m1.n/\B<=lo/\((lo=m.n/\P=[])\/lo < m.n)) 0
  ⟨[],rfl,Nat.zero_le _,rfl,h0,hn0,Nat.le_refl _,by omega,.inl ⟨rfl,rfl⟩⟩ ?_
 rintro i vs m1 lo1 ⟨P,rfl,hi,hP,hI1,hn1,hmn1,hlo,hlow⟩
 rw[aA,aM,aa,aj]
 refine ak (fun hlt=>?_) (fun hge=>?_)
 ·have hlt:i < l.length:=by simpa using hlt
  obtain⟨a,ha⟩:∃a,l[i]?=some a:=⟨_,List.getElem?_eq_getElem hlt⟩
  obtain⟨q,e1,e2,ow⟩:=(hD _ _ hI1).2.sl.iQ (k:=.i64) ha
  rw[e1,aa,e2,aa]
  refine ar fun m13 hn13 hg13 hk13=>?_
  refine av eH hg13 rfl rfl (Un.eE ow) fun m14 hn14 hg14 hk14=>?_
  have hx14:Ext m1 m14:=⟨by omega,fun b hb=>by rw[hk14 b (by omega),hk13 b hb]⟩
  have hI14:=hI _ _ _ hI1 hx14
  obtain⟨hb14,hs14⟩:=hD _ _ hI14
  rw[aa,ld m14 hb14,aa,aG,aa,wrap64 (by omega) (by omega),show((i:Int)+1)=((i+1:Nat):Int) by omega]
  obtain⟨a',c',hsl,hat⟩:∃a' c',slice? TE m14 29 v (some (.int .i64 ((i+1:Nat):Int))) none none=some (.slice (some a') (l.length-(i+1)) c')/\∀(mm:M),eF mm l v->∀j x,l[i+1+j]?=some x->∃q,ai TE 29 (.slice (some a') (l.length-(i+1)) c') (.int .i64 j)=some q/\ag TE mm 87 q=some x.v:=by
   rcases hs14.cap with h |⟨ab,o,c,bc,g,hv,hlc,hg,hgg⟩
   ·rw[h]at hlt;simp at hlt
   ·obtain⟨a',h1,h2⟩:=yB (E:=TE) (m:=m14) (T:=29) (ti:=af.t29) (e:=87) (b:=ab) (cs:=bc) (te:=87) (g:=g) (n:=l.length) (o:=o) (c:=c) (j:=i+1) LZ rfl (by decide) hg hgg hlc hlt
    refine⟨a',c-(i+1),by rw[hv];exact h1,fun mm hmm j x hx=>?_⟩
    have hj:=(List.getElem?_eq_some_iff.1 hx).1
    have ha':=h2 (by omega)
    subst ha'
    have hsl:=hmm.sl
    rw[hv]at hsl
    have hp:=Sl.part (i:=i+1) (k:=l.length-(i+1)) (c':=c-(i+1)) hsl (by omega)
    have hj2:((l.drop (i+1)).take (l.length-(i+1)))[j]?=some x:=by
     rw[List.getElem?_take_of_lt (by omega),List.getElem?_drop];exact hx
    obtain⟨q,q1,q2,_⟩:=hp.iQ (k:=.i64) hj2
    exact⟨q,q1,q2⟩
  rw[hsl,aa]
  have ln:aq TE m14 .len [29] [.slice (some a') (l.length-(i+1)) c']=some (.int .i64 (l.length-(i+1):Nat),m14):=Nd
  rw[ln,au]
  have hP2:=hP
  rw[AF ha,<-List.append_assoc]at hP2
  have hat0:∀j x,l[i+1+j]?=some x->(eG l)[P.length+j]?=some [a.v,x.v]:=fun j x hx=>by
   have hj:=(List.getElem?_eq_some_iff.1 hx).1
   have hjd:(l.drop (i+1))[j]?=some x:=by rw[List.getElem?_drop];exact hx
   rw[hP2,List.append_assoc,List.getElem?_append_right (by omega),Nat.add_sub_cancel_left,List.getElem?_append_left (by rw[List.length_map,List.length_drop];omega),List.getElem?_map,hjd];rfl
  refine Lp.intro (γ:=Nat) (fun j=>l.length-j) (fun j vs m2 lo=>vs=[.int .i64 j]/\j<=l.length-(i+1)/\I (P.length+j) m2/\m1.n < m2.n/\m2.get m1.n=.cells a.c 87 none/\B<=lo/\((lo=m.n/\P=[]/\j=0)\/lo < m.n)) 0
   ⟨rfl,Nat.zero_le _,hI14,by omega,hg14,by omega,by
    rcases hlow with⟨h1,h2⟩ |h
    ·exact .inl ⟨by omega,h2,rfl⟩
    ·exact .inr (by omega)⟩ ?_
  rintro j vs m2 eZ ⟨rfl,hj,hI2,hn2,hga,hlo2,hlow2⟩
  rw[aA,aM,aa,aj]
  refine ak (fun hlt2=>?_) (fun hge2=>?_)
  ·have hlt2:j < l.length-(i+1):=by simpa using hlt2
   obtain⟨x,hx⟩:∃x,l[i+1+j]?=some x:=⟨_,List.getElem?_eq_getElem (by omega)⟩
   obtain⟨q,q1,q2⟩:=hat m2 (hD _ _ hI2).2 j x hx
   obtain⟨_,_,_,ox⟩:=(hD _ _ hI2).2.sl.iQ (k:=.i64) hx
   rw[q1,aa,q2,aa]
   refine ar fun m30 hn30 hg30 hk30=>?_
   refine av eH hg30 rfl rfl (Un.eE ox) fun m31 hn31 hg31 hk31=>?_
   have hx31:Ext m2 m31:=⟨by omega,fun b hb=>by rw[hk31 b (by omega),hk30 b hb]⟩
   rw[wB (hx31.cells hga),aa,wB (x:=x) hg31,aa,bO]
   obtain⟨v2,m4,b4,hc,hB4,hy4,hfr,hres⟩:=hyield (P.length+j) [a.v,x.v] m31 (by omega) (hat0 j x hx) (hI _ _ _ hI2 hx31)
   refine aC hc ?_
   have hn4:m31.n<=m4.n:=hc.1
   rcases hres with⟨rfl,hI4⟩ |⟨rfl,hJ4⟩
   ·rw[bD,aa,aj,Bool.not_true,aU,aG,aa,wrap64 (by omega) (by omega)]
    have hga4:m4.get m1.n=.cells a.c 87 none:=by
     have h31:=hx31.cells hga
     rw[hfr m1.n hn1 (by omega) ⟨_,_,h31⟩,h31]
    exact⟨j+1,by omega,rfl,by omega,hI4,by omega,hga4,by omega,.inr (by omega)⟩
   ·rw[bD,aa,aj,Bool.not_false,bZ]
    exact .inr ⟨.inr (by omega),by omega,.inr hJ4⟩
  ·have hj':j=l.length-(i+1):=by
    have:¬(j:Int)< ((l.length-(i+1):Nat):Int):=by simpa using hge2
    omega
   have hlenP:(P++(l.drop (i+1)).map fun b=> [a.v,b.v]).length=P.length+j:=by rw[List.length_append,List.length_map,List.length_drop];omega
   rw[aa]
   refine⟨i+1,by omega,_,rfl,by omega,hP2,by rw[hlenP];exact hI2,by omega,by omega,hlo2,?_⟩
   rcases hlow2 with⟨h1,h2,h3⟩ |h
   ·refine .inl ⟨h1,?_⟩
    rw[<-List.length_eq_zero_iff,hlenP,h2,h3];rfl
   ·exact .inr h
 ·have hi':i=l.length:=by
   have:¬(i:Int)< (l.length:Int):=by simpa using hge
   omega
  subst hi'
  have hPl:eG l=P:=by rw[hP,List.drop_of_length_le (Nat.le_refl _)];simp[eG]
  rw[hPl]
  rcases hlow with⟨h1,h2⟩ |h
  ·subst h2
   exact .inl ⟨rfl,by omega,by omega,.inl h0⟩
  ·exact .inr ⟨.inr h,by omega,.inl hI1⟩
end Go.Proofs.YtmdfgncoekfgdaaGreatDoor
namespace Go.Proofs.YtmdfgncoekfgdaaGreatDoor
open Go Go.D
variable {X:aF} {m:M}
def dM:List UW->List (UW×UW)
 |[]=> []
 |a::r=>r.map (fun b=>(a,b))++dM r
theorem mF:∀l:List UW,eG l=(dM l).map fun p=> [p.1.v,p.2.v]
 |[]=>rfl
 |a::r=>by
  rw[AG,dM,List.map_append,List.map_map,mF r]
  rfl
theorem nL:∀{l:List UW} {p:UW×UW},p∈dM l->p.1∈l/\p.2∈l/\∃(i j:Nat),i < j/\l[i]?=some p.1/\l[j]?=some p.2
 |[],p,h=>by cases h
 |a::r,p,h=>by
  rw[dM]at h
  rcases List.mem_append.1 h with h |h
  ·obtain⟨b,hb,rfl⟩:=List.mem_map.1 h
   obtain⟨j,hj⟩:=List.getElem?_of_mem hb
   exact⟨by simp,by simp[hb],0,j+1,by omega,rfl,by simpa using hj⟩
  ·obtain⟨h1,h2,i,j,h3,h4,h5⟩:=nL h
   exact⟨by simp[h1],by simp[h2],i+1,j+1,by omega,by simpa using h4,by simpa using h5⟩
theorem Ei:∀{l:List UW} (i j:Nat) (a b:UW),i < j->l[i]?=some a->l[j]?=some b->(a,b)∈dM l:=by
 intro l
 induction l with
 |nil=>intro i j a b _ ha;simp at ha
 |cons x r ih=>
  intro i j a b hij ha hb
  rw[dM,List.mem_append]
  match i,j,hij with
  |0,j+1,_=>
   have ha:x=a:=by simpa using ha
   subst ha
   have hb:r[j]?=some b:=by simpa using hb
   exact .inl (List.mem_map.2 ⟨b,List.mem_of_getElem? hb,rfl⟩)
  |i+1,j+1,hij=>exact .inr (ih i j a b (by omega) (by simpa using ha) (by simpa using hb))
theorem yS{l:List UW}{k:Nat}{args:List Value}(h:(eG l)[k]?=some args):∃p,(dM l)[k]?=some p/\args=[p.1.v,p.2.v]:=by
 rw[mF,List.getElem?_map]at h
 cases hp:(dM l)[k]? with
 |none=>rw[hp]at h;cases h
 |some p=>rw[hp]at h;cases h;exact⟨p,rfl,rfl⟩
theorem yR(hX:dF X){v:Value}(hv:cells v=[v]):∃m',C X (.func 128) [.agg #[v]] m m.n (.func (.func 189) #[] #[ptrTo m.n]) m'/\Ext m m'/\m'.n=m.n+1/\m'.get m.n=.cells [v] 31 none:=by
 have key:∃r m' b,C X (.func 128) [.agg #[v]] m b r m'/\b=m.n/\r=.func (.func 189) #[] #[ptrTo m.n]/\Ext m m'/\m'.n=m.n+1/\m'.get m.n=.cells [v] 31 none:=by
  refine Cl.heap (R:=fun r m' b=>b=m.n/\r=.func (.func 189) #[] #[ptrTo m.n]/\Ext m m'/\m'.n=m.n+1/\m'.get m.n=.cells [v] 31 none) (hX.no _ rfl) N6 rfl ?_
  rw[Tj];dsimp only[aN]
  refine ar fun m1 hn1 hg1 hk1=>?_
  exact⟨.inl rfl,by omega,rfl,⟨by omega,hk1⟩,hn1,hg1⟩
 obtain⟨r,m',b,hc,rfl,rfl,h1,h2,h3⟩:=key
 exact⟨m',hc,h1,h2,h3⟩
theorem BR{l:List UW}{v:Value}(h:Sl m l v){i:Nat}{x:UW}(hx:l[i]?=some x):∃a a0,ai TE 29 v (.int .i64 i)=some a/\ae TE 87 a 0=some a0/\ag TE m 3 a0=some (.int .i64 x.u.id):=by
 obtain⟨b,o,bc,g,cs,e1,hb,hr,_,hj⟩:=h.iF eP (k:=.i64) hx
 obtain⟨rfl,_⟩:=hr
 refine⟨_,_,e1,bt,?_⟩
 rw[bA,az hb,hj 0 (by decide)];rfl
theorem JK{l:List UW}{i:Nat}{a b:UW}(ha:l[i]?=some a)(hb:l[i+1]?=some b)(h:b.u.id<=a.u.id):¬cS (cd l):=fun hf=>by
 have:=hf.Mr i _ _ (km ha) (km hb)
 omega
theorem FM{l:List UW}{a:UW}(ha:a∈l)(h:gX a.u=false):¬cS (cd l):=fun hf=>by
 have:=hf.val a.u (List.mem_map.2 ⟨a,ha,rfl⟩)
 rw[h]at this
 cases this
theorem Ab{l:List UW}{i j:Nat}{a b:UW}(hij:i < j)(ha:l[i]?=some a)(hb:l[j]?=some b)(h:iP a.u b.u=true):¬cS (cd l):=fun hf=>by
 have:=hf.apart i j _ _ hij (km ha) (km hb)
 rw[h]at this
 cases this
set_option maxRecDepth 100000 in
theorem qs(hX:dF X){l:List UW}{v:Value}(h:eF m l v)(hlen:l.length < 1000000):C X (.func 59) [.agg #[v]] m m.n (.bool (gP (cd l))) m:=by
 refine Cl.flat (hX.no _ rfl) Qp rfl rfl ?_
 rw[F59];dsimp only[aN]
 refine ar fun m1 hn1 hg1 hk1=>?_
 refine ar fun m2 hn2 hg2 hk2=>?_
 have hx2:Ext m m2:=⟨by omega,fun c hc=>by rw[hk2 c (by omega),hk1 c hc]⟩
 have g1:m2.get m.n=.cells [v] 31 none:=by rw[hk2 _ (by omega),hg1];rfl
 have ldF:∀mm:M,Ext m2 mm->ag TE mm 29 (.pointer (some ⟨m.n,0+0,none⟩))=some v:=fun mm hx=>by rw[fD,az (hx.cells g1)];rfl
 have hno:∀(mm:M) (lo:Nat),Ext m2 mm->m.n<=lo->¬cS (cd l)->aO (aB TE mm 4 (.pointer (some ⟨m1.n,0,none⟩)) (.bool false)) fun m7 b8=>ah (ag TE m7 4 (.pointer (some ⟨m1.n,0,none⟩))) fun v9=>bs [v9]=.bool (gP (cd l))/\m.n<=min lo b8:=by
  intro mm lo hx hlo hn
  refine av DP (hx.cells hg2) rfl rfl rfl fun m7 hn7 hg7 hk7=>?_
  rw[sZ,az hg7]
  show ah (some (Value.bool false)) _
  rw[aa,lh hn]
  exact⟨rfl,by omega⟩
 unfold ptrTo
 rw[bR,aa,ldF m2 .refl,aa,(h.sl.aD hx2).len eP,au,cQ,aa,aj]
 refine ak (fun hgt=>?_) (fun hle=>?_)
 ·have hgt:(12:Int)< l.length:=by simpa using hgt
  exact hno m2 m.n .refl (Nat.le_refl _) fun hf=>by have:=hf.len;rw[dZ]at this;omega
 have hle:¬(12:Int)< l.length:=by simpa using hle
 rw[aa,ldF m2 .refl,aa,(h.sl.aD hx2).len eP,au]
 refine Lp.intro (γ:=Nat) (fun i=>l.length-i) (fun i vs mm lo=>vs=[.int .i64 i]/\i<=l.length/\Ext m2 mm/\m.n<=lo/\(∀j x,j < i->l[j]?=some x->gX x.u=true)/\(∀j a b,j+1 < i->l[j]?=some a->l[j+1]?=some b->a.u.id < b.u.id)) 0
  ⟨rfl,Nat.zero_le _,.refl,Nat.le_refl _,fun j x hj=>by omega,fun j a b hj=>by omega⟩ ?_
 rintro i vs mm lo ⟨rfl,hi,hx,hlo,hval,hasc⟩
 rw[aA,aM,aa,aj]
 have hnm:=hx.n
 refine ak (fun hlt=>?_) (fun hge=>?_)
 ·have hlt:i < l.length:=by simpa using hlt
  obtain⟨x,hxi⟩:∃a,l[i]?=some a:=⟨_,List.getElem?_eq_getElem hlt⟩
  have hxm:=List.mem_of_getElem? hxi
  have hslm:=h.sl.aD (hx2.trans hx)
  obtain⟨q,e1,e2,ow⟩:=hslm.iQ (k:=.i64) hxi
  rw[e1,aa,e2,aa]
  refine ar fun m22 hn22 hg22 hk22=>?_
  refine av eH hg22 rfl rfl (Un.eE ow) fun m23 hn23 hg23 hk23=>?_
  have hx23:Ext mm m23:=⟨by omega,fun b hb=>by rw[hk23 b (by omega),hk22 b hb]⟩
  have g23:m23.get mm.n=.cells (x.u.c x.w) 87 none:=hg23
  have hmx:=(hx2.trans hx).trans hx23
  refine cq (fun vs m' lo=>∃bad,vs=[.bool bad]/\m23=m'/\m.n<=lo/\(bad=true->¬cS (cd l))/\(bad=false->gX x.u=true/\∀a,0 < i->l[i-1]?=some a->a.u.id < x.u.id)) (fun R hR=>?_) ?_
  ·rw[bP g23,aa]
   refine aC (ja hX ((h.sh x hxm).aD hmx) (by have:=h.ln x hxm;omega)) ?_
   rw[bD,aa,aj]
   refine ak (fun hb=>?_) (fun hb=>?_)
   ·exact hR _ _ _ ⟨true,rfl,rfl,by omega,fun _=>FM hxm (by simpa using hb),fun h=>by cases h⟩
   have hb:gX x.u=true:=by simpa using hb
   rw[cQ,aa,aj]
   refine ak (fun hp=>?_) (fun hp=>?_)
   ·have hp:0 < i:=by simpa using hp
    obtain⟨a,ha⟩:∃a,l[i-1]?=some a:=⟨_,List.getElem?_eq_getElem (by omega)⟩
    obtain⟨l0, -⟩:=iD g23
    obtain⟨q,q0,f1,f2,f3⟩:=BR (h.sl.aD hmx) ha
    rw[bt,aa,l0,aa,aa,ldF m23 (hx.trans hx23),aa,dc,aa,wrap64 (by omega) (by omega),show((i:Int)-1)=((i-1:Nat):Int) by omega,f1,aa,f2,aa,f3,aa,dk,aa]
    refine hR _ _ _ ⟨_,rfl,rfl,by omega,fun hh=>?_,fun hh=>⟨hb,fun a' _ ha'=>?_⟩⟩
    ·have hh:x.u.id<=a.u.id:=by simpa using hh
     exact JK ha (by rw[Nat.sub_add_cancel hp];exact hxi) hh
    ·rw[ha]at ha';cases ha'
     have hh:¬x.u.id<=a.u.id:=by simpa using hh
     omega
   ·have hp:¬0 < i:=by simpa using hp
    exact hR _ _ _ ⟨false,rfl,rfl,by omega,fun h=>(by cases h),fun _=>⟨hb,fun a h=>absurd h hp⟩⟩
  rintro _ _ lo' ⟨bad,rfl,rfl,hlo',hbad,hgood⟩
  rw[aA,aj]
  refine ak (fun hb=>?_) (fun hb=>?_)
  ·exact hno m23 lo' (hx.trans hx23) hlo' (hbad hb)
  ·obtain⟨h1,h2⟩:=hgood hb
   rw[aG,aa,wrap64 (by omega) (by omega)]
   refine⟨i+1,by omega,rfl,by omega,hx.trans hx23,hlo',fun j y hj hy=>?_,fun j a b hj ha hb'=>?_⟩
   ·by_cases e:j=i
    ·subst e;rw[hxi]at hy;cases hy;exact h1
    ·exact hval j y (by omega) hy
   ·by_cases e:j+1=i
    ·subst e;rw[hxi]at hb';cases hb';exact h2 a (by omega) (by simpa using ha)
    ·exact hasc j a b (by omega) ha hb'
 have hi':i=l.length:=by
  have:¬(i:Int)< (l.length:Int):=by simpa using hge
  omega
 subst hi'
 have g1m:=hx.cells g1
 rw[eo,aH g1m (by simp)]
 show ah (some (Value.agg #[v])) _
 rw[aa]
 obtain⟨m52,hc52,hx52,hn52,hg52⟩:=yR (m:=mm) hX h.sl.cells
 refine aC hc52 ?_
 rw[bO]
 have hxm52:=(hx2.trans hx).trans hx52
 have gr:m52.get m1.n=.cells [.bool false] 4 none:=hx52.cells (hx.cells hg2)
 refine⟨_,eG l,_,fun k m'=>m52.n<=m'.n/\(∀c,c < m52.n->m'.get c=m52.get c)/\∀k' p,k' < k->(dM l)[k']?=some p->iP p.1.u p.2.u=false,
  fun e m'=>e=.ret/\m'.get m1.n=.cells [.bool false] 4 none/\¬cS (cd l),m.n,⟨_,rfl⟩,vd hX (v:=v) (b:=mm.n) hlen,by omega,?_,?_,?_,⟨Nat.le_refl _,fun _ _=>rfl,fun k' p hk=>by omega⟩,?_,?_,?_⟩
 ·rintro k m' ⟨h1,h2,h3⟩
  have he:Ext m52 m':=⟨h1,h2⟩
  exact⟨by rw[h2 _ (by omega),hg52],(h.aD hxm52).aD he⟩
 ·rintro k m' m'' ⟨h1,h2,h3⟩ hk
  exact⟨by have:=hk.n;omega,fun c hc=>by rw[hk.get c (by omega) (by omega),h2 c hc],h3⟩
 ·rintro e m' m'' ⟨h1,h2,h3⟩ hk
  have:=M.aI h2
  exact⟨h1,by rw[hk.get _ this (by omega),h2],h3⟩
 ·rintro k args m55 hn55 hxk ⟨h1,h2,h3⟩
  obtain⟨⟨a,b⟩,hp,rfl⟩:=yS hxk
  obtain⟨ha,hb,i',j',hij,hai,hbj⟩:=nL (List.mem_of_getElem? hp)
  have he55:Ext m52 m55:=⟨h1,h2⟩
  have hF:=(h.aD hxm52).aD he55
  have oa:one a.w=true:=(hF.sh a ha).one
  have ob:one b.w=true:=(hF.sh b hb).one
  rw[aA,aA]
  show vM [] _
  unfold vM
  refine ar fun m61 hn61 hg61 hk61=>?_
  refine av eH hg61 rfl rfl (Un.eE oa) fun m62 hn62 hg62 hk62=>?_
  refine ar fun m64 hn64 hg64 hk64=>?_
  refine av eH hg64 rfl rfl (Un.eE ob) fun m65 hn65 hg65 hk65=>?_
  have eO:∀c,c < m55.n->m65.get c=m55.get c:=fun c hc=>by rw[hk65 c (by omega),hk64 c (by omega),hk62 c (by omega),hk61 c hc]
  refine⟨fun c _ hc=>eO c hc,fun m67 hn67 hk67=>?_⟩
  dsimp only
  have r1:m67.get m55.n=.cells (a.u.c a.w) 87 none:=by rw[hk67 _ (by omega),hk65 _ (by omega),hk64 _ (by omega),hg62];rfl
  have r2:m67.get m62.n=.cells (b.u.c b.w) 87 none:=by rw[hk67 _ (by omega),hg65];rfl
  have o67:∀c,c < m52.n->m67.get c=m52.get c:=fun c hc=>by rw[hk67 c (by omega),eO c (by omega),h2 c hc]
  have he67:Ext m52 m67:=⟨by omega,o67⟩
  have hF67:=(h.aD hxm52).aD he67
  rw[bP r1,aa,bP r2,aa]
  refine aC (xP hX (hF67.sh a ha) (hF67.sh b hb) (by have:=h.ln a ha;omega) (by have:=h.ln b hb;omega)) ?_
  rw[aj]
  refine ak (fun ho=>?_) (fun ho=>?_)
  ·refine av DP (he67.cells gr) rfl rfl rfl fun m73 hn73 hg73 hk73=>?_
   exact⟨by omega,fun c h1c h2c _=>hk73 c (by omega),rfl,hg73,Ab hij hai hbj ho⟩
  ·refine⟨by omega,fun c _ _ _=>rfl,by omega,o67,fun k' p hk' hp'=>?_⟩
   by_cases e:k'=k
   ·subst e;rw[hp]at hp';cases hp';exact ho
   ·exact h3 k' p (by omega) hp'
 ·rintro m' eZ ⟨h1,h2,h3⟩ hlo2
  have gr':m'.get m1.n=.cells [.bool false] 4 none:=by rw[h2 _ (by omega)];exact gr
  refine av DP gr' rfl rfl rfl fun m77 hn77 hg77 hk77=>?_
  rw[sZ,az hg77]
  show ah (some (Value.bool true)) _
  rw[aa]
  refine⟨?_,by omega⟩
  rw[jk]
  ·rfl
  refine⟨by rw[dZ];omega,fun u hu=>?_,fun i a b ha hb=>?_,fun i k a b hik ha hb=>?_⟩
  ·obtain⟨x,hx,rfl⟩:=Am hu
   obtain⟨j,hj⟩:=List.getElem?_of_mem hx
   exact hval j x (List.getElem?_eq_some_iff.1 hj).1 hj
  ·obtain⟨x,hx,rfl⟩:=lF ha
   obtain⟨y,hy,rfl⟩:=lF hb
   exact hasc i x y (List.getElem?_eq_some_iff.1 hy).1 hx hy
  ·obtain⟨x,hx,rfl⟩:=lF ha
   obtain⟨y,hy,rfl⟩:=lF hb
   have:=Ei i k x y hik hx hy
   obtain⟨k',hk'⟩:=List.getElem?_of_mem this
   have hkl:=(List.getElem?_eq_some_iff.1 hk').1
   exact h3 k' (x,y) (by rw[mF,List.length_map];exact hkl) hk'
 ·rintro e m' eZ hne ⟨rfl,h2,h3⟩ hlo2
  refine⟨_,List.mem_singleton.2 rfl,rfl,?_⟩
  dsimp only
  rw[sZ,az h2]
  show ah (some (Value.bool false)) _
  rw[aa,lh h3]
  exact⟨rfl,by omega⟩
set_option maxRecDepth 100000 in
theorem sB(hX:dF X){l:List UW}{v:Value}(h:eF m l v)(hlen:l.length < 1000000):C X (.func 61) [.agg #[v]] m m.n (.bool (gP (cd l))) m:=by
 refine Cl.flat (hX.no _ rfl) Qn rfl rfl ?_
 rw[F61];dsimp only[aN]
 refine ar fun m1 hn1 hg1 hk1=>?_
 have hx1:Ext m m1:=⟨by omega,hk1⟩
 have g1:m1.get m.n=.cells [v] 31 none:=hg1
 have ldF:ag TE m1 29 (.pointer (some ⟨m.n,0+0,none⟩))=some v:=by rw[fD,az g1];rfl
 have h1:=h.aD hx1
 unfold ptrTo
 rw[bR,aa,ldF,aa,h1.sl.len eP,au,cQ,aa,aj]
 refine ak (fun hgt=>?_) (fun hle=>?_)
 ·have hgt:(12:Int)< l.length:=by simpa using hgt
  refine⟨?_,Nat.le_refl _⟩
  rw[lh fun hf=>by have:=hf.len;rw[dZ]at this;omega];rfl
 have hle:¬(12:Int)< l.length:=by simpa using hle
 have hno:∀(lo:Nat),m.n<=lo->¬cS (cd l)->bs [Value.bool false]=.bool (gP (cd l))/\m.n<=lo:=fun lo hlo hn=>⟨by rw[lh hn];rfl,hlo⟩
 refine Lp.intro (γ:=Nat) (fun i=>l.length-i) (fun i vs mm lo=>vs=[.bool false,.int .i64 i]/\i<=l.length/\m1=mm/\m.n<=lo/\(∀j x,j < i->l[j]?=some x->gX x.u=true)/\(∀j a b,j+1 < i->l[j]?=some a->l[j+1]?=some b->a.u.id < b.u.id)/\(∀j k a b,k < i->j < k->l[j]?=some a->l[k]?=some b->iP a.u b.u=false)) 0
  ⟨rfl,Nat.zero_le _,rfl,Nat.le_refl _,fun j x hj=>by omega,fun j a b hj=>by omega,fun j k a b hk=>by omega⟩ ?_
 rintro i vs mm lo ⟨rfl,hi,rfl,hlo,hval,hasc,hap⟩
 rw[aA,aA,aa,ldF,aa,h1.sl.len eP,au,aM,aa,aj]
 refine ak (fun hlt=>?_) (fun hge=>?_)
 ·have hlt:i < l.length:=by simpa using hlt
  obtain⟨x,hxi⟩:∃a,l[i]?=some a:=⟨_,List.getElem?_eq_getElem hlt⟩
  have hxm:=List.mem_of_getElem? hxi
  obtain⟨q,e1,e2,ow⟩:=h1.sl.iQ (k:=.i64) hxi
  refine cq (fun vs m' lo=>∃bad,vs=[.bool bad]/\m1=m'/\m.n<=lo/\(bad=true->¬cS (cd l))/\(bad=false->gX x.u=true/\∀a,0 < i->l[i-1]?=some a->a.u.id < x.u.id)) (fun R hR=>?_) ?_
  ·rw[aa,ldF,aa,e1,aa,e2,aa]
   refine aC (nH hX (u:=x.u) (w:=x.w) (h1.sh x hxm) (by have:=h.ln x hxm;omega)) ?_
   rw[bD,aa,aj]
   refine ak (fun hb=>?_) (fun hb=>?_)
   ·exact hR _ _ _ ⟨true,rfl,rfl,by omega,fun _=>FM hxm (by simpa using hb),fun h=>by cases h⟩
   have hb:gX x.u=true:=by simpa using hb
   rw[cQ,aa,aj]
   refine ak (fun hp=>?_) (fun hp=>?_)
   ·have hp:0 < i:=by simpa using hp
    obtain⟨a,ha⟩:∃a,l[i-1]?=some a:=⟨_,List.getElem?_eq_getElem (by omega)⟩
    obtain⟨q,q0,f1,f2,f3⟩:=BR h1.sl ha
    obtain⟨q',q0',f1',f2',f3'⟩:=BR h1.sl hxi
    rw[aa,ldF,aa,f1',aa,f2',aa,f3',aa,aa,ldF,aa,dc,aa,wrap64 (by omega) (by omega),show((i:Int)-1)=((i-1:Nat):Int) by omega,f1,aa,f2,aa,f3,aa,dk,aa]
    refine hR _ _ _ ⟨_,rfl,rfl,by omega,fun hh=>?_,fun hh=>⟨hb,fun a' _ ha'=>?_⟩⟩
    ·have hh:x.u.id<=a.u.id:=by simpa using hh
     exact JK ha (by rw[Nat.sub_add_cancel hp];exact hxi) hh
    ·rw[ha]at ha';cases ha'
     have hh:¬x.u.id<=a.u.id:=by simpa using hh
     omega
   ·have hp:¬0 < i:=by simpa using hp
    exact hR _ _ _ ⟨false,rfl,rfl,by omega,fun h=>(by cases h),fun _=>⟨hb,fun a h=>absurd h hp⟩⟩
  rintro _ _ lo' ⟨bad,rfl,rfl,hlo',hbad,hgood⟩
  rw[aA,aj]
  refine ak (fun hb=>hno lo' hlo' (hbad hb)) (fun hb=>?_)
  obtain⟨h1',h2'⟩:=hgood hb
  refine Lp.intro (γ:=Nat) (fun k=>i-k) (fun k vs mm lo=>vs=[.bool false,.int .i64 k]/\k<=i/\m1=mm/\m.n<=lo/\∀j a,j < k->l[j]?=some a->iP a.u x.u=false) 0 ⟨rfl,Nat.zero_le _,rfl,hlo',fun j a hj=>by omega⟩ ?_
  rintro k vs mm eZ ⟨rfl,hk,rfl,hlo2,hov⟩
  rw[aA,aA,aM,aa,aj]
  refine ak (fun hlt2=>?_) (fun hge2=>?_)
  ·have hlt2:k < i:=by simpa using hlt2
   obtain⟨y,hyk⟩:∃a,l[k]?=some a:=⟨_,List.getElem?_eq_getElem (by omega)⟩
   have hym:=List.mem_of_getElem? hyk
   obtain⟨q',e1',e2',_⟩:=h1.sl.iQ (k:=.i64) hyk
   rw[aa,ldF,aa,e1,aa,e2,aa,aa,ldF,aa,e1',aa,e2',aa]
   refine aC (vU hX (a:=x.u) (va:=x.w) (b:=y.u) (vb:=y.w) (h1.sh x hxm) (h1.sh y hym) (by have:=h.ln x hxm;omega) (by have:=h.ln y hym;omega)) ?_
   rw[aj]
   refine ak (fun ho=>?_) (fun ho=>?_)
   ·exact hno _ (by omega) (Ab hlt2 hyk hxi (by rw[sN];exact ho))
   ·rw[aG,aa,wrap64 (by omega) (by omega)]
    refine⟨k+1,by omega,rfl,by omega,rfl,by omega,fun j a hj ha=>?_⟩
    by_cases e:j=k
    ·subst e;rw[hyk]at ha;cases ha;rw[sN];exact ho
    ·exact hov j a (by omega) ha
  ·have hk':k=i:=by
    have:¬(k:Int)< (i:Int):=by simpa using hge2
    omega
   subst hk'
   rw[aG,aa,wrap64 (by omega) (by omega)]
   refine⟨k+1,by omega,rfl,by omega,rfl,hlo2,fun j y hj hy=>?_,fun j a b hj ha hb'=>?_,fun j k' a b hk' hj ha hb'=>?_⟩
   ·by_cases e:j=k
    ·subst e;rw[hxi]at hy;cases hy;exact h1'
    ·exact hval j y (by omega) hy
   ·by_cases e:j+1=k
    ·subst e;rw[hxi]at hb';cases hb';exact h2' a (by omega) (by simpa using ha)
    ·exact hasc j a b (by omega) ha hb'
   ·by_cases e:k'=k
    ·subst e;rw[hxi]at hb';cases hb';exact hov j a hj ha
    ·exact hap j k' a b (by omega) hj ha hb'
 ·have hi':i=l.length:=by
   have:¬(i:Int)< (l.length:Int):=by simpa using hge
   omega
  subst hi'
  refine⟨?_,hlo⟩
  rw[jk]
  ·rfl
  refine⟨by rw[dZ];omega,fun u hu=>?_,fun i a b ha hb=>?_,fun i k a b hik ha hb=>?_⟩
  ·obtain⟨x,hx,rfl⟩:=Am hu
   obtain⟨j,hj⟩:=List.getElem?_of_mem hx
   exact hval j x (List.getElem?_eq_some_iff.1 hj).1 hj
  ·obtain⟨x,hx,rfl⟩:=lF ha
   obtain⟨y,hy,rfl⟩:=lF hb
   exact hasc i x y (List.getElem?_eq_some_iff.1 hy).1 hx hy
  ·obtain⟨x,hx,rfl⟩:=lF ha
   obtain⟨y,hy,rfl⟩:=lF hb
   exact hap i k x y (List.getElem?_eq_some_iff.1 hy).1 hik hx hy
end Go.Proofs.YtmdfgncoekfgdaaGreatDoor
namespace Go.Proofs.YtmdfgncoekfgdaaGreatDoor
open Go Go.D
variable {X:aF} {m:M}
theorem nz(x:Int):nb (IntKind.i64.wrap x):=by
 have h:=BN x
 unfold wr at h
 unfold nb
 rw[h]
 split <;>omega
theorem dz(hX:dF X){c n:Int}(hc:nb c)(hn:0 < n):C X (.func 54) [.int .i64 c,.int .i64 n] m m.n (.int .i64 (dR c n)) m:=by
 refine Cl.flat (hX.no _ rfl) Qr rfl rfl ?_
 rw[F54];dsimp only[aN]
 exact qi hc hn (P:=fun v=>bs [v]=.int .i64 (dR c n)/\m.n<=m.n) ⟨rfl,Nat.le_refl _⟩
theorem Fm(hX:dF X){u:Un}{w:Value}(hw:Sl m u.shape w)(hl:u.shape.length < 1000000):
  ∃w' m',C X (.func 57) [u.v w] m m.n (u.v w') m'/\Ext m m'/\Sl m' u.shape w':=by
 have key:∃r m' b,C X (.func 57) [u.v w] m b r m'/\b=m.n/\∃w',r=u.v w'/\Ext m m'/\Sl m' u.shape w':=by
  refine Cl.heap (R:=fun r m' b=>b=m.n/\∃w',r=u.v w'/\Ext m m'/\Sl m' u.shape w') (hX.no _ rfl) Qq rfl ?_
  rw[F57];dsimp only[aN]
  refine ar fun m1 hn1 hg1 hk1=>?_
  refine ar fun m2 hn2 hg2 hk2=>?_
  simp only[aL]at hg1
  have hx2:Ext m m2:=⟨by omega,fun c hc=>by rw[hk2 c (by omega),hk1 c hc]⟩
  have g1:m2.get m.n=.cells (u.c w) 87 none:=by rw[hk2 _ (by omega)];exact hg1
  unfold ptrTo
  rw[mh,au]
  have hx4:Ext m2 (m2.push (.cells [] 98 none)):=Ext.refl.push
  generalize hm4:m2.push (.cells [] 98 none)=m4 at*
  have hg4:m4.get m2.n=.cells [] 98 none:=by rw[<-hm4];exact M.aV
  have hn4:m4.n=m2.n+1:=by rw[<-hm4];rfl
  have g14:=hx4.cells g1
  obtain⟨-, -, -,l3, -, -⟩:=iD g14
  rw[bd,aa,l3,aa]
  obtain⟨v7,m8,ha,hs8,hx8,hl8,hfl⟩:∃v' m1,aq TE (m4.wl m4.n) .append [45,45] [.slice (some ⟨m2.n,0,none⟩) 0 0,w]=some (v',m1)/\Sl m1 u.shape v'/\Ext m4 m1/\m1.low=m4.n/\∃a n c,v'=.slice (some a) n c:=by
   have hw4:=(hw.aD hx2).aD hx4
   by_cases he:u.shape=[]
   ·rw[he]at hw4⊢
    obtain⟨a,c,rfl⟩:=hw4.form
    refine⟨.slice (some ⟨m2.n,0,none⟩) 0 0,m4.wl m4.n,?_,.inr ⟨m2.n,0,0,[],none,rfl,hg4,by simp,fun i x hi=>by simp at hi⟩,⟨Nat.le_refl _,fun _ _=>rfl⟩,rfl,_,_,_,rfl⟩
    cases a with
    |none=>kernel_rfl
    |some a=>kernel_rfl
   ·obtain⟨v',m1,h1,h2,h3,h4⟩:=re JM hg4 hw4 he (by omega)
    obtain⟨a,c,hv⟩:=h2.sl.form
    refine⟨v',m1,h1,h2.sl,h3,h4,?_⟩
    rcases h2 with⟨_,h⟩ |⟨b,cs,rfl,_⟩
    ·exact absurd h he
    ·exact⟨_,_,_,rfl⟩
  rw[ha,au,aa]
  have n8:=hx8.n
  have g18:=hx8.cells g14
  have o7:one v7=true:=hs8.one
  refine dS BU g18 (by rw[hs8.cells];rfl) (by rw[hs8.cells];simp) (by rw[hs8.cells];simp[o7]) fun m10 hn10 hg10 hk10=>?_
  have hg10:m10.get m.n=.cells (u.c v7) 87 none:=by rw[hg10,hs8.cells];rfl
  rw[bP hg10,aa]
  have g210:m10.get m1.n=.cells Un.zc 87 none:=by rw[hk10 _ (by omega),hx8.get _ (by omega),hx4.get _ (by omega),hg2]
  refine av eH g210 rfl rfl (Un.eE o7) fun m13 hn13 hg13 hk13=>?_
  have hg13:m13.get m1.n=.cells (u.c v7) 87 none:=hg13
  rw[bP hg13,aa]
  obtain⟨a,n,c,rfl⟩:=hfl
  refine⟨.inl ?_,by omega,_,rfl,⟨by omega,fun b hb=>by rw[hk13 b (by omega),hk10 b (by omega),hx8.get b (by omega),hx4.get b (by omega),hx2.get b hb]⟩,?_⟩
  ·show bY (u.v (.slice (some a) n c))=false
   simp[bY,gg,bL]
  ·refine hs8.bw fun b cs t g hb ht=>?_
   have hne1:b≠m.n:=by
    rintro rfl
    rw[g18]at hb;cases hb
    revert ht
    decide
   have hne2:b≠m1.n:=by
    rintro rfl
    rw[hx8.get _ (by omega),hx4.get _ (by omega),hg2]at hb;cases hb
    revert ht
    decide
   rw[hk13 b hne2,hk10 b hne1,hb]
 obtain⟨r,m',b,hc,rfl,w',rfl,h1,h2⟩:=key
 exact⟨w',m',hc,h1,h2⟩
theorem Ng{b o:Nat}{k:IntKind}{i:Nat}(hi:i < 6):ai TE 85 (.pointer (some ⟨b,o,none⟩)) (.int k i)=some (.pointer (some ⟨b,o+i,none⟩)):=by
 rcases(show i=0\/i=1\/i=2\/i=3\/i=4\/i=5 by omega)with rfl |rfl |rfl |rfl |rfl |rfl <;>kernel_rfl
set_option maxRecDepth 100000 in
theorem Bx(hX:dF X){R:List Value->M->Nat->Prop}{b6 rc lo0:Nat}{mm:M}{w:Value}{shp:List Pl}{n i0 i1 i2 i3 i4 i5:Int}(hb:mm.get b6=.cells [.int .i64 i0,.int .i64 i1,.int .i64 i2,.int .i64 i3,.int .i64 i4,.int .i64 i5] 85 none)
  (hr:mm.get rc=.cells Un.zc 87 none) (hw:Sl mm shp w) (hn:nb n) (h5:nb i5)
  (hR:∀(u:Un) (m':M) (lo:Nat),u.shape=shp->mm.n=m'.n->m'.get rc=.cells (u.c w) 87 none->(∀c,c≠rc->m'.get c=mm.get c)->min lo0 (min rc mm.n)<=lo->R [u.v w] m' lo):
  (ah (ai TE 85 (.pointer (some ⟨b6,0,none⟩)) (.int .i64 5)) fun v323=>(ah (ag TE mm 3 v323) fun v324=>(bB TE X (.func 54) [v324,(.int .i64 4)] mm fun v325 m326 b327=>(ah (an TE .eql 3 v325 (.int .i64 3)) fun v328=>(aX v328
(ah (ai TE 85 (.pointer (some ⟨b6,0,none⟩)) (.int .i64 5)) fun v329=>(ah (ag TE m326 3 v329) fun v330=>(ah (an TE .quo 3 v330 (.int .i64 4)) fun v331=>(bB TE X (.func 54) [v331,(.int .i64 4)] m326 fun v332 m333 b334=>(ah (an TE .add 3 v332 (.int .i64 1)) fun v335=>(ah (ai TE 85 (.pointer (some ⟨b6,0,none⟩)) (.int .i64 5)) fun v336=>(ah (ag TE m333 3 v336) fun v337=>(ah (an TE .quo 3 v337 (.int .i64 16)) fun v338=>(bB TE X (.func 54) [v338,(.int .i64 4)] m333 fun v339 m340 b341=>(ah (an TE .add 3 v335 v339) fun v342=>(bB TE X (.func 54) [(.int .i64 n),(.int .i64 100)] m340 fun v343 m344 b345=>((M.n m340<=b345)/\(ah (ai TE 85 (.pointer (some ⟨b6,0,none⟩)) (.int .i64 5)) fun v346=>(ah (ag TE m344 3 v346) fun v347=>(ah (an TE .quo 3 v347 (.int .i64 64)) fun v348=>(bB TE X (.func 54) [v348,(.int .i64 8)] m344 fun v349 m350 b351=>((M.n m344<=b351)/\(ah (an TE .add 3 (.int .i64 1) v349) fun v352=>(ah (ai TE 85 (.pointer (some ⟨b6,0,none⟩)) (.int .i64 5)) fun v353=>(ah (ag TE m350 3 v353) fun v354=>(ah (an TE .quo 3 v354 (.int .i64 512)) fun v355=>(bB TE X (.func 54) [v355,(.int .i64 8)] m350 fun v356 m357 b358=>(ah (aW TE 87 [(0,v343),(1,v352),(2,v356),(3,w),(4,v332),(5,v342)]) fun v359=>(aO (aB TE m357 87 (.pointer (some ⟨rc,0,none⟩)) v359) fun m360 b361=>(ah (ag TE m360 87 (.pointer (some ⟨rc,0,none⟩))) fun v362=>(R [v362] m360 (min (min (min (min (min (min (min lo0 b327) b334) b341) b345) b351) b358) b361)))))))))))))))))))))))))))
(bB TE X (.func 54) [(.int .i64 n),(.int .i64 100)] m326 fun v363 m364 b365=>((M.n m326<=b365)/\(ah (ai TE 85 (.pointer (some ⟨b6,0,none⟩)) (.int .i64 5)) fun v366=>(ah (ag TE m364 3 v366) fun v367=>(ah (an TE .quo 3 v367 (.int .i64 64)) fun v368=>(bB TE X (.func 54) [v368,(.int .i64 8)] m364 fun v369 m370 b371=>((M.n m364<=b371)/\(ah (an TE .add 3 (.int .i64 1) v369) fun v372=>(ah (ai TE 85 (.pointer (some ⟨b6,0,none⟩)) (.int .i64 5)) fun v373=>(ah (ag TE m370 3 v373) fun v374=>(ah (an TE .quo 3 v374 (.int .i64 512)) fun v375=>(bB TE X (.func 54) [v375,(.int .i64 8)] m370 fun v376 m377 b378=>(ah (aW TE 87 [(0,v363),(1,v372),(2,v376),(3,w),(4,(.int .i64 0)),(5,(.int .i64 4))]) fun v379=>(aO (aB TE m377 87 (.pointer (some ⟨rc,0,none⟩)) v379) fun m380 b381=>(ah (ag TE m380 87 (.pointer (some ⟨rc,0,none⟩))) fun v382=>(R [v382] m380 (min (min (min (min (min lo0 b327) b365) b371) b378) b381)))))))))))))))))))))):=by
 have e5:ai TE 85 (.pointer (some ⟨b6,0,none⟩)) (.int .i64 5)=some (.pointer (some ⟨b6,5,none⟩)):=Ng (i:=5) (by decide)
 have l5:ag TE mm 3 (.pointer (some ⟨b6,5,none⟩))=some (.int .i64 i5):=by rw[bA,az hb];rfl
 have ow:one w=true:=hw.one
 have bld:∀a b c d e:Int,aW TE 87 [(0,.int .i64 a),(1,.int .i64 b),(2,.int .i64 c),(3,w),(4,.int .i64 d),(5,.int .i64 e)]=some (Un.v ⟨a,b,c,shp,d,e⟩ w):=fun a b c d e=>by
  have:=mg (x0:=.int .i64 a) (x1:=.int .i64 b) (x2:=.int .i64 c) (x3:=w) (x4:=.int .i64 d) (x5:=.int .i64 e) rfl rfl rfl (by rw[hw.cells];rfl) rfl rfl
  rw[this,hw.cells];rfl
 have fin:∀(u:Un) (lo:Nat),u.shape=shp->min lo0 mm.n<=lo->aO (aB TE mm 87 (.pointer (some ⟨rc,0,none⟩)) (u.v w)) fun m' b=>ah (ag TE m' 87 (.pointer (some ⟨rc,0,none⟩))) fun v=>R [v] m' (min lo b):=fun u lo hu hlo=>by
  refine av eH hr rfl rfl (Un.eE ow) fun m' hn' hg' hk'=>?_
  have hg':m'.get rc=.cells (u.c w) 87 none:=hg'
  rw[bP hg',aa]
  exact hR u m' _ hu hn'.symm hg' hk' (by omega)
 rw[e5,aa,l5,aa]
 refine aC (dz hX h5 (by decide)) ?_
 rw[bI,aa,aj]
 refine ak (fun _=>?_) (fun _=>?_)
 ·rw[aa,l5,aa,na (by decide),aa]
  refine aC (dz hX (nz _) (by decide)) ?_
  rw[aG,aa,aa,l5,aa,na (by decide),aa]
  refine aC (dz hX (nz _) (by decide)) ?_
  rw[aG,aa]
  refine aC (dz hX hn (by decide)) ⟨Nat.le_refl _,?_⟩
  rw[aa,l5,aa,na (by decide),aa]
  refine aC (dz hX (nz _) (by decide)) ⟨Nat.le_refl _,?_⟩
  rw[aG,aa,aa,l5,aa,na (by decide),aa]
  refine aC (dz hX (nz _) (by decide)) ?_
  rw[bld,aa]
  exact fin _ _ rfl (by omega)
 ·refine aC (dz hX hn (by decide)) ⟨Nat.le_refl _,?_⟩
  rw[aa,l5,aa,na (by decide),aa]
  refine aC (dz hX (nz _) (by decide)) ⟨Nat.le_refl _,?_⟩
  rw[aG,aa,aa,l5,aa,na (by decide),aa]
  refine aC (dz hX (nz _) (by decide)) ?_
  rw[bld,aa]
  exact fin _ _ rfl (by omega)
end Go.Proofs.YtmdfgncoekfgdaaGreatDoor
