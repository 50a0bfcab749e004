/- fabric.pairs, fabric.Valid; putlogref12.Valid. -/
import Derived.Test.YtmdfgncoekfgdaaGreatDoorG6J
import Derived.Test.YtmdfgncoekfgdaaGreatDoorG2J
import Derived.Test.YtmdfgncoekfgdaaGreatDoorBtJ
import Derived.Test.YtmdfgncoekfgdaaGreatDoorG4J
import Derived.Shelf.Strings.BuilderK
import Derived.Shelf.Strings.OnBuilder
import Derived.Shelf.Strings.Search3
import Derived.Shelf.Strings.Count
import Derived.Shelf.Strings.SplitCore
import Derived.Test.YtmdfgncoekfgdaaGreatDoorChecked
import Derived.Test.YtmdfgncoekfgdaaGreatDoorG1J
import Derived.Lib.Join
import Derived.Lib.UnsafeStr
import Derived.Lib.Bytealg
import Derived.Lib.Split
import Derived.Lib.SplitLaws
import Derived.Lib.CountLaws
import Derived.Lib.IndexBytes
import Derived.Lib.IndexLaws
import Derived.Lib.Strings
namespace Go.Proofs.YtmdfgncoekfgdaaGreatDoor
open Go Go.D
variable {X:aF} {m:M}
structure cB(us:List Un):Prop where
 len:us.length<=12
 val:∀u∈us,nV u=true
 QN:∀(i:Nat) (a b:Un),us[i]?=some a->us[i+1]?=some b->a.id < b.id
 apart:∀(i k:Nat) (a b:Un),i < k->us[i]?=some a->us[k]?=some b->iG a b=false
open Classical in
noncomputable def gM(us:List Un):Bool:=decide (cB us)
open Classical in
theorem fM{us:List Un}(h:cB us):gM us=true:=by unfold gM;exact decide_eq_true h
open Classical in
theorem jz{us:List Un}(h:¬cB us):gM us=false:=by unfold gM;exact decide_eq_false h
open Classical in
theorem kp{us:List Un}:gM us=true↔cB us:=by unfold gM;exact decide_eq_true_iff
theorem En(a b:Un):lW a b=lW b a:=by
 unfold lW
 rw[Bool.and_comm (nV a),Int.max_comm,Int.min_comm]
theorem Ah(a b:List Pl):hZ a b=hZ b a:=by
 unfold hZ
 cases aY a <;>cases aY b <;>cases decide (cY a b < 0)<;>cases decide (cY b a < 0)<;>rfl
theorem rS(a b:Un):iG a b=iG b a:=by unfold iG;rw[En,Ah]
def bV(l:List UW):List Un:=l.map (·.u)
theorem tF{l:List UW}{i:Nat}{x:UW}(h:l[i]?=some x):(bV l)[i]?=some x.u:=by unfold bV;rw[List.getElem?_map,h];rfl
theorem dY{l:List UW}:(bV l).length=l.length:=by unfold bV;rw[List.length_map]
theorem lD{l:List UW}{i:Nat}{u:Un}(h:(bV l)[i]?=some u):∃x,l[i]?=some x/\x.u=u:=by
 unfold bV at h
 rw[List.getElem?_map]at h
 cases hx:l[i]? with
 |none=>rw[hx]at h;cases h
 |some x=>rw[hx]at h;cases h;exact⟨x,rfl,rfl⟩
theorem ER{l:List UW}{u:Un}(h:u∈bV l):∃x∈l,x.u=u:=by unfold bV at h;obtain⟨x,hx,rfl⟩:=List.mem_map.1 h;exact⟨x,hx,rfl⟩
structure dS(m:M)(l:List UW)(v:Value):Prop where
 sl:Sl m l v
 sh:∀x∈l,Sl m x.u.shape x.w
 ln:∀x∈l,x.u.shape.length < 1000000
 cap:l=[]\/∃b o c bc g,v=.slice (some ⟨b,o,none⟩) l.length c/\l.length<=c/\m.get b=.cells bc 87 g/\(g=none\/g=some 6)
theorem dS.aB{l:List UW}{v:Value}{m':M}(h:dS m l v)(hx:Ext m m'):dS m' l v:=
 ⟨h.sl.aB hx,fun x hx'=>(h.sh x hx').aB hx,h.ln,h.cap.imp id fun⟨b,o,c,bc,g,h1,h2,h3,h4⟩=>⟨b,o,c,bc,g,h1,h2,hx.cells h3,h4⟩⟩
theorem dS.bt{l:List UW}{v:Value}{m':M}(h:dS m l v)(hk:∀c cs t g,m.get c=.cells cs t g->(t=87\/t=98)->m'.get c=.cells cs t g):dS m' l v:=
 ⟨h.sl.bt fun b c t g hb ht=>hk b c t g hb (.inl (by simpa[aL.ty,aL.fR]using ht)),fun x hx=>(h.sh x hx).bt fun b c t g hb ht=>hk b c t g hb (.inr (by simpa[aL.ty,aL.fR]using ht)),h.ln,
  h.cap.imp id fun⟨b,o,c,bc,g,h1,h2,h3,h4⟩=>⟨b,o,c,bc,g,h1,h2,hk _ _ _ _ h3 (.inl rfl),h4⟩⟩
def fo:List UW->List (List Value)
 |[]=> []
 |a::r=>r.map (fun b=> [a.v,b.v])++fo r
theorem Af{l:List UW}{i:Nat}{a:UW}(h:l[i]?=some a):fo (l.drop i)=(l.drop (i+1)).map (fun b=> [a.v,b.v])++fo (l.drop (i+1)):=by
 have hi:=(List.getElem?_eq_some_iff.1 h).1
 rw[List.drop_eq_getElem_cons hi,(List.getElem?_eq_some_iff.1 h).2,fo]
theorem Ag{x:UW}{r:List UW}:fo (x::r)=r.map (fun b=> [x.v,b.v])++fo r:=rfl
theorem Dp(hX:cW X){l:List UW}{v:Value}{b:Nat}(hlen:l.length < 1000000):
  JX TE X (fun o=>∃cs g,o=.cells cs 87 g) (.func 189) [] [ptrTo b] (fo l) (fun m=>m.get b=.cells [v] 31 none/\dS m l v):=by
 intro y n0 B I J m hD hI hJ hy hn0 hB hyield h0
 refine Cl.gen (R:=fun v m2 b=>B<=b/\(I (fo l).length m2\/J m2)) (hX.no _ rfl) Ma rfl ?_
 rw[show([]:List Value)++ .func (.yield y) #[] #[]::[ptrTo b]=[.func (.yield y) #[] #[],ptrTo b]from rfl,Q1];dsimp only[aI]
 have ld:∀m1:M,m1.get b=.cells [v] 31 none->ag TE m1 29 (.pointer (some ⟨b,0+0,none⟩))=some v:=fun m1 h=>by rw[gX,av h];rfl
 unfold ptrTo
 rw[cx,aa,ld m (hD _ _ h0).1,aa,(hD _ _ h0).2.sl.len eo,ar]
 refine Lp.intro (γ:=Nat) (fun i=>l.length-i) (fun i vs m1 lo=>∃P,vs=[.int .i64 i]/\i<=l.length/\fo l=P++fo (l.drop i)/\I P.length m1/\n0<=m1.n/\m.n<=m1.n/\B<=lo/\((lo=m.n/\P=[])\/lo < m.n)) 0
  ⟨[],rfl,Nat.zero_le _,rfl,h0,hn0,Nat.le_refl _,by omega,.inl ⟨rfl,rfl⟩⟩ ?_
 rintro i vs m1 lo1 ⟨P,rfl,hi,hP,hI1,hn1,hmn1,hlo,hlow⟩
 rw[aA,aH,aa,aj]
 refine ak (fun hlt=>?_) (fun hge=>?_)
 ·have hlt:i < l.length:=by simpa using hlt
  obtain⟨a,ha⟩:∃a,l[i]?=some a:=⟨_,List.getElem?_eq_getElem hlt⟩
  obtain⟨q,e1,e2,ow⟩:=(hD _ _ hI1).2.sl.lv (k:=.i64) ha
  rw[e1,aa,e2,aa]
  refine au fun m13 hn13 hg13 hk13=>?_
  refine aD jl hg13 rfl rfl (Un.ky ow) fun m14 hn14 hg14 hk14=>?_
  have hx14:Ext m1 m14:=⟨by omega,fun b hb=>by rw[hk14 b (by omega),hk13 b hb]⟩
  have hI14:=hI _ _ _ hI1 hx14
  obtain⟨hb14,hs14⟩:=hD _ _ hI14
  rw[aa,ld m14 hb14,aa,aG,aa,wrap64 (by omega) (by omega),show((i:Int)+1)=((i+1:Nat):Int) by omega]
  obtain⟨a',c',hsl,hat⟩:∃a' c',slice? TE m14 29 v (some (.int .i64 ((i+1:Nat):Int))) none none=some (.slice (some a') (l.length-(i+1)) c')/\∀(mm:M),dS mm l v->∀j x,l[i+1+j]?=some x->∃q,ai TE 29 (.slice (some a') (l.length-(i+1)) c') (.int .i64 j)=some q/\ag TE mm 87 q=some x.v:=by
   rcases hs14.cap with h |⟨ab,o,c,bc,g,hv,hlc,hg,hgg⟩
   ·rw[h]at hlt;simp at hlt
   ·obtain⟨a',h1,h2⟩:=jK (E:=TE) (m:=m14) (T:=29) (ti:=af.t29) (e:=87) (b:=ab) (cs:=bc) (te:=87) (g:=g) (n:=l.length) (o:=o) (c:=c) (j:=i+1) FK rfl (by decide) hg hgg hlc hlt
    refine⟨a',c-(i+1),by rw[hv];exact h1,fun mm hmm j x hx=>?_⟩
    have hj:=(List.getElem?_eq_some_iff.1 hx).1
    have ha':=h2 (by omega)
    subst ha'
    have hsl:=hmm.sl
    rw[hv]at hsl
    have hp:=Sl.part (i:=i+1) (k:=l.length-(i+1)) (c':=c-(i+1)) hsl (by omega)
    have hj2:((l.drop (i+1)).take (l.length-(i+1)))[j]?=some x:=by
     rw[List.getElem?_take_of_lt (by omega),List.getElem?_drop];exact hx
    obtain⟨q,q1,q2,_⟩:=hp.lv (k:=.i64) hj2
    exact⟨q,q1,q2⟩
  rw[hsl,aa]
  have ln:an TE m14 .len [29] [.slice (some a') (l.length-(i+1)) c']=some (.int .i64 (l.length-(i+1):Nat),m14):=LH
  rw[ln,ar]
  have hP2:=hP
  rw[Af ha,<-List.append_assoc]at hP2
  have hat0:∀j x,l[i+1+j]?=some x->(fo l)[P.length+j]?=some [a.v,x.v]:=fun j x hx=>by
   have hj:=(List.getElem?_eq_some_iff.1 hx).1
   have hjd:(l.drop (i+1))[j]?=some x:=by rw[List.getElem?_drop];exact hx
   rw[hP2,List.append_assoc,List.getElem?_append_right (by omega),Nat.add_sub_cancel_left,List.getElem?_append_left (by rw[List.length_map,List.length_drop];omega),List.getElem?_map,hjd];rfl
  refine Lp.intro (γ:=Nat) (fun j=>l.length-j) (fun j vs m2 lo=>vs=[.int .i64 j]/\j<=l.length-(i+1)/\I (P.length+j) m2/\m1.n < m2.n/\m2.get m1.n=.cells a.c 87 none/\B<=lo/\((lo=m.n/\P=[]/\j=0)\/lo < m.n)) 0
   ⟨rfl,Nat.zero_le _,hI14,by omega,hg14,by omega,by
    rcases hlow with⟨h1,h2⟩ |h
    ·exact .inl ⟨by omega,h2,rfl⟩
    ·exact .inr (by omega)⟩ ?_
  rintro j vs m2 lo2 ⟨rfl,hj,hI2,hn2,hga,hlo2,hlow2⟩
  rw[aA,aH,aa,aj]
  refine ak (fun hlt2=>?_) (fun hge2=>?_)
  ·have hlt2:j < l.length-(i+1):=by simpa using hlt2
   obtain⟨x,hx⟩:∃x,l[i+1+j]?=some x:=⟨_,List.getElem?_eq_getElem (by omega)⟩
   obtain⟨q,q1,q2⟩:=hat m2 (hD _ _ hI2).2 j x hx
   obtain⟨_,_,_,ox⟩:=(hD _ _ hI2).2.sl.lv (k:=.i64) hx
   rw[q1,aa,q2,aa]
   refine au fun m30 hn30 hg30 hk30=>?_
   refine aD jl hg30 rfl rfl (Un.ky ox) fun m31 hn31 hg31 hk31=>?_
   have hx31:Ext m2 m31:=⟨by omega,fun b hb=>by rw[hk31 b (by omega),hk30 b hb]⟩
   rw[vD (hx31.cells hga),aa,vD (x:=x) hg31,aa,bU]
   obtain⟨v2,m4,b4,hc,hB4,hy4,hfr,hres⟩:=hyield (P.length+j) [a.v,x.v] m31 (by omega) (hat0 j x hx) (hI _ _ _ hI2 hx31)
   refine aC hc ?_
   have hn4:m31.n<=m4.n:=hc.1
   rcases hres with⟨rfl,hI4⟩ |⟨rfl,hJ4⟩
   ·rw[aX,aa,aj,Bool.not_true,aM,aG,aa,wrap64 (by omega) (by omega)]
    have hga4:m4.get m1.n=.cells a.c 87 none:=by
     have h31:=hx31.cells hga
     rw[hfr m1.n hn1 (by omega) ⟨_,_,h31⟩,h31]
    exact⟨j+1,by omega,rfl,by omega,hI4,by omega,hga4,by omega,.inr (by omega)⟩
   ·rw[aX,aa,aj,Bool.not_false,bJ]
    exact .inr ⟨.inr (by omega),by omega,.inr hJ4⟩
  ·have hj':j=l.length-(i+1):=by
    have:¬(j:Int)< ((l.length-(i+1):Nat):Int):=by simpa using hge2
    omega
   have hlenP:(P++(l.drop (i+1)).map fun b=> [a.v,b.v]).length=P.length+j:=by rw[List.length_append,List.length_map,List.length_drop];omega
   rw[aa]
   refine⟨i+1,by omega,_,rfl,by omega,hP2,by rw[hlenP];exact hI2,by omega,by omega,hlo2,?_⟩
   rcases hlow2 with⟨h1,h2,h3⟩ |h
   ·refine .inl ⟨h1,?_⟩
    rw[<-List.length_eq_zero_iff,hlenP,h2,h3];rfl
   ·exact .inr h
 ·have hi':i=l.length:=by
   have:¬(i:Int)< (l.length:Int):=by simpa using hge
   omega
  subst hi'
  have hPl:fo l=P:=by rw[hP,List.drop_of_length_le (Nat.le_refl _)];simp[fo]
  rw[hPl]
  rcases hlow with⟨h1,h2⟩ |h
  ·subst h2
   exact .inl ⟨rfl,by omega,by omega,.inl h0⟩
  ·exact .inr ⟨.inr h,by omega,.inl hI1⟩
end Go.Proofs.YtmdfgncoekfgdaaGreatDoor
namespace Go.Proofs.YtmdfgncoekfgdaaGreatDoor
open Go Go.D
variable {X:aF} {m:M}
def jY:List UW->List (UW×UW)
 |[]=> []
 |a::r=>r.map (fun b=>(a,b))++jY r
theorem pL:∀l:List UW,fo l=(jY l).map fun p=> [p.1.v,p.2.v]
 |[]=>rfl
 |a::r=>by
  rw[Ag,jY,List.map_append,List.map_map,pL r]
  rfl
theorem rR:∀{l:List UW} {p:UW×UW},p∈jY l->p.1∈l/\p.2∈l/\∃(i j:Nat),i < j/\l[i]?=some p.1/\l[j]?=some p.2
 |[],p,h=>by cases h
 |a::r,p,h=>by
  rw[jY]at h
  rcases List.mem_append.1 h with h |h
  ·obtain⟨b,hb,rfl⟩:=List.mem_map.1 h
   obtain⟨j,hj⟩:=List.getElem?_of_mem hb
   exact⟨by simp,by simp[hb],0,j+1,by omega,rfl,by simpa using hj⟩
  ·obtain⟨h1,h2,i,j,h3,h4,h5⟩:=rR h
   exact⟨by simp[h1],by simp[h2],i+1,j+1,by omega,by simpa using h4,by simpa using h5⟩
theorem Dr:∀{l:List UW} (i j:Nat) (a b:UW),i < j->l[i]?=some a->l[j]?=some b->(a,b)∈jY l:=by
 intro l
 induction l with
 |nil=>intro i j a b _ ha;simp at ha
 |cons x r ih=>
  intro i j a b hij ha hb
  rw[jY,List.mem_append]
  match i,j,hij with
  |0,j+1,_=>
   have ha:x=a:=by simpa using ha
   subst ha
   have hb:r[j]?=some b:=by simpa using hb
   exact .inl (List.mem_map.2 ⟨b,List.mem_of_getElem? hb,rfl⟩)
  |i+1,j+1,hij=>exact .inr (ih i j a b (by omega) (by simpa using ha) (by simpa using hb))
theorem Gm{l:List UW}{k:Nat}{args:List Value}(h:(fo l)[k]?=some args):∃p,(jY l)[k]?=some p/\args=[p.1.v,p.2.v]:=by
 rw[pL,List.getElem?_map]at h
 cases hp:(jY l)[k]? with
 |none=>rw[hp]at h;cases h
 |some p=>rw[hp]at h;cases h;exact⟨p,rfl,rfl⟩
theorem Gl(hX:cW X){v:Value}(hv:cells v=[v]):∃m',C X (.func 128) [.agg #[v]] m m.n (.func (.func 189) #[] #[ptrTo m.n]) m'/\Ext m m'/\m'.n=m.n+1/\m'.get m.n=.cells [v] 31 none:=by
 have key:∃r m' b,C X (.func 128) [.agg #[v]] m b r m'/\b=m.n/\r=.func (.func 189) #[] #[ptrTo m.n]/\Ext m m'/\m'.n=m.n+1/\m'.get m.n=.cells [v] 31 none:=by
  refine Cl.heap (R:=fun r m' b=>b=m.n/\r=.func (.func 189) #[] #[ptrTo m.n]/\Ext m m'/\m'.n=m.n+1/\m'.get m.n=.cells [v] 31 none) (hX.no _ rfl) MA rfl ?_
  rw[Rp];dsimp only[aI]
  refine au fun m1 hn1 hg1 hk1=>?_
  exact⟨.inl rfl,by omega,rfl,⟨by omega,hk1⟩,hn1,hg1⟩
 obtain⟨r,m',b,hc,rfl,rfl,h1,h2,h3⟩:=key
 exact⟨m',hc,h1,h2,h3⟩
theorem Bm{l:List UW}{v:Value}(h:Sl m l v){i:Nat}{x:UW}(hx:l[i]?=some x):∃a a0,ai TE 29 v (.int .i64 i)=some a/\ae TE 87 a 0=some a0/\ag TE m 3 a0=some (.int .i64 x.u.id):=by
 obtain⟨b,o,bc,g,cs,e1,hb,hr,_,hj⟩:=h.kQ eo (k:=.i64) hx
 obtain⟨rfl,_⟩:=hr
 refine⟨_,_,e1,ct,?_⟩
 rw[bu,av hb,hj 0 (by decide)];rfl
theorem Is{l:List UW}{i:Nat}{a b:UW}(ha:l[i]?=some a)(hb:l[i+1]?=some b)(h:b.u.id<=a.u.id):¬cB (bV l):=fun hf=>by
 have:=hf.QN i _ _ (tF ha) (tF hb)
 omega
theorem EP{l:List UW}{a:UW}(ha:a∈l)(h:nV a.u=false):¬cB (bV l):=fun hf=>by
 have:=hf.val a.u (List.mem_map.2 ⟨a,ha,rfl⟩)
 rw[h]at this
 cases this
theorem zq{l:List UW}{i j:Nat}{a b:UW}(hij:i < j)(ha:l[i]?=some a)(hb:l[j]?=some b)(h:iG a.u b.u=true):¬cB (bV l):=fun hf=>by
 have:=hf.apart i j _ _ hij (tF ha) (tF hb)
 rw[h]at this
 cases this
set_option maxRecDepth 100000 in
theorem je(hX:cW X){l:List UW}{v:Value}(h:dS m l v)(hlen:l.length < 1000000):C X (.func 59) [.agg #[v]] m m.n (.bool (gM (bV l))) m:=by
 refine Cl.flat (hX.no _ rfl) OH rfl rfl ?_
 rw[YP];dsimp only[aI]
 refine au fun m1 hn1 hg1 hk1=>?_
 refine au fun m2 hn2 hg2 hk2=>?_
 have hx2:Ext m m2:=⟨by omega,fun c hc=>by rw[hk2 c (by omega),hk1 c hc]⟩
 have g1:m2.get m.n=.cells [v] 31 none:=by rw[hk2 _ (by omega),hg1];rfl
 have ldF:∀mm:M,Ext m2 mm->ag TE mm 29 (.pointer (some ⟨m.n,0+0,none⟩))=some v:=fun mm hx=>by rw[gX,av (hx.cells g1)];rfl
 have hno:∀(mm:M) (lo:Nat),Ext m2 mm->m.n<=lo->¬cB (bV l)->aK (aw TE mm 4 (.pointer (some ⟨m1.n,0,none⟩)) (.bool false)) fun m7 b8=>ah (ag TE m7 4 (.pointer (some ⟨m1.n,0,none⟩))) fun v9=>aR [v9]=.bool (gM (bV l))/\m.n<=min lo b8:=by
  intro mm lo hx hlo hn
  refine aD Li (hx.cells hg2) rfl rfl rfl fun m7 hn7 hg7 hk7=>?_
  rw[vH,av hg7]
  show ah (some (Value.bool false)) _
  rw[aa,jz hn]
  exact⟨rfl,by omega⟩
 unfold ptrTo
 rw[cx,aa,ldF m2 .refl,aa,(h.sl.aB hx2).len eo,ar,bX,aa,aj]
 refine ak (fun hgt=>?_) (fun hle=>?_)
 ·have hgt:(12:Int)< l.length:=by simpa using hgt
  exact hno m2 m.n .refl (Nat.le_refl _) fun hf=>by have:=hf.len;rw[dY]at this;omega
 have hle:¬(12:Int)< l.length:=by simpa using hle
 rw[aa,ldF m2 .refl,aa,(h.sl.aB hx2).len eo,ar]
 refine Lp.intro (γ:=Nat) (fun i=>l.length-i) (fun i vs mm lo=>vs=[.int .i64 i]/\i<=l.length/\Ext m2 mm/\m.n<=lo/\(∀j x,j < i->l[j]?=some x->nV x.u=true)/\(∀j a b,j+1 < i->l[j]?=some a->l[j+1]?=some b->a.u.id < b.u.id)) 0
  ⟨rfl,Nat.zero_le _,.refl,Nat.le_refl _,fun j x hj=>by omega,fun j a b hj=>by omega⟩ ?_
 rintro i vs mm lo ⟨rfl,hi,hx,hlo,hval,hasc⟩
 rw[aA,aH,aa,aj]
 have hnm:=hx.n
 refine ak (fun hlt=>?_) (fun hge=>?_)
 ·have hlt:i < l.length:=by simpa using hlt
  obtain⟨x,hxi⟩:∃a,l[i]?=some a:=⟨_,List.getElem?_eq_getElem hlt⟩
  have hxm:=List.mem_of_getElem? hxi
  have hslm:=h.sl.aB (hx2.trans hx)
  obtain⟨q,e1,e2,ow⟩:=hslm.lv (k:=.i64) hxi
  rw[e1,aa,e2,aa]
  refine au fun m22 hn22 hg22 hk22=>?_
  refine aD jl hg22 rfl rfl (Un.ky ow) fun m23 hn23 hg23 hk23=>?_
  have hx23:Ext mm m23:=⟨by omega,fun b hb=>by rw[hk23 b (by omega),hk22 b hb]⟩
  have g23:m23.get mm.n=.cells (x.u.c x.w) 87 none:=hg23
  have hmx:=(hx2.trans hx).trans hx23
  refine bY (fun vs m' lo=>∃bad,vs=[.bool bad]/\m23=m'/\m.n<=lo/\(bad=true->¬cB (bV l))/\(bad=false->nV x.u=true/\∀a,0 < i->l[i-1]?=some a->a.u.id < x.u.id)) (fun R hR=>?_) ?_
  ·rw[cU g23,aa]
   refine aC (pr hX ((h.sh x hxm).aB hmx) (by have:=h.ln x hxm;omega)) ?_
   rw[aX,aa,aj]
   refine ak (fun hb=>?_) (fun hb=>?_)
   ·exact hR _ _ _ ⟨true,rfl,rfl,by omega,fun _=>EP hxm (by simpa using hb),fun h=>by cases h⟩
   have hb:nV x.u=true:=by simpa using hb
   rw[bX,aa,aj]
   refine ak (fun hp=>?_) (fun hp=>?_)
   ·have hp:0 < i:=by simpa using hp
    obtain⟨a,ha⟩:∃a,l[i-1]?=some a:=⟨_,List.getElem?_eq_getElem (by omega)⟩
    obtain⟨l0, -⟩:=zv g23
    obtain⟨q,q0,f1,f2,f3⟩:=Bm (h.sl.aB hmx) ha
    rw[ct,aa,l0,aa,aa,ldF m23 (hx.trans hx23),aa,cz,aa,wrap64 (by omega) (by omega),show((i:Int)-1)=((i-1:Nat):Int) by omega,f1,aa,f2,aa,f3,aa,cK,aa]
    refine hR _ _ _ ⟨_,rfl,rfl,by omega,fun hh=>?_,fun hh=>⟨hb,fun a' _ ha'=>?_⟩⟩
    ·have hh:x.u.id<=a.u.id:=by simpa using hh
     exact Is ha (by rw[Nat.sub_add_cancel hp];exact hxi) hh
    ·rw[ha]at ha';cases ha'
     have hh:¬x.u.id<=a.u.id:=by simpa using hh
     omega
   ·have hp:¬0 < i:=by simpa using hp
    exact hR _ _ _ ⟨false,rfl,rfl,by omega,fun h=>(by cases h),fun _=>⟨hb,fun a h=>absurd h hp⟩⟩
  rintro _ _ lo' ⟨bad,rfl,rfl,hlo',hbad,hgood⟩
  rw[aA,aj]
  refine ak (fun hb=>?_) (fun hb=>?_)
  ·exact hno m23 lo' (hx.trans hx23) hlo' (hbad hb)
  ·obtain⟨h1,h2⟩:=hgood hb
   rw[aG,aa,wrap64 (by omega) (by omega)]
   refine⟨i+1,by omega,rfl,by omega,hx.trans hx23,hlo',fun j y hj hy=>?_,fun j a b hj ha hb'=>?_⟩
   ·by_cases e:j=i
    ·subst e;rw[hxi]at hy;cases hy;exact h1
    ·exact hval j y (by omega) hy
   ·by_cases e:j+1=i
    ·subst e;rw[hxi]at hb';cases hb';exact h2 a (by omega) (by simpa using ha)
    ·exact hasc j a b (by omega) ha hb'
 have hi':i=l.length:=by
  have:¬(i:Int)< (l.length:Int):=by simpa using hge
  omega
 subst hi'
 have g1m:=hx.cells g1
 rw[cZ,aE g1m (by simp)]
 show ah (some (Value.agg #[v])) _
 rw[aa]
 obtain⟨m52,hc52,hx52,hn52,hg52⟩:=Gl (m:=mm) hX h.sl.cells
 refine aC hc52 ?_
 rw[bU]
 have hxm52:=(hx2.trans hx).trans hx52
 have gr:m52.get m1.n=.cells [.bool false] 4 none:=hx52.cells (hx.cells hg2)
 refine⟨_,fo l,_,fun k m'=>m52.n<=m'.n/\(∀c,c < m52.n->m'.get c=m52.get c)/\∀k' p,k' < k->(jY l)[k']?=some p->iG p.1.u p.2.u=false,
  fun e m'=>e=.ret/\m'.get m1.n=.cells [.bool false] 4 none/\¬cB (bV l),m.n,⟨_,rfl⟩,Dp hX (v:=v) (b:=mm.n) hlen,by omega,?_,?_,?_,⟨Nat.le_refl _,fun _ _=>rfl,fun k' p hk=>by omega⟩,?_,?_,?_⟩
 ·rintro k m' ⟨h1,h2,h3⟩
  have he:Ext m52 m':=⟨h1,h2⟩
  exact⟨by rw[h2 _ (by omega),hg52],(h.aB hxm52).aB he⟩
 ·rintro k m' m'' ⟨h1,h2,h3⟩ hk
  exact⟨by have:=hk.n;omega,fun c hc=>by rw[hk.get c (by omega) (by omega),h2 c hc],h3⟩
 ·rintro e m' m'' ⟨h1,h2,h3⟩ hk
  have:=M.aV h2
  exact⟨h1,by rw[hk.get _ this (by omega),h2],h3⟩
 ·rintro k args m55 hn55 hxk ⟨h1,h2,h3⟩
  obtain⟨⟨a,b⟩,hp,rfl⟩:=Gm hxk
  obtain⟨ha,hb,i',j',hij,hai,hbj⟩:=rR (List.mem_of_getElem? hp)
  have he55:Ext m52 m55:=⟨h1,h2⟩
  have hF:=(h.aB hxm52).aB he55
  have oa:one a.w=true:=(hF.sh a ha).one
  have ob:one b.w=true:=(hF.sh b hb).one
  rw[aA,aA]
  show zD [] _
  unfold zD
  refine au fun m61 hn61 hg61 hk61=>?_
  refine aD jl hg61 rfl rfl (Un.ky oa) fun m62 hn62 hg62 hk62=>?_
  refine au fun m64 hn64 hg64 hk64=>?_
  refine aD jl hg64 rfl rfl (Un.ky ob) fun m65 hn65 hg65 hk65=>?_
  have eO:∀c,c < m55.n->m65.get c=m55.get c:=fun c hc=>by rw[hk65 c (by omega),hk64 c (by omega),hk62 c (by omega),hk61 c hc]
  refine⟨fun c _ hc=>eO c hc,fun m67 hn67 hk67=>?_⟩
  dsimp only
  have r1:m67.get m55.n=.cells (a.u.c a.w) 87 none:=by rw[hk67 _ (by omega),hk65 _ (by omega),hk64 _ (by omega),hg62];rfl
  have r2:m67.get m62.n=.cells (b.u.c b.w) 87 none:=by rw[hk67 _ (by omega),hg65];rfl
  have o67:∀c,c < m52.n->m67.get c=m52.get c:=fun c hc=>by rw[hk67 c (by omega),eO c (by omega),h2 c hc]
  have he67:Ext m52 m67:=⟨by omega,o67⟩
  have hF67:=(h.aB hxm52).aB he67
  rw[cU r1,aa,cU r2,aa]
  refine aC (wP hX (hF67.sh a ha) (hF67.sh b hb) (by have:=h.ln a ha;omega) (by have:=h.ln b hb;omega)) ?_
  rw[aj]
  refine ak (fun ho=>?_) (fun ho=>?_)
  ·refine aD Li (he67.cells gr) rfl rfl rfl fun m73 hn73 hg73 hk73=>?_
   exact⟨by omega,fun c h1c h2c _=>hk73 c (by omega),rfl,hg73,zq hij hai hbj ho⟩
  ·refine⟨by omega,fun c _ _ _=>rfl,by omega,o67,fun k' p hk' hp'=>?_⟩
   by_cases e:k'=k
   ·subst e;rw[hp]at hp';cases hp';exact ho
   ·exact h3 k' p (by omega) hp'
 ·rintro m' lo2 ⟨h1,h2,h3⟩ hlo2
  have gr':m'.get m1.n=.cells [.bool false] 4 none:=by rw[h2 _ (by omega)];exact gr
  refine aD Li gr' rfl rfl rfl fun m77 hn77 hg77 hk77=>?_
  rw[vH,av hg77]
  show ah (some (Value.bool true)) _
  rw[aa]
  refine⟨?_,by omega⟩
  rw[fM]
  ·rfl
  refine⟨by rw[dY];omega,fun u hu=>?_,fun i a b ha hb=>?_,fun i k a b hik ha hb=>?_⟩
  ·obtain⟨x,hx,rfl⟩:=ER hu
   obtain⟨j,hj⟩:=List.getElem?_of_mem hx
   exact hval j x (List.getElem?_eq_some_iff.1 hj).1 hj
  ·obtain⟨x,hx,rfl⟩:=lD ha
   obtain⟨y,hy,rfl⟩:=lD hb
   exact hasc i x y (List.getElem?_eq_some_iff.1 hy).1 hx hy
  ·obtain⟨x,hx,rfl⟩:=lD ha
   obtain⟨y,hy,rfl⟩:=lD hb
   have:=Dr i k x y hik hx hy
   obtain⟨k',hk'⟩:=List.getElem?_of_mem this
   have hkl:=(List.getElem?_eq_some_iff.1 hk').1
   exact h3 k' (x,y) (by rw[pL,List.length_map];exact hkl) hk'
 ·rintro e m' lo2 hne ⟨rfl,h2,h3⟩ hlo2
  refine⟨_,List.mem_singleton.2 rfl,rfl,?_⟩
  dsimp only
  rw[vH,av h2]
  show ah (some (Value.bool false)) _
  rw[aa,jz h3]
  exact⟨rfl,by omega⟩
set_option maxRecDepth 100000 in
theorem jr(hX:cW X){l:List UW}{v:Value}(h:dS m l v)(hlen:l.length < 1000000):C X (.func 61) [.agg #[v]] m m.n (.bool (gM (bV l))) m:=by
 refine Cl.flat (hX.no _ rfl) OF rfl rfl ?_
 rw[YN];dsimp only[aI]
 refine au fun m1 hn1 hg1 hk1=>?_
 have hx1:Ext m m1:=⟨by omega,hk1⟩
 have g1:m1.get m.n=.cells [v] 31 none:=hg1
 have ldF:ag TE m1 29 (.pointer (some ⟨m.n,0+0,none⟩))=some v:=by rw[gX,av g1];rfl
 have h1:=h.aB hx1
 unfold ptrTo
 rw[cx,aa,ldF,aa,h1.sl.len eo,ar,bX,aa,aj]
 refine ak (fun hgt=>?_) (fun hle=>?_)
 ·have hgt:(12:Int)< l.length:=by simpa using hgt
  refine⟨?_,Nat.le_refl _⟩
  rw[jz fun hf=>by have:=hf.len;rw[dY]at this;omega];rfl
 have hle:¬(12:Int)< l.length:=by simpa using hle
 have hno:∀(lo:Nat),m.n<=lo->¬cB (bV l)->aR [Value.bool false]=.bool (gM (bV l))/\m.n<=lo:=fun lo hlo hn=>⟨by rw[jz hn];rfl,hlo⟩
 refine Lp.intro (γ:=Nat) (fun i=>l.length-i) (fun i vs mm lo=>vs=[.bool false,.int .i64 i]/\i<=l.length/\m1=mm/\m.n<=lo/\(∀j x,j < i->l[j]?=some x->nV x.u=true)/\(∀j a b,j+1 < i->l[j]?=some a->l[j+1]?=some b->a.u.id < b.u.id)/\(∀j k a b,k < i->j < k->l[j]?=some a->l[k]?=some b->iG a.u b.u=false)) 0
  ⟨rfl,Nat.zero_le _,rfl,Nat.le_refl _,fun j x hj=>by omega,fun j a b hj=>by omega,fun j k a b hk=>by omega⟩ ?_
 rintro i vs mm lo ⟨rfl,hi,rfl,hlo,hval,hasc,hap⟩
 rw[aA,aA,aa,ldF,aa,h1.sl.len eo,ar,aH,aa,aj]
 refine ak (fun hlt=>?_) (fun hge=>?_)
 ·have hlt:i < l.length:=by simpa using hlt
  obtain⟨x,hxi⟩:∃a,l[i]?=some a:=⟨_,List.getElem?_eq_getElem hlt⟩
  have hxm:=List.mem_of_getElem? hxi
  obtain⟨q,e1,e2,ow⟩:=h1.sl.lv (k:=.i64) hxi
  refine bY (fun vs m' lo=>∃bad,vs=[.bool bad]/\m1=m'/\m.n<=lo/\(bad=true->¬cB (bV l))/\(bad=false->nV x.u=true/\∀a,0 < i->l[i-1]?=some a->a.u.id < x.u.id)) (fun R hR=>?_) ?_
  ·rw[aa,ldF,aa,e1,aa,e2,aa]
   refine aC (np hX (u:=x.u) (w:=x.w) (h1.sh x hxm) (by have:=h.ln x hxm;omega)) ?_
   rw[aX,aa,aj]
   refine ak (fun hb=>?_) (fun hb=>?_)
   ·exact hR _ _ _ ⟨true,rfl,rfl,by omega,fun _=>EP hxm (by simpa using hb),fun h=>by cases h⟩
   have hb:nV x.u=true:=by simpa using hb
   rw[bX,aa,aj]
   refine ak (fun hp=>?_) (fun hp=>?_)
   ·have hp:0 < i:=by simpa using hp
    obtain⟨a,ha⟩:∃a,l[i-1]?=some a:=⟨_,List.getElem?_eq_getElem (by omega)⟩
    obtain⟨q,q0,f1,f2,f3⟩:=Bm h1.sl ha
    obtain⟨q',q0',f1',f2',f3'⟩:=Bm h1.sl hxi
    rw[aa,ldF,aa,f1',aa,f2',aa,f3',aa,aa,ldF,aa,cz,aa,wrap64 (by omega) (by omega),show((i:Int)-1)=((i-1:Nat):Int) by omega,f1,aa,f2,aa,f3,aa,cK,aa]
    refine hR _ _ _ ⟨_,rfl,rfl,by omega,fun hh=>?_,fun hh=>⟨hb,fun a' _ ha'=>?_⟩⟩
    ·have hh:x.u.id<=a.u.id:=by simpa using hh
     exact Is ha (by rw[Nat.sub_add_cancel hp];exact hxi) hh
    ·rw[ha]at ha';cases ha'
     have hh:¬x.u.id<=a.u.id:=by simpa using hh
     omega
   ·have hp:¬0 < i:=by simpa using hp
    exact hR _ _ _ ⟨false,rfl,rfl,by omega,fun h=>(by cases h),fun _=>⟨hb,fun a h=>absurd h hp⟩⟩
  rintro _ _ lo' ⟨bad,rfl,rfl,hlo',hbad,hgood⟩
  rw[aA,aj]
  refine ak (fun hb=>hno lo' hlo' (hbad hb)) (fun hb=>?_)
  obtain⟨h1',h2'⟩:=hgood hb
  refine Lp.intro (γ:=Nat) (fun k=>i-k) (fun k vs mm lo=>vs=[.bool false,.int .i64 k]/\k<=i/\m1=mm/\m.n<=lo/\∀j a,j < k->l[j]?=some a->iG a.u x.u=false) 0 ⟨rfl,Nat.zero_le _,rfl,hlo',fun j a hj=>by omega⟩ ?_
  rintro k vs mm lo2 ⟨rfl,hk,rfl,hlo2,hov⟩
  rw[aA,aA,aH,aa,aj]
  refine ak (fun hlt2=>?_) (fun hge2=>?_)
  ·have hlt2:k < i:=by simpa using hlt2
   obtain⟨y,hyk⟩:∃a,l[k]?=some a:=⟨_,List.getElem?_eq_getElem (by omega)⟩
   have hym:=List.mem_of_getElem? hyk
   obtain⟨q',e1',e2',_⟩:=h1.sl.lv (k:=.i64) hyk
   rw[aa,ldF,aa,e1,aa,e2,aa,aa,ldF,aa,e1',aa,e2',aa]
   refine aC (uS hX (a:=x.u) (va:=x.w) (b:=y.u) (vb:=y.w) (h1.sh x hxm) (h1.sh y hym) (by have:=h.ln x hxm;omega) (by have:=h.ln y hym;omega)) ?_
   rw[aj]
   refine ak (fun ho=>?_) (fun ho=>?_)
   ·exact hno _ (by omega) (zq hlt2 hyk hxi (by rw[rS];exact ho))
   ·rw[aG,aa,wrap64 (by omega) (by omega)]
    refine⟨k+1,by omega,rfl,by omega,rfl,by omega,fun j a hj ha=>?_⟩
    by_cases e:j=k
    ·subst e;rw[hyk]at ha;cases ha;rw[rS];exact ho
    ·exact hov j a (by omega) ha
  ·have hk':k=i:=by
    have:¬(k:Int)< (i:Int):=by simpa using hge2
    omega
   subst hk'
   rw[aG,aa,wrap64 (by omega) (by omega)]
   refine⟨k+1,by omega,rfl,by omega,rfl,hlo2,fun j y hj hy=>?_,fun j a b hj ha hb'=>?_,fun j k' a b hk' hj ha hb'=>?_⟩
   ·by_cases e:j=k
    ·subst e;rw[hxi]at hy;cases hy;exact h1'
    ·exact hval j y (by omega) hy
   ·by_cases e:j+1=k
    ·subst e;rw[hxi]at hb';cases hb';exact h2' a (by omega) (by simpa using ha)
    ·exact hasc j a b (by omega) ha hb'
   ·by_cases e:k'=k
    ·subst e;rw[hxi]at hb';cases hb';exact hov j a hj ha
    ·exact hap j k' a b (by omega) hj ha hb'
 ·have hi':i=l.length:=by
   have:¬(i:Int)< (l.length:Int):=by simpa using hge
   omega
  subst hi'
  refine⟨?_,hlo⟩
  rw[fM]
  ·rfl
  refine⟨by rw[dY];omega,fun u hu=>?_,fun i a b ha hb=>?_,fun i k a b hik ha hb=>?_⟩
  ·obtain⟨x,hx,rfl⟩:=ER hu
   obtain⟨j,hj⟩:=List.getElem?_of_mem hx
   exact hval j x (List.getElem?_eq_some_iff.1 hj).1 hj
  ·obtain⟨x,hx,rfl⟩:=lD ha
   obtain⟨y,hy,rfl⟩:=lD hb
   exact hasc i x y (List.getElem?_eq_some_iff.1 hy).1 hx hy
  ·obtain⟨x,hx,rfl⟩:=lD ha
   obtain⟨y,hy,rfl⟩:=lD hb
   exact hap i k x y (List.getElem?_eq_some_iff.1 hy).1 hik hx hy
end Go.Proofs.YtmdfgncoekfgdaaGreatDoor
namespace Go.Proofs.YtmdfgncoekfgdaaGreatDoor
open Go Go.D
variable {X:aF} {m:M}
theorem jj(x:Int):fP (IntKind.i64.wrap x):=by
 have h:=Bj x
 unfold wr at h
 unfold fP
 rw[h]
 split <;>omega
theorem cR(hX:cW X){c n:Int}(hc:fP c)(hn:0 < n):C X (.func 54) [.int .i64 c,.int .i64 n] m m.n (.int .i64 (cM c n)) m:=by
 refine Cl.flat (hX.no _ rfl) ON rfl rfl ?_
 rw[YU];dsimp only[aI]
 exact kh hc hn (P:=fun v=>aR [v]=.int .i64 (cM c n)/\m.n<=m.n) ⟨rfl,Nat.le_refl _⟩
theorem uA(hX:cW X){u:Un}{w:Value}(hw:Sl m u.shape w)(hl:u.shape.length < 1000000):
  ∃w' m',C X (.func 57) [u.v w] m m.n (u.v w') m'/\Ext m m'/\Sl m' u.shape w':=by
 have key:∃r m' b,C X (.func 57) [u.v w] m b r m'/\b=m.n/\∃w',r=u.v w'/\Ext m m'/\Sl m' u.shape w':=by
  refine Cl.heap (R:=fun r m' b=>b=m.n/\∃w',r=u.v w'/\Ext m m'/\Sl m' u.shape w') (hX.no _ rfl) OJ rfl ?_
  rw[YR];dsimp only[aI]
  refine au fun m1 hn1 hg1 hk1=>?_
  refine au fun m2 hn2 hg2 hk2=>?_
  simp only[aP]at hg1
  have hx2:Ext m m2:=⟨by omega,fun c hc=>by rw[hk2 c (by omega),hk1 c hc]⟩
  have g1:m2.get m.n=.cells (u.c w) 87 none:=by rw[hk2 _ (by omega)];exact hg1
  unfold ptrTo
  rw[fZ,ar]
  have hx4:Ext m2 (m2.push (.cells [] 98 none)):=Ext.refl.push
  generalize hm4:m2.push (.cells [] 98 none)=m4 at*
  have hg4:m4.get m2.n=.cells [] 98 none:=by rw[<-hm4];exact M.aN
  have hn4:m4.n=m2.n+1:=by rw[<-hm4];rfl
  have g14:=hx4.cells g1
  obtain⟨-, -, -,l3, -, -⟩:=zv g14
  rw[cg,aa,l3,aa]
  obtain⟨v7,m8,ha,hs8,hx8,hl8,hfl⟩:∃v' m1,an TE (m4.wl m4.n) .append [45,45] [.slice (some ⟨m2.n,0,none⟩) 0 0,w]=some (v',m1)/\Sl m1 u.shape v'/\Ext m4 m1/\m1.low=m4.n/\∃a n c,v'=.slice (some a) n c:=by
   have hw4:=(hw.aB hx2).aB hx4
   by_cases he:u.shape=[]
   ·rw[he]at hw4⊢
    obtain⟨a,c,rfl⟩:=hw4.form
    refine⟨.slice (some ⟨m2.n,0,none⟩) 0 0,m4.wl m4.n,?_,.inr ⟨m2.n,0,0,[],none,rfl,hg4,by simp,fun i x hi=>by simp at hi⟩,⟨Nat.le_refl _,fun _ _=>rfl⟩,rfl,_,_,_,rfl⟩
    cases a with
    |none=>kernel_rfl
    |some a=>kernel_rfl
   ·obtain⟨v',m1,h1,h2,h3,h4⟩:=ir kX hg4 hw4 he (by omega)
    obtain⟨a,c,hv⟩:=h2.sl.form
    refine⟨v',m1,h1,h2.sl,h3,h4,?_⟩
    rcases h2 with⟨_,h⟩ |⟨b,cs,rfl,_⟩
    ·exact absurd h he
    ·exact⟨_,_,_,rfl⟩
  rw[ha,ar,aa]
  have n8:=hx8.n
  have g18:=hx8.cells g14
  have o7:one v7=true:=hs8.one
  refine bM od g18 (by rw[hs8.cells];rfl) (by rw[hs8.cells];simp) (by rw[hs8.cells];simp[o7]) fun m10 hn10 hg10 hk10=>?_
  have hg10:m10.get m.n=.cells (u.c v7) 87 none:=by rw[hg10,hs8.cells];rfl
  rw[cU hg10,aa]
  have g210:m10.get m1.n=.cells Un.zc 87 none:=by rw[hk10 _ (by omega),hx8.get _ (by omega),hx4.get _ (by omega),hg2]
  refine aD jl g210 rfl rfl (Un.ky o7) fun m13 hn13 hg13 hk13=>?_
  have hg13:m13.get m1.n=.cells (u.c v7) 87 none:=hg13
  rw[cU hg13,aa]
  obtain⟨a,n,c,rfl⟩:=hfl
  refine⟨.inl ?_,by omega,_,rfl,⟨by omega,fun b hb=>by rw[hk13 b (by omega),hk10 b (by omega),hx8.get b (by omega),hx4.get b (by omega),hx2.get b hb]⟩,?_⟩
  ·show bD (u.v (.slice (some a) n c))=false
   simp[bD,eV,bP]
  ·refine hs8.bt fun b cs t g hb ht=>?_
   have hne1:b≠m.n:=by
    rintro rfl
    rw[g18]at hb;cases hb
    revert ht
    decide
   have hne2:b≠m1.n:=by
    rintro rfl
    rw[hx8.get _ (by omega),hx4.get _ (by omega),hg2]at hb;cases hb
    revert ht
    decide
   rw[hk13 b hne2,hk10 b hne1,hb]
 obtain⟨r,m',b,hc,rfl,w',rfl,h1,h2⟩:=key
 exact⟨w',m',hc,h1,h2⟩
theorem LL{b o:Nat}{k:IntKind}{i:Nat}(hi:i < 6):ai TE 85 (.pointer (some ⟨b,o,none⟩)) (.int k i)=some (.pointer (some ⟨b,o+i,none⟩)):=by
 rcases(show i=0\/i=1\/i=2\/i=3\/i=4\/i=5 by omega)with rfl |rfl |rfl |rfl |rfl |rfl <;>kernel_rfl
set_option maxRecDepth 100000 in
theorem AY(hX:cW X){R:List Value->M->Nat->Prop}{b6 rc lo0:Nat}{mm:M}{w:Value}{shp:List Pl}{n i0 i1 i2 i3 i4 i5:Int}(hb:mm.get b6=.cells [.int .i64 i0,.int .i64 i1,.int .i64 i2,.int .i64 i3,.int .i64 i4,.int .i64 i5] 85 none)
  (hr:mm.get rc=.cells Un.zc 87 none) (hw:Sl mm shp w) (hn:fP n) (h5:fP i5)
  (hR:∀(u:Un) (m':M) (lo:Nat),u.shape=shp->mm.n=m'.n->m'.get rc=.cells (u.c w) 87 none->(∀c,c≠rc->m'.get c=mm.get c)->min lo0 (min rc mm.n)<=lo->R [u.v w] m' lo):
  (ah (ai TE 85 (.pointer (some ⟨b6,0,none⟩)) (.int .i64 5)) fun v323=>(ah (ag TE mm 3 v323) fun v324=>(bz TE X (.func 54) [v324,(.int .i64 4)] mm fun v325 m326 b327=>(ah (aq TE .eql 3 v325 (.int .i64 3)) fun v328=>(aW v328
(ah (ai TE 85 (.pointer (some ⟨b6,0,none⟩)) (.int .i64 5)) fun v329=>(ah (ag TE m326 3 v329) fun v330=>(ah (aq TE .quo 3 v330 (.int .i64 4)) fun v331=>(bz TE X (.func 54) [v331,(.int .i64 4)] m326 fun v332 m333 b334=>(ah (aq TE .add 3 v332 (.int .i64 1)) fun v335=>(ah (ai TE 85 (.pointer (some ⟨b6,0,none⟩)) (.int .i64 5)) fun v336=>(ah (ag TE m333 3 v336) fun v337=>(ah (aq TE .quo 3 v337 (.int .i64 16)) fun v338=>(bz TE X (.func 54) [v338,(.int .i64 4)] m333 fun v339 m340 b341=>(ah (aq TE .add 3 v335 v339) fun v342=>(bz TE X (.func 54) [(.int .i64 n),(.int .i64 100)] m340 fun v343 m344 b345=>((M.n m340<=b345)/\(ah (ai TE 85 (.pointer (some ⟨b6,0,none⟩)) (.int .i64 5)) fun v346=>(ah (ag TE m344 3 v346) fun v347=>(ah (aq TE .quo 3 v347 (.int .i64 64)) fun v348=>(bz TE X (.func 54) [v348,(.int .i64 8)] m344 fun v349 m350 b351=>((M.n m344<=b351)/\(ah (aq TE .add 3 (.int .i64 1) v349) fun v352=>(ah (ai TE 85 (.pointer (some ⟨b6,0,none⟩)) (.int .i64 5)) fun v353=>(ah (ag TE m350 3 v353) fun v354=>(ah (aq TE .quo 3 v354 (.int .i64 512)) fun v355=>(bz TE X (.func 54) [v355,(.int .i64 8)] m350 fun v356 m357 b358=>(ah (aO TE 87 [(0,v343),(1,v352),(2,v356),(3,w),(4,v332),(5,v342)]) fun v359=>(aK (aw TE m357 87 (.pointer (some ⟨rc,0,none⟩)) v359) fun m360 b361=>(ah (ag TE m360 87 (.pointer (some ⟨rc,0,none⟩))) fun v362=>(R [v362] m360 (min (min (min (min (min (min (min lo0 b327) b334) b341) b345) b351) b358) b361)))))))))))))))))))))))))))
(bz TE X (.func 54) [(.int .i64 n),(.int .i64 100)] m326 fun v363 m364 b365=>((M.n m326<=b365)/\(ah (ai TE 85 (.pointer (some ⟨b6,0,none⟩)) (.int .i64 5)) fun v366=>(ah (ag TE m364 3 v366) fun v367=>(ah (aq TE .quo 3 v367 (.int .i64 64)) fun v368=>(bz TE X (.func 54) [v368,(.int .i64 8)] m364 fun v369 m370 b371=>((M.n m364<=b371)/\(ah (aq TE .add 3 (.int .i64 1) v369) fun v372=>(ah (ai TE 85 (.pointer (some ⟨b6,0,none⟩)) (.int .i64 5)) fun v373=>(ah (ag TE m370 3 v373) fun v374=>(ah (aq TE .quo 3 v374 (.int .i64 512)) fun v375=>(bz TE X (.func 54) [v375,(.int .i64 8)] m370 fun v376 m377 b378=>(ah (aO TE 87 [(0,v363),(1,v372),(2,v376),(3,w),(4,(.int .i64 0)),(5,(.int .i64 4))]) fun v379=>(aK (aw TE m377 87 (.pointer (some ⟨rc,0,none⟩)) v379) fun m380 b381=>(ah (ag TE m380 87 (.pointer (some ⟨rc,0,none⟩))) fun v382=>(R [v382] m380 (min (min (min (min (min lo0 b327) b365) b371) b378) b381)))))))))))))))))))))):=by
 have e5:ai TE 85 (.pointer (some ⟨b6,0,none⟩)) (.int .i64 5)=some (.pointer (some ⟨b6,5,none⟩)):=LL (i:=5) (by decide)
 have l5:ag TE mm 3 (.pointer (some ⟨b6,5,none⟩))=some (.int .i64 i5):=by rw[bu,av hb];rfl
 have ow:one w=true:=hw.one
 have bld:∀a b c d e:Int,aO TE 87 [(0,.int .i64 a),(1,.int .i64 b),(2,.int .i64 c),(3,w),(4,.int .i64 d),(5,.int .i64 e)]=some (Un.v ⟨a,b,c,shp,d,e⟩ w):=fun a b c d e=>by
  have:=lX (x0:=.int .i64 a) (x1:=.int .i64 b) (x2:=.int .i64 c) (x3:=w) (x4:=.int .i64 d) (x5:=.int .i64 e) rfl rfl rfl (by rw[hw.cells];rfl) rfl rfl
  rw[this,hw.cells];rfl
 have fin:∀(u:Un) (lo:Nat),u.shape=shp->min lo0 mm.n<=lo->aK (aw TE mm 87 (.pointer (some ⟨rc,0,none⟩)) (u.v w)) fun m' b=>ah (ag TE m' 87 (.pointer (some ⟨rc,0,none⟩))) fun v=>R [v] m' (min lo b):=fun u lo hu hlo=>by
  refine aD jl hr rfl rfl (Un.ky ow) fun m' hn' hg' hk'=>?_
  have hg':m'.get rc=.cells (u.c w) 87 none:=hg'
  rw[cU hg',aa]
  exact hR u m' _ hu hn'.symm hg' hk' (by omega)
 rw[e5,aa,l5,aa]
 refine aC (cR hX h5 (by decide)) ?_
 rw[bE,aa,aj]
 refine ak (fun _=>?_) (fun _=>?_)
 ·rw[aa,l5,aa,eL (by decide),aa]
  refine aC (cR hX (jj _) (by decide)) ?_
  rw[aG,aa,aa,l5,aa,eL (by decide),aa]
  refine aC (cR hX (jj _) (by decide)) ?_
  rw[aG,aa]
  refine aC (cR hX hn (by decide)) ⟨Nat.le_refl _,?_⟩
  rw[aa,l5,aa,eL (by decide),aa]
  refine aC (cR hX (jj _) (by decide)) ⟨Nat.le_refl _,?_⟩
  rw[aG,aa,aa,l5,aa,eL (by decide),aa]
  refine aC (cR hX (jj _) (by decide)) ?_
  rw[bld,aa]
  exact fin _ _ rfl (by omega)
 ·refine aC (cR hX hn (by decide)) ⟨Nat.le_refl _,?_⟩
  rw[aa,l5,aa,eL (by decide),aa]
  refine aC (cR hX (jj _) (by decide)) ⟨Nat.le_refl _,?_⟩
  rw[aG,aa,aa,l5,aa,eL (by decide),aa]
  refine aC (cR hX (jj _) (by decide)) ?_
  rw[bld,aa]
  exact fin _ _ rfl (by omega)
end Go.Proofs.YtmdfgncoekfgdaaGreatDoor
namespace Go.Proofs.YtmdfgncoekfgdaaGreatDoor
open Go Go.D
variable {X:aF} {m:M}
theorem qO{b:Nat}{L:List Pl}{i:Nat}{p:Pl}{g:Option Nat}{x:Int}{P:M->Nat->Prop}(h:m.get b=.cells (nv L) 98 g)(hi:L[i]?=some p)
  (hP:∀m1,m1.n=m.n->m1.get b=.cells (nv (L.set i ⟨x,p.y⟩)) 98 g->(∀c,c≠b->m1.get c=m.get c)->P m1 b):aK (aw TE m 3 (.pointer (some ⟨b,i*2+0,none⟩)) (.int .i64 x)) P:=by
 have hil:=(List.getElem?_eq_some_iff.1 hi).1
 have hl:=iN L
 refine bM kf h rfl (by rw[hl];show i*2+0+1<=_;omega) rfl fun m1 h1 h2 h3=>hP m1 h1 ?_ h3
 rw[h2,Nat.add_zero,show i*2+(cells (Value.int .i64 x)).length=i*2+1 from rfl]
 have:=gC (cs:=nv L) (i:=i*2) (x:=Value.int .i64 x) (by rw[hl];omega)
 rw[show cells (Value.int .i64 x)=[Value.int .i64 x]from rfl,this,rJ x hi]
set_option maxRecDepth 100000 in
theorem Ip(hX:cW X){n i0 i1 i2 i3 i4 i5:Int}(hn:fP n)(h0:fP i0)(h1:fP i1)(h2:fP i2)(h3:fP i3)(h4:fP i4)(h5:fP i5):
  ∃(u:Un) (w:Value) (m':M),C X (.func 53) [.int .i64 n,.agg #[.int .i64 i0,.int .i64 i1,.int .i64 i2,.int .i64 i3,.int .i64 i4,.int .i64 i5]] m m.n (u.v w) m'/\Ext m m'/\Sl m' u.shape w/\u.shape.length<=4:=by
 have key:∃r m' b,C X (.func 53) [.int .i64 n,.agg #[.int .i64 i0,.int .i64 i1,.int .i64 i2,.int .i64 i3,.int .i64 i4,.int .i64 i5]] m b r m'/\b=m.n/\∃(u:Un) (w:Value),r=u.v w/\Ext m m'/\Sl m' u.shape w/\u.shape.length<=4:=by
  refine Cl.heap (R:=fun r m' b=>b=m.n/\∃(u:Un) (w:Value),r=u.v w/\Ext m m'/\Sl m' u.shape w/\u.shape.length<=4) (hX.no _ rfl) OO rfl ?_
  rw[YV];dsimp only[aI]
  refine au fun m1 hn1 hg1 hk1=>?_
  refine au fun m2 hn2 hg2 hk2=>?_
  have hx2:Ext m m2:=⟨by omega,fun c hc=>by rw[hk2 c (by omega),hk1 c hc]⟩
  have g1:m2.get m.n=.cells [.int .i64 i0,.int .i64 i1,.int .i64 i2,.int .i64 i3,.int .i64 i4,.int .i64 i5] 85 none:=by rw[hk2 _ (by omega)];exact hg1
  unfold ptrTo
  have ld:∀{mm:M} {i:Nat} {x:Int},Ext m2 mm->[i0,i1,i2,i3,i4,i5][i]?=some x->ai TE 85 (.pointer (some ⟨m.n,0,none⟩)) (.int .i64 i)=some (.pointer (some ⟨m.n,i,none⟩))/\ag TE mm 3 (.pointer (some ⟨m.n,i,none⟩))=some (.int .i64 x):=fun{mm i x} hx hi=>by
   have hil:=(List.getElem?_eq_some_iff.1 hi).1
   refine⟨by have:=LL (b:=m.n) (o:=0) (k:=.i64) (i:=i) hil;rwa[Nat.zero_add]at this,?_⟩
   have hc:[Value.int .i64 i0,.int .i64 i1,.int .i64 i2,.int .i64 i3,.int .i64 i4,.int .i64 i5][i]?=some (.int .i64 x):=by
    have:([i0,i1,i2,i3,i4,i5].map (Value.int .i64))[i]?=some (.int .i64 x):=by rw[List.getElem?_map,hi];rfl
    exact this
   rw[bu,av (hx.cells g1),hc]
  have d0a:ai TE 85 (.pointer (some ⟨m.n,0,none⟩)) (.int .i64 0)=some (.pointer (some ⟨m.n,0,none⟩)):=(@ld m2 0 i0 .refl rfl).1
  have d0b:=(@ld m2 0 i0 .refl rfl).2
  have d1a:ai TE 85 (.pointer (some ⟨m.n,0,none⟩)) (.int .i64 1)=some (.pointer (some ⟨m.n,1,none⟩)):=(@ld m2 1 i1 .refl rfl).1
  have d1b:=(@ld m2 1 i1 .refl rfl).2
  have d2a:ai TE 85 (.pointer (some ⟨m.n,0,none⟩)) (.int .i64 2)=some (.pointer (some ⟨m.n,2,none⟩)):=(@ld m2 2 i2 .refl rfl).1
  have d2b:=(@ld m2 2 i2 .refl rfl).2
  have d3a:ai TE 85 (.pointer (some ⟨m.n,0,none⟩)) (.int .i64 3)=some (.pointer (some ⟨m.n,3,none⟩)):=(@ld m2 3 i3 .refl rfl).1
  have d3b:=(@ld m2 3 i3 .refl rfl).2
  rw[d0a,aa,d0b,aa]
  refine aC (cR hX h0 (by decide)) ?_
  rw[cA,aa]
  rw[d1a,aa,d1b,aa]
  refine aC (cR hX h1 (by decide)) ?_
  rw[cA,aa]
  rw[d2a,aa,d2b,aa]
  refine aC (cR hX h2 (by decide)) ?_
  rw[aG,aa,cA,aa,aG,aa,iQ,ar]
  rw[d3a,aa,d3b,aa]
  refine aC (cR hX h3 (by decide)) ?_
  rw[aG,aa,cA,aa,aG,aa]
  generalize IntKind.i64.wrap (4*cM i0 9)=x0
  generalize IntKind.i64.wrap (4*cM i1 6)=y0
  generalize min (IntKind.i64.wrap _) (40:Int)=x1
  generalize IntKind.i64.wrap (y0+_)=y1
  have bp:∀a b:Int,aO TE 98 [(0,.int .i64 a),(1,.int .i64 b)]=some (Pl.v ⟨a,b⟩):=fun a b=>cd rfl rfl
  rw[bp,aa,bp,aa,bp,aa,bp,aa]
  obtain⟨L,hL⟩:∃L:List Pl,L=[⟨x0,y0⟩,⟨x1,y0⟩,⟨x1,y1⟩,⟨x0,y1⟩]:=⟨_,rfl⟩
  have hbs:az TE m2 45 4 [(0,Pl.v ⟨x0,y0⟩),(1,Pl.v ⟨x1,y0⟩),(2,Pl.v ⟨x1,y1⟩),(3,Pl.v ⟨x0,y1⟩)]=some (.slice (some ⟨m2.n,0,none⟩) 4 4,m2.push (.cells (nv L) 98 none)):=by rw[hL];kernel_rfl
  rw[hbs,ar]
  have hx37:Ext m2 (m2.push (.cells (nv L) 98 none)):=Ext.refl.push
  generalize hm37:m2.push (.cells (nv L) 98 none)=m37 at*
  have hg37:m37.get m2.n=.cells (nv L) 98 none:=by rw[<-hm37];exact M.aN
  have hn37:m37.n=m2.n+1:=by rw[<-hm37];rfl
  have d4a:ai TE 85 (.pointer (some ⟨m.n,0,none⟩)) (.int .i64 4)=some (.pointer (some ⟨m.n,4,none⟩)):=(@ld m37 4 i4 hx37 rfl).1
  have d4b:=(@ld m37 4 i4 hx37 rfl).2
  rw[d4a,aa,d4b,aa]
  refine aC (cR hX h4 (by decide)) ?_
  have gz:m37.get m1.n=.cells Un.zc 87 none:=by rw[hx37.get _ (by omega),hg2]
  have hne:m1.n≠m2.n:=by omega
  have fin:∀(mm:M) (lo0:Nat) (w:Value) (shp:List Pl),(∀c,c≠m2.n->c < m37.n->mm.get c=m37.get c)->m37.n<=mm.n->m.n<=lo0->Sl mm shp w->shp.length<=4->(∃a n c,w=.slice (some a) n c)->mm.get m.n=.cells [.int .i64 i0,.int .i64 i1,.int .i64 i2,.int .i64 i3,.int .i64 i4,.int .i64 i5] 85 none/\mm.get m1.n=.cells Un.zc 87 none/\
    ∀(u:Un) (m':M) (lo:Nat),u.shape=shp->mm.n=m'.n->m'.get m1.n=.cells (u.c w) 87 none->(∀c,c≠m1.n->m'.get c=mm.get c)->min lo0 (min m1.n mm.n)<=lo->(bD (aR [u.v w])=false\/lo < m.n)/\min m.n lo=m.n/\∃(u':Un) (w':Value),aR [u.v w]=u'.v w'/\Ext m m'/\Sl m' u'.shape w'/\u'.shape.length<=4:=by
   intro mm lo0 w shp hk hnm hlo hs hl hw
   refine⟨by rw[hk _ (by omega) (by omega),hx37.get _ (by omega),g1],by rw[hk _ hne (by omega),gz],fun u m' lo hu hnn hg hk' hlo'=>⟨.inl ?_,by omega,u,w,rfl,⟨by omega,fun c hc=>by rw[hk' c (by omega),hk c (by omega) (by omega),hx37.get c (by omega),hx2.get c hc]⟩,?_,by rw[hu];exact hl⟩⟩
   ·obtain⟨a,k,c,rfl⟩:=hw
    show bD (u.v (.slice (some a) k c))=false
    simp[bD,eV,bP]
   ·rw[hu]
    refine hs.bt fun b cs t g hb ht=>?_
    by_cases e:b=m1.n
    ·subst e
     rw[hk _ hne (by omega),gz]at hb
     cases hb
     exact absurd ht (by decide)
    ·rw[hk' b e,hb]
  have hsl37:∀{mm:M} {L':List Pl},mm.get m2.n=.cells (nv L') 98 none->L'.length=4->Sl mm L' (.slice (some ⟨m2.n,0,none⟩) 4 4):=fun{mm L'} h hl=>by
   have:=zN (c:=4) h
   rwa[hl]at this
  have hix:∀i,i < 4->ai TE 45 (.slice (some ⟨m2.n,0,none⟩) 4 4) (.int .i64 (i:Nat))=some (.pointer (some ⟨m2.n,i*2,none⟩)):=fun i hi=>GO hi
  have x0':ai TE 45 (.slice (some ⟨m2.n,0,none⟩) 4 4) (.int .i64 0)=some (.pointer (some ⟨m2.n,0*2,none⟩)):=hix 0 (by decide)
  have x1':ai TE 45 (.slice (some ⟨m2.n,0,none⟩) 4 4) (.int .i64 1)=some (.pointer (some ⟨m2.n,1*2,none⟩)):=hix 1 (by decide)
  have x2':ai TE 45 (.slice (some ⟨m2.n,0,none⟩) 4 4) (.int .i64 2)=some (.pointer (some ⟨m2.n,2*2,none⟩)):=hix 2 (by decide)
  have x3':ai TE 45 (.slice (some ⟨m2.n,0,none⟩) 4 4) (.int .i64 3)=some (.pointer (some ⟨m2.n,3*2,none⟩)):=hix 3 (by decide)
  have tail:∀(mm:M) (lo0:Nat) (w:Value) (shp:List Pl),(∀c,c≠m2.n->c < m37.n->mm.get c=m37.get c)->m37.n<=mm.n->m.n<=lo0->Sl mm shp w->shp.length<=4->(∃a n c,w=.slice (some a) n c)->_:=fun mm lo0 w shp a b c d e f=>by
   obtain⟨f1,f2,f3⟩:=fin mm lo0 w shp a b c d e f
   exact AY hX (R:=fun vs m' lo=>(bD (aR vs)=false\/lo < m.n)/\min m.n lo=m.n/\∃(u:Un) (w:Value),aR vs=u.v w/\Ext m m'/\Sl m' u.shape w/\u.shape.length<=4) (lo0:=lo0) f1 f2 d hn h5 f3
  have ldp:∀{mm:M} {L':List Pl} {i:Nat} {p:Pl},mm.get m2.n=.cells (nv L') 98 none->L'[i]?=some p->ag TE mm 98 (.pointer (some ⟨m2.n,i*2,none⟩))=some p.v:=fun{mm L' i p} h hi=>by
   have hil:=(List.getElem?_eq_some_iff.1 hi).1
   rw[vE,aE h (by rw[iN];omega)]
   have:=tW hi
   unfold chunk at this
   rw[this];rfl
  rw[bE,aa,aj]
  refine ak (fun _=>?_) (fun _=>?_)
  ·rw[cz,aa,x2',aa,bK,aa]
   refine qO (L:=L) (i:=2) (p:=⟨x1,y1⟩) hg37 (by rw[hL];rfl) fun m47 hn47 hg47 hk47=>?_
   rw[aG,aa,x3',aa,bK,aa]
   refine qO (i:=3) (p:=⟨x0,y1⟩) hg47 (by rw[hL];rfl) fun m52 hn52 hg52 hk52=>?_
   exact tail m52 _ _ _ (fun c h _=>by rw[hk52 c h,hk47 c h]) (by omega) (by omega) (hsl37 hg52 (by rw[hL];rfl)) (by rw[hL];exact Nat.le_refl _) ⟨_,_,_,rfl⟩
  rw[bE,aa,aj]
  refine ak (fun _=>?_) (fun _=>?_)
  ·rw[aG,aa,x0',aa,bK,aa]
   refine qO (L:=L) (i:=0) (p:=⟨x0,y0⟩) hg37 (by rw[hL];rfl) fun m47 hn47 hg47 hk47=>?_
   rw[cz,aa,x1',aa,bK,aa]
   refine qO (i:=1) (p:=⟨x1,y0⟩) hg47 (by rw[hL];rfl) fun m52 hn52 hg52 hk52=>?_
   exact tail m52 _ _ _ (fun c h _=>by rw[hk52 c h,hk47 c h]) (by omega) (by omega) (hsl37 hg52 (by rw[hL];rfl)) (by rw[hL];exact Nat.le_refl _) ⟨_,_,_,rfl⟩
  rw[bE,aa,aj]
  have tri:∀(p q r:Pl) (lo0:Nat),m.n<=lo0->∀m193:M,m37.push (.cells (nv [p,q,r]) 98 none)=m193->Sl m193 [p,q,r] (.slice (some ⟨m37.n,0,none⟩) 3 3)/\(∀c,c≠m2.n->c < m37.n->m193.get c=m37.get c)/\m37.n<=m193.n:=fun p q r lo0 h m193 hm=>by
   have hg:m193.get m37.n=.cells (nv [p,q,r]) 98 none:=by rw[<-hm];exact M.aN
   refine⟨zN (l:=[p,q,r]) hg,fun c _ hc=>by rw[<-hm];exact M.bF hc,by rw[<-hm];exact Nat.le_succ _⟩
  have bs3:∀p q r:Pl,az TE m37 45 3 [(0,p.v),(1,q.v),(2,r.v)]=some (.slice (some ⟨m37.n,0,none⟩) 3 3,m37.push (.cells (nv [p,q,r]) 98 none)):=fun p q r=>by kernel_rfl
  refine ak (fun _=>?_) (fun _=>?_)
  ·rw[x0',aa,ldp (i:=0) (p:=⟨x0,y0⟩) hg37 (by rw[hL];rfl),aa,x1',aa,ldp (i:=1) (p:=⟨x1,y0⟩) hg37 (by rw[hL];rfl),aa,x2',aa,ldp (i:=2) (p:=⟨x1,y1⟩) hg37 (by rw[hL];rfl),aa,bs3,ar]
   generalize hm:m37.push (.cells (nv [⟨x0,y0⟩,⟨x1,y0⟩,⟨x1,y1⟩]) 98 none)=m193
   obtain⟨s1,s2,s3⟩:=tri _ _ _ m.n (Nat.le_refl _) m193 hm
   exact tail m193 _ _ _ s2 s3 (by omega) s1 (by simp) ⟨_,_,_,rfl⟩
  rw[bE,aa,aj]
  refine ak (fun _=>?_) (fun _=>?_)
  ·rw[x0',aa,ldp (i:=0) (p:=⟨x0,y0⟩) hg37 (by rw[hL];rfl),aa,x2',aa,ldp (i:=2) (p:=⟨x1,y1⟩) hg37 (by rw[hL];rfl),aa,x3',aa,ldp (i:=3) (p:=⟨x0,y1⟩) hg37 (by rw[hL];rfl),aa,bs3,ar]
   generalize hm:m37.push (.cells (nv [⟨x0,y0⟩,⟨x1,y1⟩,⟨x0,y1⟩]) 98 none)=m193
   obtain⟨s1,s2,s3⟩:=tri _ _ _ m.n (Nat.le_refl _) m193 hm
   exact tail m193 _ _ _ s2 s3 (by omega) s1 (by simp) ⟨_,_,_,rfl⟩
  exact tail m37 _ _ _ (fun c _ _=>rfl) (Nat.le_refl _) (by omega) (hsl37 hg37 (by rw[hL];rfl)) (by rw[hL];exact Nat.le_refl _) ⟨_,_,_,rfl⟩
 obtain⟨r,m',b,hc,rfl,u,w,rfl,h1,h2,h3⟩:=key
 exact⟨u,w,m',hc,h1,h2,h3⟩
end Go.Proofs.YtmdfgncoekfgdaaGreatDoor
namespace Go.Proofs.YtmdfgncoekfgdaaGreatDoor
open Go Go.D
variable {X:aF} {m:M}
def gm(u:Un):List Un->List Un
 |[]=> [u]
 |a::r=>if u.id < a.id then u::a::r else a::gm u r
theorem vM{u:Un}:∀{p q:List Un},(∀x∈p,¬u.id < x.id)->gm u (p++q)=p++gm u q
 |[],q,_=>rfl
 |a::p,q,h=>by
  rw[List.cons_append,gm,if_neg (h a (by simp)),vM fun x hx=>h x (by simp[hx])];rfl
theorem yR{u x:Un}:∀{p:List Un},(∃y∈p,u.id < y.id)->gm u (p++ [x])=gm u p++ [x]
 |[],h=>by obtain⟨y,hy,_⟩:=h;cases hy
 |a::p,h=>by
  rw[List.cons_append,gm,gm]
  by_cases e:u.id < a.id
  ·rw[if_pos e,if_pos e];rfl
  ·rw[if_neg e,if_neg e,yR]
   ·rfl
   ·obtain⟨y,hy,hlt⟩:=h
    rcases List.mem_cons.1 hy with rfl |hy
    ·exact absurd hlt e
    ·exact⟨y,hy,hlt⟩
structure VR(oc:Nat)(m m1:M):Prop where
 n:m.n<=m1.n
 lo:∀c,c < oc->m1.get c=m.get c
 get:∀c,c < m.n->c≠oc->(∀cs g,m.get c≠.cells cs 87 g)->m1.get c=m.get c
structure zy(oc:Nat)(mm:M)(acc:List UW)(r:Value):Prop where
 cell:mm.get oc=.cells [r] 31 none
 ow:Ow (oc+1) mm acc r
 sh:∀x∈acc,Sl mm x.u.shape x.w
 ln:∀x∈acc,x.u.shape.length < 1000000
theorem zy.VO{oc:Nat}{mm:M}{acc:List UW}{r:Value}(h:zy oc mm acc r):dS mm acc r:=
 ⟨h.ow.sl,h.sh,h.ln,by
  rcases h.ow with⟨_,h⟩ |⟨b,cs,h1,h2,h3,h4,h5,h6⟩
  ·exact .inl h
  ·exact .inr ⟨b,0,_,cs,_,h1,Nat.le_refl _,h4,.inr rfl⟩⟩
theorem zy.aB{oc:Nat}{mm m':M}{acc:List UW}{r:Value}(h:zy oc mm acc r)(hx:Ext mm m'):zy oc m' acc r:=⟨hx.cells h.cell,h.ow.aB hx,fun x hx'=>(h.sh x hx').aB hx,h.ln⟩
theorem xV{α:Type}[aL α]{n1:Nat}{l:List α}{v:Value}(h:Ow n1 m l v){a:Addr}{n k:Nat}(e:v=.slice (some a) n k):∃cs g,m.get a.block=.cells cs (aL.ty α) g/\n1<=a.block:=by
 rcases h with⟨rfl,_⟩ |⟨b,cs,rfl,h2,h3,h4,_⟩
 ·cases e
 ·cases e;exact⟨_,_,h4,h3⟩
theorem Je{oc:Nat}{mm:M}{acc:List UW}{r w:Value}{u:Un}(h:zy oc mm acc r)(hw:Sl mm u.shape w)(hl:u.shape.length < 1000000)(hal:acc.length < 1000000):
  ∃m81 r' m83 m85,az TE mm 29 1 [(0,u.v w)]=some (.slice (some ⟨mm.n,0,none⟩) 1 1,m81)/\an TE (M.wl m81 (M.n m81)) .append [29,29] [r,.slice (some ⟨mm.n,0,none⟩) 1 1]=some (r',m83)/\
   aw TE m83 29 (.pointer (some ⟨oc,0+0,none⟩)) r'=some (m85,oc)/\oc+1<=m83.low/\zy oc m85 (acc++ [⟨u,w⟩]) r'/\VR oc mm m85:=by
 have hoc:=M.aV h.cell
 have ow':one w=true:=hw.one
 have hx81:Ext mm (mm.push (.cells (UW.c ⟨u,w⟩) 87 none)):=Ext.refl.push
 refine⟨mm.push (.cells (UW.c ⟨u,w⟩) 87 none),?_⟩
 have hb1:az TE mm 29 1 [(0,u.v w)]=some (.slice (some ⟨mm.n,0,none⟩) 1 1,mm.push (.cells (UW.c ⟨u,w⟩) 87 none)):=oF (x:=⟨u,w⟩)
 generalize hm81:mm.push (.cells (UW.c ⟨u,w⟩) 87 none)=m81 at*
 have hg81:m81.get mm.n=.cells (UW.c ⟨u,w⟩) 87 none:=by rw[<-hm81];exact M.aN
 have n81:m81.n=mm.n+1:=by rw[<-hm81];rfl
 have h81:=h.aB hx81
 obtain⟨r',m83,ha,ho83,hf83,hl83,hn83⟩:=Ow.append (y:=.slice (some ⟨mm.n,0,none⟩) 1 1) (ys:=[(⟨u,w⟩:UW)]) wz (by simp[aL.fR]) h81.ow (kg hg81 ow') (by omega) (by simp;omega)
 have n83:=hf83.n
 have g83:m83.get oc=.cells [r] 31 none:=by rw[hf83.get _ (by omega),h81.cell]
 have hst:=lE (E:=TE) (o:=0+0) (x:=r') FK g83 (by rw[ho83.sl.cells];rfl) (by rw[ho83.sl.cells];simp) (by rw[ho83.sl.cells];simp[ho83.sl.one])
 refine⟨r',m83,_,hb1,ha,hst,hl83,?_⟩
 have hset:∀c,c≠oc->(m83.set oc (.cells (([r]:List Value).take (0+0)++(cells r'++([r]:List Value).drop (0+0+(cells r').length))) 31 none)).get c=m83.get c:=fun c hc=>M.bZ hc
 have g85:(m83.set oc (.cells (([r]:List Value).take (0+0)++(cells r'++([r]:List Value).drop (0+0+(cells r').length))) 31 none)).get oc=.cells [r'] 31 none:=by
  rw[M.dr (M.aV g83),ho83.sl.cells];rfl
 have hnset:(m83.set oc (.cells (([r]:List Value).take (0+0)++(cells r'++([r]:List Value).drop (0+0+(cells r').length))) 31 none)).n=m83.n:=rfl
 generalize m83.set oc (.cells (([r]:List Value).take (0+0)++(cells r'++([r]:List Value).drop (0+0+(cells r').length))) 31 none)=m85 at*
 have bt:∀c,c < m81.n->c≠oc->(∀cs g,m81.get c≠.cells cs 87 g)->m85.get c=m81.get c:=fun c hc hne ht=>by
  rw[hset c hne,fj ha hc fun a n k e he=>?_]
  obtain⟨cs,g,hg,_⟩:=xV h81.ow e
  rw[<-he]at hg
  exact ht _ _ hg
 have keepS:∀(shp:List Pl) (v:Value),Sl m81 shp v->Sl m85 shp v:=fun shp v hs=>hs.bt fun b cs t g hb ht=>by
  have ht:t=98:=by simpa[aL.ty,aL.fR]using ht
  subst ht
  rw[bt b (M.aV hb) (fun e=>by subst e;rw[h81.cell]at hb;cases hb) (fun cs' g' e=>by rw[hb]at e;cases e),hb]
 refine⟨⟨g85,ho83.bt fun b c t g hb ht=>?_,fun x hx=>?_,fun x hx=>?_⟩,⟨by omega,fun c hc=>?_,fun c hc hne ht=>?_⟩⟩
 ·have ht:t=87:=by simpa[aL.ty,aL.fR]using ht
  rw[hset b (fun e=>by subst e;rw[g83]at hb;cases hb;exact absurd ht (by decide)),hb]
 ·rcases List.mem_append.1 hx with hx |hx
  ·exact keepS _ _ (h81.sh x hx)
  ·rw[List.mem_singleton]at hx
   subst hx
   exact keepS _ _ (hw.aB hx81)
 ·rcases List.mem_append.1 hx with hx |hx
  ·exact h.ln x hx
  ·rw[List.mem_singleton]at hx
   subst hx
   exact hl
 ·rw[hset c (by omega),hf83.get c (by omega),hx81.get c (by omega)]
 ·rw[bt c (by omega) hne (fun cs g e=>ht cs g (by rw[<-e,hx81.get c (by omega)])),hx81.get c (by omega)]
theorem mq(hX:cW X){oc:Nat}{mm:M}{acc:List UW}{r w:Value}{u:Un}(h:zy oc mm acc r)(hw:Sl mm u.shape w)(hl:u.shape.length < 1000000)(hal:acc.length < 1000000):
  ∃w' m78 m81 r' m83 m85,C X (.func 57) [u.v w] mm mm.n (u.v w') m78/\az TE m78 29 1 [(0,u.v w')]=some (.slice (some ⟨m78.n,0,none⟩) 1 1,m81)/\
   an TE (M.wl m81 (M.n m81)) .append [29,29] [r,.slice (some ⟨m78.n,0,none⟩) 1 1]=some (r',m83)/\
   aw TE m83 29 (.pointer (some ⟨oc,0+0,none⟩)) r'=some (m85,oc)/\oc+1<=m83.low/\zy oc m85 (acc++ [⟨u,w'⟩]) r'/\VR oc mm m85:=by
 have hoc:=M.aV h.cell
 obtain⟨w',m78,hc,hx78,hs78⟩:=uA hX hw hl
 have n78:=hx78.n
 obtain⟨m81,r',m83,m85,h1,h2,h3,h4,h5,h6⟩:=Je (h.aB hx78) hs78 hl hal
 exact⟨w',m78,m81,r',m83,m85,hc,h1,h2,h3,h4,h5,⟨by have:=h6.n;omega,fun c hc=>by rw[h6.lo c hc,hx78.get c (by omega)],fun c hc hne ht=>by rw[h6.get c (by omega) hne (fun cs g e=>ht cs g (by rw[<-e,hx78.get c hc])),hx78.get c hc]⟩⟩
open Classical in
def nU(l:List UW)(u:Un)(m':M)(rv:Value):Prop:=
 if gM (bV l)=true/\gM (gm u (bV l))=true then∃l' r,rv=.tuple #[.agg #[r],.int .i64 0]/\bV l'=gm u (bV l)/\dS m' l' r else rv=.tuple #[.agg #[.slice none 0 0],.int .i64 120]
theorem nU.no{l:List UW}{u:Un}{m':M}(h:¬(gM (bV l)=true/\gM (gm u (bV l))=true)):nU l u m' (.tuple #[.agg #[.slice none 0 0],.int .i64 120]):=by unfold nU;rw[if_neg h]
theorem nU.yes{l l':List UW}{u:Un}{m':M}{r:Value}(h1:gM (bV l)=true)(h2:gM (gm u (bV l))=true)(h3:bV l'=gm u (bV l))(h4:dS m' l' r):nU l u m' (.tuple #[.agg #[r],.int .i64 0]):=by unfold nU;rw[if_pos ⟨h1,h2⟩];exact⟨l',r,rfl,h3,h4⟩
theorem BS(u:Un)(l:List Un):gm u l≠ []:=by
 cases l with
 |nil=>simp[gm]
 |cons a r=>rw[gm];split <;>simp
set_option maxRecDepth 100000 in
theorem Nd(hX:cW X){l:List UW}{v w:Value}{u:Un}(h:dS m l v)(hlen:l.length < 1000)(hw:Sl m u.shape w)(hul:u.shape.length < 1000000):
  ∃rv m',C X (.func 52) [.agg #[v],u.v w] m m.n rv m'/\Ext m m'/\nU l u m' rv:=by
 have key:∃rv m' b,C X (.func 52) [.agg #[v],u.v w] m b rv m'/\b=m.n/\Ext m m'/\nU l u m' rv:=by
  refine Cl.gen (R:=fun rv m' b=>b=m.n/\Ext m m'/\nU l u m' rv) (hX.no _ rfl) OP rfl ?_
  rw[YW];dsimp only[aI]
  refine au fun m1 hn1 hg1 hk1=>?_
  refine au fun m2 hn2 hg2 hk2=>?_
  refine au fun m3 hn3 hg3 hk3=>?_
  simp only[aP]at hg1 hg2
  have hx3:Ext m m3:=⟨by omega,fun c hc=>by rw[hk3 c (by omega),hk2 c (by omega),hk1 c hc]⟩
  have g1:m3.get m.n=.cells [v] 31 none:=by rw[hk3 _ (by omega),hk2 _ (by omega)];exact hg1
  have g2:m3.get m1.n=.cells (u.c w) 87 none:=by rw[hk3 _ (by omega)];exact hg2
  unfold ptrTo
  rw[cZ,aE g1 (by simp)]
  show ah (some (Value.agg #[v])) _
  rw[aa]
  refine aC (jr hX (h.aB hx3) (by omega)) ?_
  rw[aX,aa,aj]
  have hfail:∀(mm:M) (lo:Nat),(∀c,c < m3.n->mm.get c=m3.get c)->¬(gM (bV l)=true/\gM (gm u (bV l))=true)->m.n<=lo->
    aK (aw TE mm 31 (.pointer (some ⟨m2.n,0,none⟩)) (.agg #[.slice none 0 0])) fun m10 b11=>ah (ag TE m10 31 (.pointer (some ⟨m2.n,0,none⟩))) fun v12=>
     (bD (aR [v12,.int .i64 120])=true/\m.n<=min lo b11/\m.n=m.n/\Ext m m/\nU l u m (aR [v12,.int .i64 120]))\/
     ((bD (aR [v12,.int .i64 120])=false\/min lo b11 < m.n)/\min m.n (min lo b11)=m.n/\Ext m m10/\nU l u m10 (aR [v12,.int .i64 120])):=by
   intro mm lo hk hno hlo
   have g3:mm.get m2.n=.cells [.slice none 0 0] 31 none:=by rw[hk _ (by omega),hg3]
   refine aD kZ g3 rfl rfl rfl fun m10 hn10 hg10 hk10=>?_
   have hg10:m10.get m2.n=.cells [.slice none 0 0] 31 none:=hg10
   rw[cZ,aE hg10 (by simp)]
   show ah (some (Value.agg #[.slice none 0 0])) _
   rw[aa]
   exact .inl ⟨rfl,by omega,rfl,.refl,.no hno⟩
  have bld:aO TE 31 []=some (.agg #[.slice none 0 0]):=Eu
  refine ak (fun hb=>?_) (fun hb=>?_)
  ·have hb:gM (bV l)=false:=by simpa using hb
   rw[bld,aa]
   exact hfail m3 (min m.n m3.n) (fun _ _=>rfl) (fun hh=>by rw[hb]at hh;exact absurd hh.1 (by decide)) (by omega)
  have hfl:gM (bV l)=true:=by simpa using hb
  refine au fun m13 hn13 hg13 hk13=>?_
  obtain⟨oc,hoc⟩:∃oc,oc=m3.n:=⟨_,rfl⟩
  rw[<-hoc]at hg13⊢
  have hx13:Ext m3 m13:=⟨by omega,fun c hc=>hk13 c hc⟩
  refine Lp.intro (γ:=Nat) (fun i=>l.length-i) (fun i vs mm lo=>∃(done:Bool) (acc:List UW) (r:Value),vs=[.bool done,.int .i64 i]/\i<=l.length/\zy oc mm acc r/\(∀c,c < oc->mm.get c=m3.get c)/\m.n<=lo/\m13.n<=mm.n/\
   (done=false->bV acc=(bV l).take i/\∀x∈(bV l).take i,¬u.id < x.id)/\(done=true->bV acc=gm u ((bV l).take i)/\∃x∈(bV l).take i,u.id < x.id)/\acc.length<=i+1) 0
   ⟨false,[],_,rfl,Nat.zero_le _,⟨hg13,.nil,fun x hx=>(by cases hx),fun x hx=>(by cases hx)⟩,fun c hc=>hk13 c (by omega),by omega,Nat.le_refl _,fun _=>⟨rfl,fun x hx=>(by simp at hx)⟩,fun h=>(by cases h),Nat.zero_le _⟩ ?_
  rintro i vs mm lo1 ⟨done,acc,r,rfl,hi,hgr,hk,hlo,hnm,hd0,hd1,hal⟩
  have gf:mm.get m.n=.cells [v] 31 none:=by rw[hk _ (by omega),g1]
  have gu:mm.get m1.n=.cells (u.c w) 87 none:=by rw[hk _ (by omega),g2]
  have hxm:Ext m mm:=⟨by omega,fun c hc=>by rw[hk c (by omega),hx3.get c hc]⟩
  have hF:=h.aB hxm
  have ldF:∀m':M,m'.get m.n=.cells [v] 31 none->ag TE m' 29 (.pointer (some ⟨m.n,0+0,none⟩))=some v:=fun m' h=>by rw[gX,av h];rfl
  have ldO:∀(m':M) acc r,zy oc m' acc r->ag TE m' 29 (.pointer (some ⟨oc,0+0,none⟩))=some r:=fun m' acc r h=>by rw[gX,av h.cell];rfl
  rw[aA,aA,cx,aa,ldF mm gf,aa,hF.sl.len eo,ar,aH,aa,aj]
  refine ak (fun hlt=>?_) (fun hge=>?_)
  ·have hlt:i < l.length:=by simpa using hlt
   obtain⟨x,hx⟩:∃x,l[i]?=some x:=⟨_,List.getElem?_eq_getElem hlt⟩
   have hxm':=List.mem_of_getElem? hx
   have htk:(bV l).take (i+1)=(bV l).take i++ [x.u]:=by rw[List.take_add_one,tF hx];rfl
   refine bY (fun vs m' lo=>vs=[.bool (!done && decide (u.id < x.u.id))]/\mm=m'/\lo1=lo) (fun R hR=>?_) ?_
   ·rw[aX,aa,aj]
    refine ak (fun h1=>?_) (fun h1=>?_)
    ·obtain⟨q,q0,f1,f2,f3⟩:=Bm hF.sl hx
     obtain⟨l0, -⟩:=zv gu
     rw[aa,ldF mm gf,aa,f1,aa,f2,aa,f3,aa,ct,aa,l0,aa,bX,aa]
     exact hR _ _ _ ⟨by rw[h1,Bool.true_and],rfl,rfl⟩
    ·exact hR _ _ _ ⟨by rw[h1,Bool.false_and],rfl,rfl⟩
   rintro _ _ _ ⟨rfl,rfl,rfl⟩
   rw[aA,aj]
   have step:∀(m':M) (acc':List UW) (r':Value),zy oc m' acc' r'->(∀c,c < oc->m'.get c=m3.get c)->m13.n<=m'.n->acc'.length < 100000->
     ∃q w' m78 m81 r'' m83 m85,ai TE 29 v (.int .i64 i)=some q/\ag TE m' 87 q=some x.v/\C X (.func 57) [x.v] m' m'.n (x.u.v w') m78/\az TE m78 29 1 [(0,x.u.v w')]=some (.slice (some ⟨m78.n,0,none⟩) 1 1,m81)/\
      an TE (M.wl m81 (M.n m81)) .append [29,29] [r',.slice (some ⟨m78.n,0,none⟩) 1 1]=some (r'',m83)/\
      aw TE m83 29 (.pointer (some ⟨oc,0+0,none⟩)) r''=some (m85,oc)/\oc+1<=m83.low/\zy oc m85 (acc'++ [⟨x.u,w'⟩]) r''/\(∀c,c < oc->m85.get c=m3.get c)/\m13.n<=m85.n:=by
    intro m' acc' r' hg hk' hn' hal'
    have hxm2:Ext m m':=⟨by omega,fun c hc=>by rw[hk' c (by omega),hx3.get c hc]⟩
    obtain⟨q,q1,q2,_⟩:=(h.aB hxm2).sl.lv (k:=.i64) hx
    obtain⟨w',m78,m81,r'',m83,m85,h1,h2,h3,h4,h5,h6,h7⟩:=mq hX hg ((h.aB hxm2).sh x hxm') (h.ln x hxm') (by omega)
    exact⟨q,w',m78,m81,r'',m83,m85,q1,q2,h1,h2,h3,h4,h5,h6,fun c hc=>by rw[h7.lo c hc,hk' c hc],by have:=h7.n;omega⟩
   refine ak (fun h1=>?_) (fun h1=>?_)
   ·rw[Bool.and_eq_true]at h1
    obtain⟨h1,h2⟩:=h1
    have hdone:done=false:=by simpa using h1
    have hlt2:u.id < x.u.id:=by simpa using h2
    obtain⟨e1,e2⟩:=hd0 hdone
    have hal0:acc.length<=i:=by
     have:=congrArg List.length e1
     rw[dY,List.length_take]at this
     omega
    obtain⟨wa,m45,m48,ra,m50,m52,a1,a2,a3,a4,a5,a6,a7⟩:=mq hX hgr (hw.aB hxm) hul (by omega)
    obtain⟨q,wb,m61,m64,rb,m66,m68,b1,b2,b3,b4,b5,b6,b7,b8,b9,b10⟩:=step m52 _ ra a6 (fun c hc=>by rw[a7.lo c hc,hk c hc]) (by have:=a7.n;omega) (by rw[List.length_append];simp;omega)
    have gf52:m52.get m.n=.cells [v] 31 none:=by rw[a7.lo _ (by omega),gf]
    rw[cx,aa,ldO mm acc r hgr,aa,cU gu,aa]
    refine aC a1 ⟨Nat.le_refl _,?_⟩
    rw[a2,ar,a3,ar,aa,a4,ar,aa,ldO m52 _ _ a6,aa,aa,ldF m52 gf52,aa,b1,aa,b2,aa]
    refine aC b3 ⟨Nat.le_refl _,?_⟩
    rw[b4,ar,b5,ar,aa,b6,ar,aG,aa,wrap64 (by omega) (by omega)]
    have:=a7.n
    refine⟨i+1,by omega,true,_,rb,rfl,by omega,b8,b9,by omega,b10,(fun h=>by cases h),fun _=>⟨?_,x.u,by rw[htk];simp,hlt2⟩,by simp;omega⟩
    rw[htk,vM e2]
    show bV ((acc++ [⟨u,wa⟩])++ [⟨x.u,wb⟩])=_
    unfold bV at e1⊢
    rw[List.map_append,List.map_append,e1]
    simp[gm,hlt2]
   ·obtain⟨q,wb,m78,m81,rb,m83,m85,b1,b2,b3,b4,b5,b6,b7,b8,b9,b10⟩:=step mm _ r hgr hk hnm (by omega)
    rw[cx,aa,ldO mm acc r hgr,aa,aa,ldF mm gf,aa,b1,aa,b2,aa]
    refine aC b3 ⟨Nat.le_refl _,?_⟩
    rw[b4,ar,b5,ar,aa,b6,ar,aG,aa,wrap64 (by omega) (by omega)]
    refine⟨i+1,by omega,done,_,rb,rfl,by omega,b8,b9,by omega,b10,fun hd=>?_,fun hd=>?_,by simp;omega⟩
    ·obtain⟨e1,e2⟩:=hd0 hd
     have hn:¬u.id < x.u.id:=by
      rw[hd,Bool.not_false,Bool.true_and]at h1
      simpa using h1
     refine⟨?_,fun y hy=>?_⟩
     ·rw[htk]
      unfold bV at e1⊢
      rw[List.map_append,e1];rfl
     ·rw[htk]at hy
      rcases List.mem_append.1 hy with hy |hy
      ·exact e2 y hy
      ·rw[List.mem_singleton]at hy;subst hy;exact hn
    ·obtain⟨e1,y,hy,hlt2⟩:=hd1 hd
     refine⟨?_,y,by rw[htk];simp[hy],hlt2⟩
     rw[htk,yR ⟨y,hy,hlt2⟩]
     unfold bV at e1⊢
     rw[List.map_append,e1];rfl
  ·have hi':i=l.length:=by
    have:¬(i:Int)< (l.length:Int):=by simpa using hge
    omega
   subst hi'
   rw[List.take_of_length_le (by rw[dY];exact Nat.le_refl _)]at hd0 hd1
   have fin:∀(m':M) (acc':List UW) (r':Value) (lo':Nat),zy oc m' acc' r'->(∀c,c < oc->m'.get c=m3.get c)->m13.n<=m'.n->m.n<=lo'->bV acc'=gm u (bV l)->acc'.length < 100000->
     C X (.func 61) [.agg #[r']] m' m'.n (.bool (gM (gm u (bV l)))) m'/\ag TE m' 31 (.pointer (some ⟨oc,0,none⟩))=some (.agg #[r'])/\
     (gM (gm u (bV l))=true->aK (aw TE m' 31 (.pointer (some ⟨m2.n,0,none⟩)) (.agg #[r'])) fun m112 b113=>ah (ag TE m112 31 (.pointer (some ⟨m2.n,0,none⟩))) fun v12=>
      (bD (aR [v12,.int .i64 0])=true/\m.n<=min lo' b113/\m.n=m.n/\Ext m m/\nU l u m (aR [v12,.int .i64 0]))\/
      ((bD (aR [v12,.int .i64 0])=false\/min lo' b113 < m.n)/\min m.n (min lo' b113)=m.n/\Ext m m112/\nU l u m112 (aR [v12,.int .i64 0]))):=by
    intro m' acc' r' lo' hg hk' hn' hlo' hus hal'
    refine⟨by rw[<-hus];exact jr hX hg.VO (by omega),by rw[cZ,aE hg.cell (by simp)];rfl,fun hv=>?_⟩
    have g3:m'.get m2.n=.cells [.slice none 0 0] 31 none:=by rw[hk' _ (by omega),hg3]
    refine aD kZ g3 rfl rfl (by show(one r' && true)=true;rw[hg.ow.sl.one];rfl) fun m10 hn10 hg10 hk10=>?_
    have hg10:m10.get m2.n=.cells [r'] 31 none:=hg10
    rw[cZ,aE hg10 (by simp)]
    show ah (some (Value.agg #[r'])) _
    rw[aa]
    have hfab:dS m10 acc' r':=hg.VO.bt fun c cs t g hb ht=>by
     rw[hk10 c (fun e=>by subst e;rw[g3]at hb;cases hb;rcases ht with ht |ht <;>exact absurd ht (by decide)),hb]
    refine .inr ⟨.inl ?_,by omega,⟨by omega,fun c hc=>by rw[hk10 c (by omega),hk' c (by omega),hx3.get c hc]⟩,.yes hfl hv hus hfab⟩
    have hne:acc'≠ []:=fun e=>by
     rw[e]at hus
     exact BS u (bV l) hus.symm
    obtain⟨bb,hv',_⟩:=Own.of hg.ow hne
    rw[hv']
    simp[aR,bD,eV,bP]
   rw[aX,aa,aj]
   refine ak (fun h1=>?_) (fun h1=>?_)
   ·have hdone:done=false:=by simpa using h1
    obtain⟨e1,e2⟩:=hd0 hdone
    obtain⟨wa,m93,m96,ra,m98,m100,a1,a2,a3,a4,a5,a6,a7⟩:=mq hX hgr (hw.aB hxm) hul (by omega)
    have hus:bV (acc++ [⟨u,wa⟩])=gm u (bV l):=by
     have:gm u (bV l++ [])=bV l++gm u []:=vM e2
     rw[List.append_nil]at this
     rw[this]
     unfold bV at e1⊢
     rw[List.map_append,e1];rfl
    have n7:=a7.n
    obtain⟨f1,f2,f3⟩:=fin m100 _ ra (min (min (min lo1 mm.n) m98.low) oc) a6 (fun c hc=>by rw[a7.lo c hc,hk c hc]) (by omega) (by omega) hus (by simp;omega)
    rw[cx,aa,ldO mm acc r hgr,aa,cU gu,aa]
    refine aC a1 ⟨Nat.le_refl _,?_⟩
    rw[a2,ar,a3,ar,aa,a4,ar,f2,aa]
    refine aC f1 ?_
    rw[aX,aa,aj]
    have hmin:min (min (min (min lo1 mm.n) m98.low) oc) m100.n=min (min (min lo1 mm.n) m98.low) oc:=by have:=M.aV a6.cell;omega
    rw[hmin]
    cases hfv:gM (gm u (bV l))with
    |false=>
     rw[Bool.not_false,bJ,bld,aa]
     exact hfail m100 _ (fun c hc=>by rw[a7.lo c (by omega),hk c (by omega)]) (fun hh=>by rw[hfv]at hh;exact absurd hh.2 (by decide)) (by omega)
    |true=>
     rw[Bool.not_true,aM,f2,aa]
     exact f3 hfv
   ·have hdone:done=true:=by simpa using h1
    obtain⟨e1,_⟩:=hd1 hdone
    obtain⟨f1,f2,f3⟩:=fin mm acc r (min lo1 mm.n) hgr hk hnm (by omega) e1 (by omega)
    rw[f2,aa]
    refine aC f1 ?_
    rw[aX,aa,aj]
    cases hfv:gM (gm u (bV l))with
    |false=>
     rw[Bool.not_false,bJ,bld,aa]
     exact hfail mm _ (fun c hc=>hk c (by omega)) (fun hh=>by rw[hfv]at hh;exact absurd hh.2 (by decide)) (by omega)
    |true=>
     rw[Bool.not_true,aM,f2,aa]
     exact f3 hfv
 obtain⟨rv,m',b,hc,rfl,h1,h2⟩:=key
 exact⟨rv,m',hc,h1,h2⟩
end Go.Proofs.YtmdfgncoekfgdaaGreatDoor
namespace Go.Proofs.YtmdfgncoekfgdaaGreatDoor
open Go Go.D
variable {X:aF} {m:M}
structure I6 where
 a:Int
 b:Int
 c:Int
 d:Int
 e:Int
 f:Int
def I6.c'(x:I6):List Value:=[.int .i64 x.a,.int .i64 x.b,.int .i64 x.c,.int .i64 x.d,.int .i64 x.e,.int .i64 x.f]
def I6.ok(x:I6):Prop:=fP x.a/\fP x.b/\fP x.c/\fP x.d/\fP x.e/\fP x.f
instance:aL I6 where
 ty:=85
 sz:=6
 agg:=true
 fR:=[]
 rep _ x cs:=cs=x.c'
 pos:=by decide
 one:=by intro h;cases h
 len:=by rintro _ _ _ rfl;rfl
 nB:=by rintro _ _ _ rfl;rfl
 bt:=by rintro _ _ _ _ rfl _;rfl
theorem zM:uF TE 22 85 I6:=⟨af.t22,af.t85,by kernel_rfl,⟨_,rfl⟩,rfl,by kernel_rfl,rfl,rfl⟩
theorem N5{l:List I6}{v:Value}(h:iV m l v){i:Nat}{x:I6}(hx:l[i]?=some x):∃b o,ai TE 22 v (.int .i64 i)=some (.pointer (some ⟨b,o,none⟩))/\ag TE m 85 (.pointer (some ⟨b,o,none⟩))=some (.agg x.c'.toArray)/\ag TE m 3 (.pointer (some ⟨b,o+5,none⟩))=some (.int .i64 x.f):=by
 obtain⟨p,cs,e1,e2,e3⟩:=h.index zM (k:=.i64) hx
 have e3:cs=x.c':=e3
 subst e3
 have hlt:=(List.getElem?_eq_some_iff.1 hx).1
 rcases h with h |h
 ·obtain⟨b,o,bc,g,cs,f1,hb,hr,hle,hj⟩:=h.kQ zM (k:=.i64) hx
  have hr:cs=x.c':=hr
  subst hr
  rw[e1]at f1
  cases f1
  refine⟨b,o,e1,e2,?_⟩
  rw[bu,av hb,hj 5 (by decide)];rfl
 ·rcases h with⟨_,rfl⟩ |⟨b,o,c,bc,rfl,hb,hel⟩
  ·simp at hx
  ·obtain⟨hle,hr⟩:=hel i x hx
   have hr:(bc.drop (o+i*6)).take 6=x.c':=hr
   have f1:ai TE 22 (.slice (some ⟨b,o,none⟩) l.length c) (.int .i64 i)=some (.pointer (some ⟨b,o+i*6,none⟩)):=by
    have hc:0<=(i:Int)/\(i:Int)< (l.length:Int)/\0 < af.t22.es:=⟨by omega,by omega,by decide⟩
    have hd:af.t22.d=.slice 85:=rfl
    simp only[ai,NS,hd]
    rw[if_pos hc,bC rfl];rfl
   rw[e1]at f1
   cases f1
   refine⟨b,o+i*6,e1,e2,?_⟩
   have h5:bc[o+i*6+5]?=some (.int .i64 x.f):=by
    have:=congrArg (·[5]?) hr
    simp only[List.getElem?_take_of_lt (show 5 < 6 by decide),List.getElem?_drop]at this
    rw[this];rfl
   rw[bu,uC hb h5 rfl]
set_option maxRecDepth 100000 in
theorem Dw(hX:cW X){xs:List I6}{v:Value}(hv:iV m xs v)(hok:∀x∈xs,x.ok)(hlen:xs.length < 9223372036854775808):
  ∃l r m',C X (.func 9) [v] m m.n (.agg #[r]) m'/\Ext m m'/\dS m' l r/\cB (bV l):=by
 have key:∃rv m' b,C X (.func 9) [v] m b rv m'/\b=m.n/\Ext m m'/\∃l r,rv=.agg #[r]/\dS m' l r/\cB (bV l):=by
  refine Cl.gen (R:=fun rv m' b=>b=m.n/\Ext m m'/\∃l r,rv=.agg #[r]/\dS m' l r/\cB (bV l)) (hX.no _ rfl) QJ rfl ?_
  rw[F9];dsimp only[aI]
  refine au fun m1 hn1 hg1 hk1=>?_
  refine au fun m2 hn2 hg2 hk2=>?_
  have hx2:Ext m m2:=⟨by omega,fun c hc=>by rw[hk2 c (by omega),hk1 c hc]⟩
  have g1:m2.get m.n=.cells [.slice none 0 0] 31 none:=by rw[hk2 _ (by omega),hg1]
  have fab0:∀mm:M,dS mm [] (.slice none 0 0):=fun mm=>⟨.nil,fun x hx=>(by cases hx),fun x hx=>(by cases hx),.inl rfl⟩
  have fabp0:cB (bV []):=⟨by simp[bV],fun u hu=>(by simp[bV]at hu),fun i a b ha=>(by simp[bV]at ha),fun i k a b _ ha=>(by simp[bV]at ha)⟩
  unfold ptrTo
  refine Lp.intro (γ:=Nat) (fun i=>12-i) (fun i vs mm lo=>∃l r,vs=[.int .i64 i]/\i<=12/\Ext m mm/\m2.n<=mm.n/\mm.get m.n=.cells [.slice none 0 0] 31 none/\mm.get m1.n=.cells [r] 31 none/\dS mm l r/\cB (bV l)/\m.n<=lo/\(l=[]->r=.slice none 0 0)) 0
   ⟨[],_,rfl,by omega,hx2,Nat.le_refl _,g1,hg2,fab0 _,fabp0,Nat.le_refl _,fun _=>rfl⟩ ?_
  rintro i vs mm lo ⟨l,r,rfl,hi,hx,hnm,ga,gb,hF,hP,hlo,hnil⟩
  have hll:l.length<=12:=by have:=hP.len;rwa[dY]at this
  rw[aA]
  refine bY (fun vs m' lo'=>vs=[.bool (decide (i < xs.length) && decide (i < 12))]/\mm=m'/\lo=lo') (fun R hR=>?_) ?_
  ·rw[(hv.aB hx).len zM,ar,aH,aa,aj]
   refine ak (fun h=>?_) (fun h=>?_)
   ·have h:i < xs.length:=by simpa using h
    rw[aH,aa]
    refine hR _ _ _ ⟨?_,rfl,rfl⟩
    rw[decide_eq_true h,Bool.true_and]
    congr 2
    rw[decide_eq_decide];omega
   ·have h:¬i < xs.length:=by simpa using h
    exact hR _ _ _ ⟨by rw[decide_eq_false h];rfl,rfl,rfl⟩
  rintro _ _ _ ⟨rfl,rfl,rfl⟩
  rw[aA,aj]
  have ldF:∀(m':M) (b:Nat) (r:Value),m'.get b=.cells [r] 31 none->ag TE m' 31 (.pointer (some ⟨b,0,none⟩))=some (.agg #[r]):=fun m' b r h=>by rw[cZ,aE h (by simp)];rfl
  refine ak (fun h=>?_) (fun h=>?_)
  ·simp only[Bool.and_eq_true,decide_eq_true_eq]at h
   obtain⟨hix,hi12⟩:=h
   obtain⟨x,hxi⟩:∃x,xs[i]?=some x:=⟨_,List.getElem?_eq_getElem hix⟩
   obtain⟨k0,k1,k2,k3,k4,k5⟩:=hok x (List.mem_of_getElem? hxi)
   obtain⟨b,o,e1,e2,e3⟩:=N5 (hv.aB hx) hxi
   have e4:ai TE 85 (.pointer (some ⟨b,o,none⟩)) (.int .i64 5)=some (.pointer (some ⟨b,o+5,none⟩)):=LL (i:=5) (by decide)
   rw[ldF mm _ _ gb,aa,cA,aa,e1,aa,e4,aa,e3,aa]
   refine aC (cR hX k5 (by decide)) ⟨Nat.le_refl _,?_⟩
   rw[aG,aa,aa,e2,aa]
   obtain⟨u,w,m30,hc30,hx30,hs30,hl30⟩:=Ip (m:=mm) hX (jj _) k0 k1 k2 k3 k4 k5
   refine aC hc30 ⟨Nat.le_refl _,?_⟩
   obtain⟨rv,m33,hc33,hx33,hr33⟩:=Nd (m:=m30) hX (hF.aB hx30) (by omega) hs30 (by omega)
   refine aC hc33 ⟨Nat.le_refl _,?_⟩
   have n30:=hx30.n
   have n33:=hx33.n
   have hx333:=hx30.trans hx33
   by_cases hc:gM (bV l)=true/\gM (gm u (bV l))=true
   ·unfold nU at hr33
    rw[if_pos hc]at hr33
    obtain⟨l',r',rfl,hus,hF'⟩:=hr33
    rw[bw,bw]
    simp only[List.getElem?_cons_zero,List.getElem?_cons_succ,aa]
    refine au fun m37 hn37 hg37 hk37=>?_
    have or:one r'=true:=hF'.sl.one
    refine aD kZ hg37 rfl rfl (by show(one r' && true)=true;rw[or];rfl) fun vv hn38 hg38 hk38=>?_
    have hg38:vv.get m33.n=.cells [r'] 31 none:=hg38
    have hx38:Ext m33 vv:=⟨by omega,fun c hc=>by rw[hk38 c (by omega),hk37 c hc]⟩
    rw[bE,aa,aj,decide_eq_true rfl,bJ,ldF vv _ _ hg38,aa]
    have gb38:vv.get m1.n=.cells [r] 31 none:=hx38.cells (hx333.cells gb)
    refine aD kZ gb38 rfl rfl (by show(one r' && true)=true;rw[or];rfl) fun m42 hn42 hg42 hk42=>?_
    have hg42:m42.get m1.n=.cells [r'] 31 none:=hg42
    rw[aG,aa,wrap64 (by omega) (by omega)]
    refine⟨i+1,by omega,l',r',rfl,by omega,⟨by have:=hx.n;omega,fun c hc=>by rw[hk42 c (by omega),hx38.get c (by have:=hx.n;omega),hx333.get c (by have:=hx.n;omega),hx.get c hc]⟩,by omega,?_,hg42,?_,?_,by have:=hx.n;omega,fun e=>?_⟩
    ·rw[hk42 _ (by omega),hx38.get _ (by omega),hx333.get _ (by omega),ga]
    ·exact(hF'.aB hx38).bt fun c cs t g hb ht=>by
      rw[hk42 c (fun e=>by subst e;rw[gb38]at hb;cases hb;rcases ht with ht |ht <;>exact absurd ht (by decide)),hb]
    ·rw[hus];exact kp.1 hc.2
    ·rw[e]at hus
     exact absurd hus.symm (BS u _)
   ·unfold nU at hr33
    rw[if_neg hc]at hr33
    subst hr33
    rw[bw,bw]
    simp only[List.getElem?_cons_zero,List.getElem?_cons_succ,aa]
    refine au fun m37 hn37 hg37 hk37=>?_
    refine aD kZ hg37 rfl rfl rfl fun vv hn38 hg38 hk38=>?_
    have hx38:Ext m33 vv:=⟨by omega,fun c hc=>by rw[hk38 c (by omega),hk37 c hc]⟩
    rw[bE,aa,aj,show decide ((120:Int)=0)=false from rfl,aM,aG,aa,wrap64 (by omega) (by omega)]
    have hxx:=hx333.trans hx38
    exact⟨i+1,by omega,l,r,rfl,by omega,hx.trans hxx,by have:=hxx.n;omega,hxx.cells ga,hxx.cells gb,hF.aB hxx,hP,by have:=hx.n;omega,hnil⟩
  ·rw[ldF mm _ _ gb,aa]
   have or:one r=true:=hF.sl.one
   refine aD kZ ga rfl rfl (by show(one r && true)=true;rw[or];rfl) fun m47 hn47 hg47 hk47=>?_
   have hg47:m47.get m.n=.cells [r] 31 none:=hg47
   rw[ldF m47 _ _ hg47,aa]
   have hF47:dS m47 l r:=hF.bt fun c cs t g hb ht=>by
    rw[hk47 c (fun e=>by subst e;rw[ga]at hb;cases hb;rcases ht with ht |ht <;>exact absurd ht (by decide)),hb]
   have hx47:Ext m m47:=⟨by have:=hx.n;omega,fun c hc=>by rw[hk47 c (by omega),hx.get c hc]⟩
   by_cases hl:l=[]
   ·have hr:=hnil hl
    subst hl
    subst hr
    exact .inl ⟨rfl,by omega,rfl,.refl,[],_,rfl,fab0 m,fabp0⟩
   ·refine .inr ⟨.inl ?_,by omega,hx47,l,r,rfl,hF47,hP⟩
    rcases hF.cap with h |⟨bb,o,c,bc,g,rfl,_⟩
    ·exact absurd h hl
    ·simp[aR,bD,eV,bP]
 obtain⟨rv,m',b,hc,rfl,h1,l,r,rfl,h2,h3⟩:=key
 exact⟨l,r,m',hc,h1,h2,h3⟩
end Go.Proofs.YtmdfgncoekfgdaaGreatDoor
namespace Go.Proofs.YtmdfgncoekfgdaaGreatDoor
open Go Go.D Go.ChangeShapes Go.WideShapes Go.ChangeAt Go.RowKit
theorem uM:Tryz.prog.underlying 22=some (.slice 85):=by kernel_rfl
theorem NQ:Tryz.prog.underlying 85=some (.array 6 3):=by kernel_rfl
section
variable {H:Type} {enc:TypeId×Value->H} {W W':World} {sp:Nat->Bool} {held:Bool} {base:Nat}
theorem ML:∀fuel cs x,DataW.trod enc Tryz.prog W 0 sp held fuel 85 cs=some x->∃y:I6,y.ok/\(∀m,aL.rep m y cs)/\∀u∈cs,bP u=true:=by
 intro fuel cs x h
 obtain⟨l,rfl,hl,hr⟩:=vK NQ (by kernel_rfl) h
 match l,hl,hr with
 |[a,b,c,d,e,f],_,hr=>
  refine⟨⟨a,b,c,d,e,f⟩,⟨hr _ (by simp),hr _ (by simp),hr _ (by simp),hr _ (by simp),hr _ (by simp),hr _ (by simp)⟩,fun m=>rfl,fun u hu=>?_⟩
  obtain⟨z,_,rfl⟩:=List.mem_map.1 hu
  rfl
set_option maxRecDepth 100000 in
theorem FT{v:Value}{d:DataW H}{ps:List MemPlace}(hok:Value.okWide Tryz.prog W .any base 22 v)(h:DataW.Trod enc Tryz.prog W 0 sp held 22 v d ps):
  aJ (lx W) v v/\∃l:List I6,zx (dU W) l v/\l.length < 9223372036854775808/\∀y∈l,y.ok:=by
 simp only[Value.okWide,uM]at hok
 obtain⟨fuel,h⟩:=h
 have hv:v.cells.toList=[v]:=by
  cases v with
  |agg cs=>
   exfalso
   revert hok
   simp[Cell.okWide,Cell.ok,uM]
  |_=>rfl
 rw[hv]at h
 obtain⟨a,l,b,c,d⟩:=zO (α:=I6) (v:=v) uM (by kernel_rfl) ML hok h
 exact⟨a,l,b,c,d⟩
theorem IY{v:Value}{d:DataW H}{ps:List MemPlace}(hb:Below W.heap.size W W')(h:DataW.Trod enc Tryz.prog W 0 (fun _=>true) true 22 v d ps)(hlt:∀x∈ps,x.block < W.heap.size)(sp:Nat->Bool)(hs:∀x∈ps,sp x.block=true):DataW.Trod enc Tryz.prog W' 0 sp true 22 v d ps:=
 WideElems.Trod_stays laidOut (by kernel_rfl) (of_decide_eq_true (by kernel_rfl)) h (fun x hx=>hb.same (hlt x hx)) hs
end
end Go.Proofs.YtmdfgncoekfgdaaGreatDoor
namespace Go.Proofs.YtmdfgncoekfgdaaGreatDoor
open Go Go.D Go.ChangeShapes Go.WideShapes Go.ChangeAt Go.RowKit
theorem zF:Tryz.prog.underlying 5=some (.int .u8):=by kernel_rfl
section
variable {H:Type} {enc:TypeId×Value->H} {W W':World} {sp:Nat->Bool} {held:Bool} {base:Nat}
set_option maxRecDepth 100000 in
theorem JP{v:Value}{d:DataW H}{ps:List MemPlace}(hok:Value.okWide Tryz.prog W .any base 5 v)(h:DataW.Trod enc Tryz.prog W 0 sp held 5 v d ps):
  aJ (lx W) v v/\∃c:UInt8,v=.int .u8 c.toNat:=by
 obtain⟨fuel,h⟩:=h
 obtain⟨z,hz,_,hwf⟩:=DataW.trod_int zF h
 have hv:v=.int .u8 z:=by
  simp only[Value.okWide,zF]at hok
  cases v with
  |agg cs=>
   exfalso
   revert hok
   simp[Cell.okWide,Cell.ok,zF]
  |int k n=>simpa[Value.cells]using hz
  |_=>simp[Value.cells]at hz
 subst hv
 have hmm:IntKind.u8.min=0/\IntKind.u8.max=255:=⟨by decide,by decide⟩
 simp only[Lit.wf,Bool.and_eq_true,decide_eq_true_eq,hmm]at hwf
 refine⟨aJ.eb rfl,UInt8.ofNat z.toNat,?_⟩
 have:((UInt8.ofNat z.toNat).toNat:Int)=z:=by rw[UInt8.toNat_ofNat'];omega
 rw[this]
end
section
variable {H:Type} {enc:TypeId×Value->H} {W W':World} {v:Value} {d:DataW H} {ps:List MemPlace}
theorem Lm(hb:Below W.heap.size W W')(h:DataW.Trod enc Tryz.prog W 0 (fun _=>true) true 5 v d ps)(hlt:∀x∈ps,x.block < W.heap.size)(sp:Nat->Bool)(hs:∀x∈ps,sp x.block=true):DataW.Trod enc Tryz.prog W' 0 sp true 5 v d ps:=
 WideElems.Trod_stays laidOut (by kernel_rfl) (of_decide_eq_true (by kernel_rfl)) h (fun x hx=>hb.same (hlt x hx)) hs
end
end Go.Proofs.YtmdfgncoekfgdaaGreatDoor
namespace Go.Proofs.YtmdfgncoekfgdaaGreatDoor
open Go Go.D
set_option maxRecDepth 100000 in
theorem Yy{W:Words}{x0 x1:Value}{m:M}{R:List Value->M->Nat->Prop}:dt TE W Tryz.f76 [x0,x1] m R=
(W.bz (.func 141) [x0] m fun a b c=>ah (lO x0) fun d=>W.ah (ae TE 142 d 1) fun f=>W.ah (ag TE b 52 f) fun g=>W.aK (az TE b 52 1 [(0,x1)]) fun h i=>W.aK (an TE (M.wl i i.n) .append [52,52] [g,h]) fun j k=>ah (lO x0) fun l=>W.ah (ae TE 142 l 1) fun n=>W.aK (aw TE k 52 n j) fun o p=>R [.nilIface] o (min (min (min m.n c) (M.low k)) p)):=by kernel_rfl
set_option maxRecDepth 100000 in
theorem Yz{W:Words}{x0 x1:Value}{m:M}{R:List Value->M->Nat->Prop}:dt TE W Tryz.f75 [x0,x1] m R=
(W.bz (.func 141) [x0] m fun a b c=>ah (lO x0) fun d=>W.ah (ae TE 142 d 1) fun f=>W.ah (ag TE b 52 f) fun g=>W.aK (an TE (M.wl b b.n) .append [52,9] [g,x1]) fun h i=>ah (lO x0) fun j=>W.ah (ae TE 142 j 1) fun k=>W.aK (aw TE i 52 k h) fun l n=>W.aK (an TE l .len [9] [x1]) fun o _=>R [o,.nilIface] l (min (min (min m.n c) (M.low i)) n)):=by kernel_rfl
set_option maxRecDepth 100000 in
theorem Yr{W:Words}{x0 x1:Value}{m:M}{R:List Value->M->Nat->Prop}:dt TE W Tryz.f85 [x0,x1] m R=
(W.bz (.func 144) [x0,x1,(.int .i64 0),(.int .i64 (-1))] m fun a b c=>R [a] b (min m.n c)):=by kernel_rfl
set_option maxRecDepth 100000 in
theorem YA{W:Words}{x0:Value}{m:M}{R:List Value->M->Nat->Prop}:dt TE W Tryz.f74 [x0] m R=
(W.bW (M.push m (.cells (cells x0) 27 none)) fun a=>R [(.func (.func 140) #[] #[(ptrTo m.n)])] a m.n):=by kernel_rfl
set_option maxRecDepth 100000 in
theorem Re{W:Words}{x0 x1:Value}{m:M}{R:List Value->M->Nat->Prop}:dt TE W Tryz.f140 [x0,x1] m R=
(W.ah (ae TE 27 x1 2) fun a=>W.ah (ag TE m 25 a) fun b=>W.Lp (fun c d f g=>W.un d fun h i=>W.aK (an TE f .len [25] [h]) fun j _=>W.ah (aq TE .gtr 3 j (.int .i64 0)) fun k=>aW k
(W.ah (ae TE 27 x1 0) fun l=>W.ah (ag TE f 3 l) fun n=>W.ah (slice? TE f 25 h none (some n) none) fun o=>oG x0 fun p q r=>W.bz p (q.toList++([o]++r.toList)) f fun s t u=>W.ah (fK .not s) fun v=>aW v
(R [] t (min g u))
(W.ah (ae TE 27 x1 0) fun w=>W.ah (ag TE t 3 w) fun y=>W.ah (slice? TE t 25 h (some y) none none) fun z=>c [z] t (min g u)))
(R [] f g)) [b] m m.n):=by kernel_rfl
set_option maxRecDepth 100000 in
theorem Yx{W:Words}{x0:Value}{m:M}{R:List Value->M->Nat->Prop}:dt TE W Tryz.f78 [x0] m R=
(W.aK (an TE m .len [42] [x0]) fun a _=>W.ah (aq TE .sub 3 a (.int .i64 1)) fun b=>W.Lp (fun c d f g=>W.un d fun h i=>W.un i fun j k=>W.ah (aq TE .lss 3 h j) fun l=>aW l
(W.ah (ai TE 42 x0 j) fun n=>W.ah (ag TE f 9 n) fun o=>W.ah (ai TE 42 x0 h) fun p=>W.ah (ag TE f 9 p) fun q=>W.ah (ai TE 42 x0 h) fun r=>W.aK (aw TE f 9 r o) fun s t=>W.ah (ai TE 42 x0 j) fun u=>W.aK (aw TE s 9 u q) fun v w=>W.ah (aq TE .add 3 h (.int .i64 1)) fun y=>W.ah (aq TE .sub 3 j (.int .i64 1)) fun z=>c [y,z] v (min (min g t) w))
(R [] f g)) [(.int .i64 0),b] m m.n):=by kernel_rfl
set_option maxRecDepth 100000 in
theorem VT{W:Words}{x0:Value}{m:M}{R:List Value->M->Nat->Prop}:dt TE W Tryz.f23 [x0] m R=
(W.bW (M.push m (.cells (cells x0) 27 none)) fun a=>W.ah (ag TE a 27 (ptrTo m.n)) fun b=>W.bz (.func 25) [b] a fun c d f=>W.ah (fK .not c) fun g=>aW g
(R [(.string ⟨#[]⟩),(.int .i64 410)] d (min m.n f))
(W.bW (M.push d (.cells [(.slice none 0 0)] 42 none)) fun h=>W.ah (ag TE h 27 (ptrTo m.n)) fun i=>W.bz (.func 74) [i] h fun j k l=>oG j fun n o p=>W.RF n o.toList p.toList k (min (min m.n f) l) (fun q r s=>W.un q fun t u=>W.zD u (W.Kq k.n r r fun v=>W.bW (M.push v (.cells [(.pointer none),(.slice none 0 0)] 142 none)) fun w=>W.aK (an TE w .len [25] [t]) fun y _=>W.Lp (fun z A B C=>W.un A fun D E=>W.ah (aq TE .lss 3 D y) fun F=>aW F
(W.ah (ai TE 25 t D) fun G=>W.ah (ag TE B 3 G) fun H=>W.ah (aq TE .lss 3 H (.int .i64 0)) fun I=>aW I
(W.bz (.func 75) [(ptrTo v.n),(.string ⟨#[46,46]⟩)] B fun J K L=>W.ah (aq TE .add 3 D (.int .i64 1)) fun N=>z [N] K (min C L))
(W.ah (aq TE .quo 3 H (.int .i64 10)) fun O=>W.ah (aq TE .add 3 (.int .i64 48) O) fun P=>W.ah (tb TE B 3 5 P) fun Q=>W.bz (.func 76) [(ptrTo v.n),Q] B fun S T U=>W.ah (aq TE .rem 3 H (.int .i64 10)) fun V=>W.ah (aq TE .add 3 (.int .i64 48) V) fun X=>W.ah (tb TE T 3 5 X) fun Y=>W.bz (.func 76) [(ptrTo v.n),Y] T fun Z a0 a1=>W.ah (aq TE .add 3 D (.int .i64 1)) fun a2=>z [a2] a0 (min (min C U) a1)))
(W.ah (ag TE B 42 (ptrTo d.n)) fun a3=>W.bz (.func 77) [(ptrTo v.n)] B fun a4 a5 a6=>((M.n B<=a6)\/(sS B [(ptrTo v.n)]=some a6/\(fq (some (.v (ptrTo d.n))) a6/\True)))/\(W.ah (aq TE .add 9 a4 (.string ⟨#[10]⟩)) fun a7=>W.aK (az TE a5 42 1 [(0,a7)]) fun a8 a9=>W.aK (an TE (M.wl a9 a9.n) .append [42,42] [a3,a8]) fun b0 b1=>W.aK (aw TE b1 42 (ptrTo d.n) b0) fun b2 b3=>s v .normal b2 (min (min (min C a6) (M.low b1)) b3)))) [(.int .i64 0)] w (min r.n k.n))) (fun b4 b5=>W.ah (ag TE b4 42 (ptrTo d.n)) fun b6=>W.bz (.func 78) [b6] b4 fun b7 b8 b9=>W.ah (ag TE b8 42 (ptrTo d.n)) fun c0=>W.bz (.func 79) [c0,(.string ⟨#[]⟩)] b8 fun c1 c2 c3=>R [c1,(.int .i64 0)] c2 (min (min b5 b9) c3)) [])):=by kernel_rfl
set_option maxRecDepth 100000 in
theorem Ys{W:Words}{x0:Value}{m:M}{R:List Value->M->Nat->Prop}:dt TE W Tryz.f84 [x0] m R=
(W.jn (fun a=>W.ah (aq TE .leq 5 (.int .u8 48) x0) fun b=>aW b
(W.ah (aq TE .leq 5 x0 (.int .u8 57)) fun c=>a [c] m m.n)
(a [(.bool false)] m m.n))
(fun d f g=>W.un d fun h i=>R [h] f g)):=by kernel_rfl
set_option maxRecDepth 100000 in
theorem YY{W:Words}{x0:Value}{m:M}{R:List Value->M->Nat->Prop}:dt TE W Tryz.f28 [x0] m R=
(W.bW (M.push m (.cells [(.int .i64 0),(.int .i64 0),(.slice none 0 0)] 27 none)) fun a=>W.bz (.func 85) [x0,(.string ⟨#[10]⟩)] a fun b c d=>W.aK (an TE c .len [42] [b]) fun f _=>W.ah (aq TE .sub 3 f (.int .i64 1)) fun g=>W.jn (fun h=>W.ah (ai TE 42 b g) fun i=>W.ah (ag TE c 9 i) fun j=>W.ah (aq TE .neq 9 j (.string ⟨#[]⟩)) fun k=>aW k
(h [(.bool true)] c (min m.n d))
(W.ah (aq TE .lss 3 g (.int .i64 1)) fun l=>aW l
(h [(.bool true)] c (min m.n d))
(W.ah (aq TE .gtr 3 g (.int .i64 40)) fun n=>aW n
(h [(.bool true)] c (min m.n d))
(W.ah (ai TE 42 b (.int .i64 0)) fun o=>W.ah (ag TE c 9 o) fun p=>W.aK (an TE c .len [9] [p]) fun q _=>W.ah (aq TE .rem 3 q (.int .i64 2)) fun r=>W.ah (aq TE .neq 3 r (.int .i64 0)) fun s=>h [s] c (min m.n d)))))
(fun t u v=>W.un t fun w y=>aW w
(W.ah (aO TE 27 []) fun z=>W.aK (aw TE u 27 (ptrTo m.n) z) fun A B=>ah (ag TE A 27 (ptrTo m.n)) fun C=>R [C,(.int .i64 410)] A (min v B))
(W.ah (ai TE 42 b (.int .i64 0)) fun D=>W.ah (ag TE u 9 D) fun E=>W.aK (an TE u .len [9] [E]) fun F _=>W.ah (aq TE .quo 3 F (.int .i64 2)) fun G=>W.ah (aO TE 27 [(0,G),(1,g)]) fun H=>W.bW (M.push u (.cells [(.int .i64 0),(.int .i64 0),(.slice none 0 0)] 27 none)) fun I=>W.aK (aw TE I 27 (ptrTo u.n) H) fun J K=>W.ah (aq TE .sub 3 g (.int .i64 1)) fun L=>W.Lp (fun N O P Q=>W.un O fun S T=>W.un T fun U V=>W.ah (aq TE .geq 3 U (.int .i64 0)) fun X=>aW X
(W.ah (ai TE 42 b U) fun Y=>W.ah (ag TE P 9 Y) fun Z=>W.aK (an TE P .len [9] [Z]) fun a0 _=>W.ah (ae TE 27 (ptrTo u.n) 0) fun a1=>W.ah (ag TE P 3 a1) fun a2=>W.ah (aq TE .mul 3 (.int .i64 2) a2) fun a3=>W.ah (aq TE .neq 3 a0 a3) fun a4=>aW a4
(W.ah (aO TE 27 []) fun a5=>W.aK (aw TE P 27 (ptrTo m.n) a5) fun a6 a7=>ah (ag TE a6 27 (ptrTo m.n)) fun a8=>R [a8,(.int .i64 410)] a6 (min Q a7))
(W.ah (ai TE 42 b U) fun a9=>W.ah (ag TE P 9 a9) fun b0=>W.Lp (fun b1 b2 b3 b4=>W.un b2 fun b5 b6=>W.un b6 fun b7 b8=>W.aK (an TE b3 .len [9] [b7]) fun b9 _=>W.ah (aq TE .gtr 3 b9 (.int .i64 0)) fun c0=>aW c0
(W.ah (slice? TE b3 9 b7 none (some (.int .i64 2)) none) fun c1=>W.ah (aq TE .eql 9 c1 (.string ⟨#[46,46]⟩)) fun c2=>aW c2
(W.ah (ae TE 27 (ptrTo u.n) 2) fun c3=>W.ah (ag TE b3 25 c3) fun c4=>W.aK (az TE b3 25 1 [(0,(.int .i64 (-1)))]) fun c5 c6=>W.aK (an TE (M.wl c6 c6.n) .append [25,25] [c4,c5]) fun c7 c8=>W.ah (ae TE 27 (ptrTo u.n) 2) fun c9=>W.aK (aw TE c8 25 c9 c7) fun d0 d1=>W.ah (slice? TE d0 9 b7 (some (.int .i64 2)) none none) fun d2=>b1 [b5,d2] d0 (min (min b4 (M.low c8)) d1))
(W.jn (fun d3=>W.ah (index? TE 9 b7 (.int .i64 0)) fun d4=>W.bz (.func 84) [d4] b3 fun d5 d6 d7=>aW d5
(W.ah (index? TE 9 b7 (.int .i64 1)) fun d8=>W.bz (.func 84) [d8] d6 fun d9 g0 g1=>d3 [d9] g0 (min (min b4 d7) g1))
(d3 [(.bool false)] d6 (min b4 d7)))
(fun g2 g3 g4=>W.un g2 fun g5 g6=>aW g5
(W.ah (ae TE 27 (ptrTo u.n) 2) fun g7=>W.ah (ag TE g3 25 g7) fun g8=>W.ah (index? TE 9 b7 (.int .i64 0)) fun g9=>W.ah (aq TE .sub 5 g9 (.int .u8 48)) fun h0=>W.ah (tb TE g3 5 3 h0) fun h1=>W.ah (aq TE .mul 3 (.int .i64 10) h1) fun h2=>W.ah (index? TE 9 b7 (.int .i64 1)) fun h3=>W.ah (aq TE .sub 5 h3 (.int .u8 48)) fun h4=>W.ah (tb TE g3 5 3 h4) fun h5=>W.ah (aq TE .add 3 h2 h5) fun h6=>W.aK (az TE g3 25 1 [(0,h6)]) fun h7 h8=>W.aK (an TE (M.wl h8 h8.n) .append [25,25] [g8,h7]) fun h9 i0=>W.ah (ae TE 27 (ptrTo u.n) 2) fun i1=>W.aK (aw TE i0 25 i1 h9) fun i2 i3=>W.ah (slice? TE i2 9 b7 (some (.int .i64 2)) none none) fun i4=>b1 [b5,i4] i2 (min (min g4 (M.low i0)) i3))
(W.ah (aO TE 27 []) fun i5=>W.aK (aw TE g3 27 (ptrTo m.n) i5) fun i6 i7=>ah (ag TE i6 27 (ptrTo m.n)) fun i8=>R [i8,(.int .i64 410)] i6 (min g4 i7)))))
(W.ah (aq TE .sub 3 U (.int .i64 1)) fun i9=>N [b5,i9] b3 b4)) [S,b0] P Q))
(W.ah (ag TE P 27 (ptrTo u.n)) fun j0=>W.bz (.func 25) [j0] P fun j1 j2 j3=>W.ah (fK .not j1) fun j4=>aW j4
(W.ah (aO TE 27 []) fun j5=>W.aK (aw TE j2 27 (ptrTo m.n) j5) fun j6 j7=>ah (ag TE j6 27 (ptrTo m.n)) fun j8=>R [j8,(.int .i64 410)] j6 (min (min Q j3) j7))
(W.ah (ag TE j2 27 (ptrTo u.n)) fun j9=>W.aK (aw TE j2 27 (ptrTo m.n) j9) fun k0 k1=>ah (ag TE k0 27 (ptrTo m.n)) fun k2=>R [k2,(.int .i64 0)] k0 (min (min Q j3) k1)))) [(.int .i64 0),L] J (min v K)))):=by kernel_rfl
end Go.Proofs.YtmdfgncoekfgdaaGreatDoor
namespace Go.D
open Go
def nT(m:M)(b k:Nat):Prop:=(∃cs te g,m.get b=.cells cs te g/\(g=none\/g=some k))\/∃cs,m.get b=.ro cs
theorem nT.lt{m:M}{b k:Nat}(h:nT m b k):b < m.n:=by
 rcases Nat.lt_or_ge b m.n with hl |hg
 ·exact hl
 ·rcases h with⟨cs,te,g,h,_⟩ |⟨cs,h⟩
  ·rw[M.gL hg]at h;cases h
  ·rw[M.gL hg]at h;cases h
theorem nT.of{m m1:M}{b k:Nat}(h:nT m b k)(e:m1.get b=m.get b):nT m1 b k:=by
 unfold nT at h⊢
 rw[e]
 exact h
theorem nT.aB{m m1:M}{b k:Nat}(h:nT m b k)(he:Ext m m1):nT m1 b k:=h.of (he.get b h.lt)
section
variable {E:Env} {m:M} {T:TypeId} {ti:TI} {e:TypeId} {b n:Nat}
theorem tJ(t1:E.ty.get T=some ti)(t2:ti.d=.slice e)(hk:0 < ti.es)(h:nT m b ti.es){o c i:Nat}(hnc:n<=c)(hi:i<=c):
  slice? E m T (.slice (some ⟨b,o,none⟩) n c) none (some (.int .i64 i)) none=some (.slice (some ⟨b,o,none⟩) i c):=by
 rcases h with⟨cs,te,g,h,hg⟩ |⟨cs,h⟩
 ·exact Da t1 t2 hk h hg hnc hi
 ·have b1:cE n c none (some (.int .i64 i)) none=some (0,i,c):=by unfold cE;simp only[iq hi]
  have e1:Nat.beq ti.es 0=false:=by
   cases hb:Nat.beq ti.es 0 with
   |false=>rfl
   |true=>have:=Nat.eq_of_beq_eq_true hb;omega
  have e2:Nat.ble n c=true:=Nat.ble_eq_true_of_le hnc
  have e0:(⟨b,o,none⟩:Addr).add (0*ti.es)=⟨b,o,none⟩:=by rw[bC rfl,Nat.zero_mul];rfl
  simp only[slice?,t1,t2,b1,h,e1,e2,Bool.not_true,Bool.or_false,cond_false,Nat.sub_zero,e0]
  cases Nat.beq c 0 <;>rfl
theorem wX(t1:E.ty.get T=some ti)(t2:ti.d=.slice e)(hk:0 < ti.es)(h:nT m b ti.es){o c j:Nat}(hnc:n<=c)(hj:j<=n):
  ∃a',slice? E m T (.slice (some ⟨b,o,none⟩) n c) (some (.int .i64 j)) none none=some (.slice (some a') (n-j) (c-j))/\(j < c->a'=⟨b,o+j*ti.es,none⟩):=by
 rcases h with⟨cs,te,g,h,hg⟩ |⟨cs,h⟩
 ·exact jK t1 t2 hk h hg hnc hj
 ·have b1:cE n c (some (.int .i64 j)) none none=some (j,n,c):=by unfold cE;simp only[iq hj]
  have e1:Nat.beq ti.es 0=false:=by
   cases hb:Nat.beq ti.es 0 with
   |false=>rfl
   |true=>have:=Nat.eq_of_beq_eq_true hb;omega
  have e2:Nat.ble n c=true:=Nat.ble_eq_true_of_le hnc
  have e0:(⟨b,o,none⟩:Addr).add (j*ti.es)=⟨b,o+j*ti.es,none⟩:=bC (a:=⟨b,o,none⟩) rfl _
  have e4:j < c->Nat.beq c j=false:=fun hlt=>by
   cases hb:Nat.beq c j with
   |false=>rfl
   |true=>have:=Nat.eq_of_beq_eq_true hb;omega
  refine⟨bif Nat.beq c j then⟨b,o,none⟩else(⟨b,o,none⟩:Addr).add (j*ti.es),?_,fun hlt=>by rw[e4 hlt];exact e0⟩
  simp only[slice?,t1,t2,b1,h,e1,e2,Bool.not_true,Bool.or_false,cond_false]
end
section
variable {α:Type} [aL α] {m m':M} {l:List α} {v:Value}
def KJ(m:M)(l:List α)(v:Value):Prop:=iV m l v/\∃b o c,v=.slice (some ⟨b,o,none⟩) l.length c/\l.length<=c/\nT m b (aL.sz α)
theorem NB.q(h:NB m l v):KJ m l v:=by
 obtain⟨h1,b,o,c,bc,g,h2,h3,h4,h5⟩:=h
 exact⟨.inl h1,b,o,c,h2,h3,.inl ⟨_,_,_,h4,h5⟩⟩
theorem KJ.aB(h:KJ m l v)(he:Ext m m'):KJ m' l v:=by
 obtain⟨h1,b,o,c,h2,h3,h4⟩:=h
 exact⟨h1.aB he,b,o,c,h2,h3,h4.aB he⟩
theorem iV.N2(h:iV m l v)(hk:∀b,b < m.n->(∀cs t g,m.get b=.cells cs t g->t∈aL.ty α::aL.fR α)->m'.get b=m.get b)(ht:aL.fR α=[]):iV m' l v:=by
 rcases h with h |h
 ·refine .inl (h.bt fun b c t g hb hin=>?_)
  rw[hk b (M.aV hb) fun cs t' g' hb'=>by rw[hb]at hb';cases hb';exact hin,hb]
 ·rcases h with h |⟨b,o,c,bc,h1,h2,h4⟩
  ·exact .inr (.inl h)
  ·have hlt:b < m.n:=nT.lt (k:=0) (.inr ⟨_,h2⟩)
   refine .inr (.inr ⟨b,o,c,bc,h1,by rw[hk b hlt (fun cs t g hb=>by rw[h2]at hb;cases hb),h2],fun i x hi=>⟨(h4 i x hi).1,aL.bt (h4 i x hi).2 fun b c t g _ h=>by rw[ht]at h;cases h⟩⟩)
theorem iV.part{b o c:Nat}(h:iV m l (.slice (some ⟨b,o,none⟩) l.length c)){i k:Nat}(hik:i+k<=l.length){c':Nat}:iV m ((l.drop i).take k) (.slice (some ⟨b,o+i*aL.sz α,none⟩) k c'):=by
 have hlen:((l.drop i).take k).length=k:=by rw[List.length_take,List.length_drop];omega
 rcases h with h |h
 ·exact .inl (h.part hik)
 ·rcases h with⟨h,_⟩ |⟨b',o',c1,bc,he,hb,hel⟩
  ·cases h
  ·cases he
   refine .inr (.inr ⟨b,_,c',bc,by rw[hlen],hb,fun j x hj=>?_⟩)
   have hj2:=(List.getElem?_eq_some_iff.1 hj).1
   rw[hlen]at hj2
   rw[List.getElem?_take_of_lt hj2,List.getElem?_drop]at hj
   have:=hel (i+j) x hj
   rwa[Nat.add_mul,<-Nat.add_assoc]at this
end
end Go.D
namespace Go.Proofs
open Go.Shelf
def Tryz.fL:Go.Shelf.Ren:=⟨fun |169=>77 |n=>n,fun |70=>140 |9=>9 |0=>0 |72=>142 |37=>52 |127=>203 |3=>3 |5=>5 |n=>n,fun |n=>n⟩
theorem Tryz.qU:Go.Proofs.Lays.n169 Tryz.prog Tryz.fL:={
 mixed:=by kernel_rfl
 f169:=Tryz.func77.trans (congrArg some (by kernel_rfl))
 t0:=Tryz.underlying0
 a0:=Tryz.isAgg0
 z0:=Tryz.sizeOf0
 v0:=Tryz.zeroValue0
 t3:=Tryz.underlying3
 a3:=Tryz.isAgg3
 z3:=Tryz.sizeOf3
 v3:=Tryz.zeroValue3
 t9:=Tryz.underlying9
 a9:=Tryz.isAgg9
 z9:=Tryz.sizeOf9
 v9:=Tryz.zeroValue9
 t37:=Tryz.underlying52
 a37:=Tryz.isAgg52
 z37:=Tryz.sizeOf52
 v37:=Tryz.zeroValue52
 t70:=Tryz.underlying140
 a70:=Tryz.isAgg140
 z70:=Tryz.sizeOf140
 v70:=Tryz.zeroValue140
 t72:=Tryz.underlying142
 a72:=Tryz.isAgg142
 z72:=Tryz.sizeOf142
 v72:=Tryz.zeroValue142
 t127:=Tryz.underlying203
 a127:=Tryz.isAgg203
 z127:=Tryz.sizeOf203
 v127:=Tryz.zeroValue203}
theorem Tryz.eM:Builder.Extra Tryz.prog Tryz.fL:={
 sizeBuilder:=by kernel_rfl
 liesBuilder:=by kernel_rfl
 t5:=Tryz.underlying5
 a5:=Tryz.isAgg5
 z5:=Tryz.sizeOf5
 v5:=Tryz.zeroValue5
 infoByte:=by kernel_rfl
 cellsByte:=by kernel_rfl
 sizeByte:=by kernel_rfl
 neB5:=by decide}
def Tryz.jQ:Go.Shelf.Ren:=⟨fun |156=>79 |165=>142 |166=>75 |169=>77 |240=>141 |241=>194 |276=>193 |277=>290 |n=>n,fun |31=>42 |9=>9 |3=>3 |4=>4 |0=>0 |20=>20 |72=>142 |76=>145 |70=>140 |37=>52 |75=>144 |127=>203 |164=>268 |5=>5 |80=>148 |n=>n,fun |n=>n⟩
theorem Tryz.qV:Go.Proofs.Lays.n156 Tryz.prog Tryz.jQ:={
 mixed:=by kernel_rfl
 f156:=Tryz.func79.trans (congrArg some (by kernel_rfl))
 f165:=Tryz.func142.trans (congrArg some (by kernel_rfl))
 f166:=Tryz.func75.trans (congrArg some (by kernel_rfl))
 f169:=Tryz.func77.trans (congrArg some (by kernel_rfl))
 f240:=Tryz.func141.trans (congrArg some (by kernel_rfl))
 f241:=Tryz.func194.trans (congrArg some (by kernel_rfl))
 f276:=Tryz.func193.trans (congrArg some (by kernel_rfl))
 f277:=Tryz.func290.trans (congrArg some (by kernel_rfl))
 t0:=Tryz.underlying0
 a0:=Tryz.isAgg0
 z0:=Tryz.sizeOf0
 v0:=Tryz.zeroValue0
 t3:=Tryz.underlying3
 a3:=Tryz.isAgg3
 z3:=Tryz.sizeOf3
 v3:=Tryz.zeroValue3
 t4:=Tryz.underlying4
 a4:=Tryz.isAgg4
 z4:=Tryz.sizeOf4
 v4:=Tryz.zeroValue4
 t9:=Tryz.underlying9
 a9:=Tryz.isAgg9
 z9:=Tryz.sizeOf9
 v9:=Tryz.zeroValue9
 t20:=Tryz.underlying20
 a20:=Tryz.isAgg20
 z20:=Tryz.sizeOf20
 v20:=Tryz.zeroValue20
 t31:=Tryz.underlying42
 a31:=Tryz.isAgg42
 z31:=Tryz.sizeOf42
 v31:=Tryz.zeroValue42
 t37:=Tryz.underlying52
 a37:=Tryz.isAgg52
 z37:=Tryz.sizeOf52
 v37:=Tryz.zeroValue52
 t70:=Tryz.underlying140
 a70:=Tryz.isAgg140
 z70:=Tryz.sizeOf140
 v70:=Tryz.zeroValue140
 t72:=Tryz.underlying142
 a72:=Tryz.isAgg142
 z72:=Tryz.sizeOf142
 v72:=Tryz.zeroValue142
 t75:=Tryz.underlying144
 a75:=Tryz.isAgg144
 z75:=Tryz.sizeOf144
 v75:=Tryz.zeroValue144
 t76:=Tryz.underlying145
 a76:=Tryz.isAgg145
 z76:=Tryz.sizeOf145
 v76:=Tryz.zeroValue145
 t127:=Tryz.underlying203
 a127:=Tryz.isAgg203
 z127:=Tryz.sizeOf203
 v127:=Tryz.zeroValue203
 t164:=Tryz.underlying268
 a164:=Tryz.isAgg268
 z164:=Tryz.sizeOf268
 v164:=Tryz.zeroValue268}
theorem Tryz.eN:Builder.Extra Tryz.prog Tryz.jQ:={
 sizeBuilder:=by kernel_rfl
 liesBuilder:=by kernel_rfl
 t5:=Tryz.underlying5
 a5:=Tryz.isAgg5
 z5:=Tryz.sizeOf5
 v5:=Tryz.zeroValue5
 infoByte:=by kernel_rfl
 cellsByte:=by kernel_rfl
 sizeByte:=by kernel_rfl
 neB5:=by decide}
def Tryz.yN:Go.Shelf.Ren:=⟨fun |143=>197 |219=>294 |217=>341 |225=>342 |224=>343 |267=>344 |266=>373 |314=>374 |n=>n,fun |9=>9 |3=>3 |4=>4 |5=>5 |46=>224 |146=>396 |51=>301 |n=>n,fun |1=>0 |n=>n⟩
theorem Tryz.Jl:Go.Proofs.Lays.n143 Tryz.prog Tryz.yN:={
 mixed:=by kernel_rfl
 f143:=Tryz.func197.trans (congrArg some (by kernel_rfl))
 f217:=Tryz.func341.trans (congrArg some (by kernel_rfl))
 f219:=Tryz.func294.trans (congrArg some (by kernel_rfl))
 f224:=Tryz.func343.trans (congrArg some (by kernel_rfl))
 f225:=Tryz.func342.trans (congrArg some (by kernel_rfl))
 f266:=Tryz.func373.trans (congrArg some (by kernel_rfl))
 f267:=Tryz.func344.trans (congrArg some (by kernel_rfl))
 f314:=Tryz.func374.trans (congrArg some (by kernel_rfl))
 t3:=Tryz.underlying3
 a3:=Tryz.isAgg3
 z3:=Tryz.sizeOf3
 v3:=Tryz.zeroValue3
 t4:=Tryz.underlying4
 a4:=Tryz.isAgg4
 z4:=Tryz.sizeOf4
 v4:=Tryz.zeroValue4
 t5:=Tryz.underlying5
 a5:=Tryz.isAgg5
 z5:=Tryz.sizeOf5
 v5:=Tryz.zeroValue5
 t9:=Tryz.underlying9
 a9:=Tryz.isAgg9
 z9:=Tryz.sizeOf9
 v9:=Tryz.zeroValue9
 t46:=Tryz.underlying224
 a46:=Tryz.isAgg224
 z46:=Tryz.sizeOf224
 v46:=Tryz.zeroValue224
 t51:=Tryz.underlying301
 a51:=Tryz.isAgg301
 z51:=Tryz.sizeOf301
 v51:=Tryz.zeroValue301
 t146:=Tryz.underlying396
 a146:=Tryz.isAgg396
 z146:=Tryz.sizeOf396
 v146:=Tryz.zeroValue396
 g1:=by kernel_rfl}
def Tryz.yO:Go.Shelf.Ren:=⟨fun |138=>196 |195=>291 |218=>293 |143=>197 |219=>294 |217=>341 |225=>342 |224=>343 |267=>344 |266=>373 |314=>374 |n=>n,fun |9=>9 |3=>3 |4=>4 |5=>5 |0=>0 |46=>224 |146=>396 |51=>301 |n=>n,fun |1=>0 |n=>n⟩
theorem Tryz.Jm:Go.Proofs.Lays.n138 Tryz.prog Tryz.yO:={
 mixed:=by kernel_rfl
 f138:=Tryz.func196.trans (congrArg some (by kernel_rfl))
 f143:=Tryz.func197.trans (congrArg some (by kernel_rfl))
 f195:=Tryz.func291.trans (congrArg some (by kernel_rfl))
 f217:=Tryz.func341.trans (congrArg some (by kernel_rfl))
 f218:=Tryz.func293.trans (congrArg some (by kernel_rfl))
 f219:=Tryz.func294.trans (congrArg some (by kernel_rfl))
 f224:=Tryz.func343.trans (congrArg some (by kernel_rfl))
 f225:=Tryz.func342.trans (congrArg some (by kernel_rfl))
 f266:=Tryz.func373.trans (congrArg some (by kernel_rfl))
 f267:=Tryz.func344.trans (congrArg some (by kernel_rfl))
 f314:=Tryz.func374.trans (congrArg some (by kernel_rfl))
 t0:=Tryz.underlying0
 a0:=Tryz.isAgg0
 z0:=Tryz.sizeOf0
 v0:=Tryz.zeroValue0
 t3:=Tryz.underlying3
 a3:=Tryz.isAgg3
 z3:=Tryz.sizeOf3
 v3:=Tryz.zeroValue3
 t4:=Tryz.underlying4
 a4:=Tryz.isAgg4
 z4:=Tryz.sizeOf4
 v4:=Tryz.zeroValue4
 t5:=Tryz.underlying5
 a5:=Tryz.isAgg5
 z5:=Tryz.sizeOf5
 v5:=Tryz.zeroValue5
 t9:=Tryz.underlying9
 a9:=Tryz.isAgg9
 z9:=Tryz.sizeOf9
 v9:=Tryz.zeroValue9
 t46:=Tryz.underlying224
 a46:=Tryz.isAgg224
 z46:=Tryz.sizeOf224
 v46:=Tryz.zeroValue224
 t51:=Tryz.underlying301
 a51:=Tryz.isAgg301
 z51:=Tryz.sizeOf301
 v51:=Tryz.zeroValue301
 t146:=Tryz.underlying396
 a146:=Tryz.isAgg396
 z146:=Tryz.sizeOf396
 v146:=Tryz.zeroValue396
 g1:=by kernel_rfl}
def Tryz.qk:Go.Shelf.Ren:=⟨fun |221=>144 |268=>195 |138=>196 |143=>197 |195=>291 |197=>292 |218=>293 |219=>294 |260=>340 |217=>341 |225=>342 |224=>343 |267=>344 |266=>373 |314=>374 |n=>n,fun |9=>9 |3=>3 |31=>42 |4=>4 |0=>0 |105=>330 |21=>21 |5=>5 |46=>224 |119=>392 |139=>395 |138=>394 |146=>396 |51=>301 |n=>n,fun |1=>0 |3=>1 |4=>2 |n=>n⟩
theorem Tryz.Jk:Go.Proofs.Lays.n221 Tryz.prog Tryz.qk:={
 mixed:=by kernel_rfl
 f138:=Tryz.func196.trans (congrArg some (by kernel_rfl))
 f143:=Tryz.func197.trans (congrArg some (by kernel_rfl))
 f195:=Tryz.func291.trans (congrArg some (by kernel_rfl))
 f197:=Tryz.func292.trans (congrArg some (by kernel_rfl))
 f217:=Tryz.func341.trans (congrArg some (by kernel_rfl))
 f218:=Tryz.func293.trans (congrArg some (by kernel_rfl))
 f219:=Tryz.func294.trans (congrArg some (by kernel_rfl))
 f221:=Tryz.func144.trans (congrArg some (by kernel_rfl))
 f224:=Tryz.func343.trans (congrArg some (by kernel_rfl))
 f225:=Tryz.func342.trans (congrArg some (by kernel_rfl))
 f260:=Tryz.func340.trans (congrArg some (by kernel_rfl))
 f266:=Tryz.func373.trans (congrArg some (by kernel_rfl))
 f267:=Tryz.func344.trans (congrArg some (by kernel_rfl))
 f268:=Tryz.func195.trans (congrArg some (by kernel_rfl))
 f314:=Tryz.func374.trans (congrArg some (by kernel_rfl))
 t0:=Tryz.underlying0
 a0:=Tryz.isAgg0
 z0:=Tryz.sizeOf0
 v0:=Tryz.zeroValue0
 t3:=Tryz.underlying3
 a3:=Tryz.isAgg3
 z3:=Tryz.sizeOf3
 v3:=Tryz.zeroValue3
 t4:=Tryz.underlying4
 a4:=Tryz.isAgg4
 z4:=Tryz.sizeOf4
 v4:=Tryz.zeroValue4
 t5:=Tryz.underlying5
 a5:=Tryz.isAgg5
 z5:=Tryz.sizeOf5
 v5:=Tryz.zeroValue5
 t9:=Tryz.underlying9
 a9:=Tryz.isAgg9
 z9:=Tryz.sizeOf9
 v9:=Tryz.zeroValue9
 t21:=Tryz.underlying21
 a21:=Tryz.isAgg21
 z21:=Tryz.sizeOf21
 v21:=Tryz.zeroValue21
 t31:=Tryz.underlying42
 a31:=Tryz.isAgg42
 z31:=Tryz.sizeOf42
 v31:=Tryz.zeroValue42
 t46:=Tryz.underlying224
 a46:=Tryz.isAgg224
 z46:=Tryz.sizeOf224
 v46:=Tryz.zeroValue224
 t51:=Tryz.underlying301
 a51:=Tryz.isAgg301
 z51:=Tryz.sizeOf301
 v51:=Tryz.zeroValue301
 t105:=Tryz.underlying330
 a105:=Tryz.isAgg330
 z105:=Tryz.sizeOf330
 v105:=Tryz.zeroValue330
 t119:=Tryz.underlying392
 a119:=Tryz.isAgg392
 z119:=Tryz.sizeOf392
 t138:=Tryz.underlying394
 a138:=Tryz.isAgg394
 z138:=Tryz.sizeOf394
 v138:=Tryz.zeroValue394
 t139:=Tryz.underlying395
 a139:=Tryz.isAgg395
 z139:=Tryz.sizeOf395
 v139:=Tryz.zeroValue395
 t146:=Tryz.underlying396
 a146:=Tryz.isAgg396
 z146:=Tryz.sizeOf396
 v146:=Tryz.zeroValue396
 g1:=by kernel_rfl
 g3:=by kernel_rfl
 g4:=by kernel_rfl}
end Go.Proofs
namespace Go.D
open Go
section
variable {P:Program} {σ:Sg} {m:M} {w w':World}
theorem Ev.Lx(h:dN P σ m w){g:Nat}{gr:Option (Nat×Nat×Nat)}{ob:Ob}(hk:∀B,B < w.heap.size->w'.heap[B]?=w.heap[B]?)(hle:w.heap.size<=w'.heap.size)(hg:w.heap.size<=g)(hg':g < w'.heap.size)
  (hh:ng (σ.add m.n ⟨g,gr⟩) ⟨g,gr⟩ w' ob) (ho:w'.os=w.os) (ht:w'.tape=w.tape) (hu:w'.output=w.output):Ev P σ m w (σ.add m.n ⟨g,gr⟩) (m.push ob) w':=by
 have hn:=h.jb
 have hl:=Sg.pP (i:=⟨g,gr⟩) hn
 have hcase:∀b i,(σ.add m.n ⟨g,gr⟩) b=some i->(b=m.n/\i=⟨g,gr⟩)\/(b≠m.n/\σ b=some i):=by
  intro b i hb
  unfold Sg.add at hb
  by_cases hbn:b=m.n
  ·rw[if_pos hbn]at hb;exact .inl ⟨hbn,by injection hb with hb;exact hb.symm⟩
  ·rw[if_neg hbn]at hb;exact .inr ⟨hbn,hb⟩
 have hpn:(m.push ob).n=m.n+1:=rfl
 refine⟨hl,⟨?_,?_,?_,?_,fun g hg=>hl g _ (h.iy g hg)⟩,Nat.le_refl _,by omega,hle,?_,?_,fun B hB _=>hk B hB,ho,ht,hu⟩
 ·intro b i hb
  rcases hcase b i hb with⟨rfl,_⟩ |⟨_,hb⟩
  ·omega
  ·have:=h.mI b i hb;omega
 ·intro b i hb
  rw[M.eI]
  rcases hcase b i hb with⟨rfl,rfl⟩ |⟨hne,hb⟩
  ·rw[if_pos rfl];exact hh
  ·rw[if_neg hne];exact(h.obj b i hb).bt hl (hk _ (h.lt b i hb))
 ·intro b i hb
  rcases hcase b i hb with⟨_,rfl⟩ |⟨_,hb⟩
  ·exact hg'
  ·have:=h.lt b i hb;omega
 ·intro b b' i i' hb hb' hd hd' he
  rw[M.eI]at hd hd'
  rcases hcase b i hb with⟨rfl,rfl⟩ |⟨hne,hb⟩ <;>rcases hcase b' i' hb' with⟨rfl,rfl⟩ |⟨hne',hb'⟩
  ·rfl
  ·have:=h.lt b' i' hb';dsimp only at he;omega
  ·have:=h.lt b i hb;dsimp only at he;omega
  ·rw[if_neg hne]at hd;rw[if_neg hne']at hd';exact h.inj b b' i i' hb hb' hd hd' he
 ·intro b i hb hs
  rcases hcase b i hb with⟨rfl,rfl⟩ |⟨_,hb⟩
  ·exact⟨Nat.le_refl _,.inl hg⟩
  ·rw[hs]at hb;cases hb
 ·intro b _ hb
  rw[M.eI,if_neg (by omega)]
theorem Ev.kept(h:dN P σ m w)(hk:∀B,B < w.heap.size->w'.heap[B]?=w.heap[B]?)(hle:w.heap.size<=w'.heap.size)(ho:w'.os=w.os)(ht:w'.tape=w.tape)(hu:w'.output=w.output):Ev P σ m w σ m w':=
 ⟨fun _ _ x=>x,⟨h.mI,fun b i hb=>(h.obj b i hb).bt (fun _ _ x=>x) (hk _ (h.lt b i hb)),fun b i hb=>Nat.lt_of_lt_of_le (h.lt b i hb) hle,h.inj,h.iy⟩,Nat.le_refl _,Nat.le_refl _,hle,fun b i x y=>(by rw[x]at y;cases y),fun _ _ _=>rfl,fun B hB _=>hk B hB,ho,ht,hu⟩
end
end Go.D
namespace Go.D
open Go
section
variable {P:Program} {σ:Sg} {m m':M} {w w':World}
def bytes?:List Value->Option (List UInt8)
 |[]=>some []
 |.int .u8 x::r=>bif decide (0<=x) && decide (x<=255)then match bytes? r with |some l=>some (UInt8.ofNat x.toNat::l) |none=>none else none
 |_=>none
theorem sR:∀{vs:List Value} {l:List UInt8},bytes? vs=some l->vs=Lib.byteCells l
 |[],l,h=>by cases h;rfl
 |v::r,l,h=>by
  unfold bytes? at h
  split at h
  ·rename_i h0;cases h0
  ·rename_i x r' h0
   cases h0
   cases hc:(decide (0<=x) && decide (x<=255))with
   |false=>rw[hc]at h;cases h
   |true=>
    rw[hc,cond_true]at h
    rw[Bool.and_eq_true,decide_eq_true_eq,decide_eq_true_eq]at hc
    split at h
    ·rename_i l' hl
     cases h
     have hx:((UInt8.ofNat x.toNat).toNat:Int)=x:=by
      rw[UInt8.toNat_ofNat']
      have:=Int.toNat_of_nonneg hc.1
      omega
     rw[sR hl]
     simp only[Lib.byteCells,List.map_cons,hx]
    ·cases h
  ·cases h
def rq:List Value->Option (List ByteArray)
 |[]=>some []
 |.string x::r=>match rq r with |some l=>some (x::l) |none=>none
 |_=>none
theorem tH:∀{vs:List Value} {l:List ByteArray},rq vs=some l->vs=l.map .string
 |[],l,h=>by cases h;rfl
 |v::r,l,h=>by
  unfold rq at h
  split at h
  ·rename_i h0;cases h0
  ·rename_i x r' h0
   cases h0
   split at h
   ·rename_i l' hl
    cases h
    rw[List.map_cons,<-tH hl]
   ·cases h
  ·cases h
noncomputable def JO(T:Nat)(args:List Value)(m:M):Option (Value×M):=
 match args with
 |[.pointer (some a)]=>
  match m.get a.block with
  |.cells [.pointer none,s] e none=>bif Nat.beq e T && Nat.beq a.off 0 && a.spot.isNone then some (.tuple #[],m.set a.block (.cells [.pointer (some a),s] e none))else none
  |.cells [.pointer (some a'),_] e none=>bif Nat.beq e T && Nat.beq a.off 0 && a.spot.isNone && Nat.beq a'.block a.block && Nat.beq a'.off 0 && a'.spot.isNone then some (.tuple #[],m)else none
  |_=>none
 |_=>none
noncomputable def rr(T U:Nat)(args:List Value)(m:M):Option (Value×M):=
 match args with
 |[.pointer (some a)]=>
  match m.get a.block with
  |.cells [_,.slice none 0 0] e none=>bif Nat.beq e T && Nat.beq a.off 0 && a.spot.isNone then some (.string ⟨#[]⟩,m)else none
  |.cells [_,.slice (some r) n c] e none=>
   bif Nat.beq e T && Nat.beq a.off 0 && a.spot.isNone && Nat.beq r.off 0 && r.spot.isNone && Nat.ble 1 n && Nat.ble n c then
    match m.get r.block with
    |.cells cs e' _=>
     bif Nat.beq e' U && Nat.ble n cs.length && Nat.ble n 1048576 then
      match bytes? (cs.take n)with
      |some l=>some (.string ⟨l.toArray⟩,m.set r.block .dead)
      |none=>none
     else none
    |_=>none
   else none
  |_=>none
 |_=>none
noncomputable def Kt(args:List Value)(m:M):Option (Value×M):=
 match args with
 |[.slice none 0 0,.string _]=>some (.string ⟨#[]⟩,m)
 |[.slice (some a) n c,.string sep]=>
  match m.get a.block with
  |.cells cs _ _=>
   bif a.spot.isNone && Nat.ble 1 n && Nat.ble n c && Nat.ble (a.off+n) cs.length && Nat.ble n 1048576 then
    match rq ((cs.drop a.off).take n)with
    |some xs=>bif Nat.ble (Lib.join (xs.map (·.data.toList)) sep.data.toList).length 1048576 then some (.string ⟨(Lib.join (xs.map (·.data.toList)) sep.data.toList).toArray⟩,m)else none
    |none=>none
   else none
  |_=>none
 |_=>none
def cutAt(c:UInt8):List UInt8->List (List UInt8)
 |[]=> [[]]
 |x::r=>bif x==c then []::cutAt c r else match cutAt c r with |h::t=>(x::h)::t |[]=> [[x]]
noncomputable def Ku(S:Nat)(args:List Value)(m:M):Option (Value×M):=
 match args with
 |[.string s,.string t,.int .i64 0,.int .i64 (-1)]=>
  match t.data.toList with
  |[c]=>bif Nat.ble s.data.toList.length 1048576 then
    some (.slice (some ⟨m.n,0,none⟩) (cutAt c s.data.toList).length (cutAt c s.data.toList).length,m.push (.cells ((cutAt c s.data.toList).map fun l=> .string ⟨l.toArray⟩) S none))
   else none
  |_=>none
 |_=>none
structure tB where
 cc:Nat
 st:Nat
 jn:Nat
 gs:Nat
 T:Nat
 U:Nat
 S:Nat
noncomputable def mQ(N:tB):aF:=fun fn args m=>
 match fn with
 |.func f=>
  bif Nat.beq f N.cc then JO N.T args m
  else bif Nat.beq f N.st then rr N.T N.U args m
  else bif Nat.beq f N.jn then Kt args m
  else bif Nat.beq f N.gs then Ku N.S args m
  else none
 |_=>none
def lL(b:Nat):Value:=.pointer (some ⟨b,0,none⟩)
structure sX(P:Program)(N:tB):Prop where
 Nz:∀f,(f=N.cc\/f=N.st\/f=N.jn\/f=N.gs)->∀args w,(callFunc f args).run P w=.ok (.enter f args) w
 fresh:∀(b:Nat) (w:World),w.cell? ⟨b,0,none⟩=some (.pointer none)->w.shape? b=some (N.T,2)->w.frozen? ⟨b,0,none⟩=false->
  Calls P N.cc #[lL b] w fun e w'=>e=.returned (.tuple #[])/\w'=w.setCell ⟨b,0,none⟩ (lL b)
 used:∀(b:Nat) (w:World),w.cell? ⟨b,0,none⟩=some (lL b)->Calls P N.cc #[lL b] w fun e w'=>e=.returned (.tuple #[])/\w'=w
 Kl:∀(b:Nat) (p:Value) (w:World),w.heap[b]?=some (.cells #[p,.slice none 0 0] N.T (0,0))->Calls P N.st #[lL b] w fun e w'=>e=.returned (.string ⟨#[]⟩)/\w'.heap=w.heap/\w'.os=w.os/\w'.tape=w.tape/\w'.output=w.output
 str:∀(b g c:Nat) (p:Value) (cur:Array Value) (l:List UInt8) (w:World),w.heap[b]?=some (.cells #[p,.slice (some ⟨g,0,none⟩) l.length c] N.T (0,0))->w.heap[g]?=some (.cells cur N.U (0,0))->l≠ []->l.length<=c->l.length<=cur.size->l.length<=1048576->
  cur.toList.take l.length=Lib.byteCells l->Calls P N.st #[lL b] w fun e w'=>e=.returned (.string ⟨l.toArray⟩)/\(∀B,B≠g->w'.heap[B]?=w.heap[B]?)/\w'.heap.size=w.heap.size/\w'.os=w.os/\w'.tape=w.tape/\w'.output=w.output
 Ks:∀(a:Option Addr) (c:Nat) (sep:ByteArray) (w:World),Calls P N.jn #[.slice a 0 c,.string sep] w fun e w'=>e=.returned (.string ⟨#[]⟩)/\w'=w
 join:∀(bk o c:Nat) (xs:List ByteArray) (sep:ByteArray) (w:World),(∀(j:Nat) x,xs[j]?=some x->w.cell? ⟨bk,o+j,none⟩=some (.string x))->bk < w.heap.size->xs.length<=1048576->xs.length<=c->
  (Lib.join (xs.map (·.data.toList)) sep.data.toList).length<=1048576->Calls P N.jn #[.slice (some ⟨bk,o,none⟩) xs.length c,.string sep] w fun e w'=>e=.returned (.string ⟨(Lib.join (xs.map (·.data.toList)) sep.data.toList).toArray⟩)/\Go.RowKit.Below w.heap.size w w'
 split:∀(s:ByteArray) (c:UInt8) (w:World),s.data.toList.length<=1048576->Calls P N.gs #[.string s,.string ⟨#[c]⟩,.int .i64 0,.int .i64 (-1)] w fun e w'=>
  e=.returned (.slice (some ⟨w.heap.size,0,none⟩) (cutAt c s.data.toList).length (cutAt c s.data.toList).length)/\w'=w.alloc (.cells ((cutAt c s.data.toList).map fun l=>Value.string ⟨l.toArray⟩).toArray N.S)
theorem rm{a b:Value}{args':Array Value}(hl:aU σ [a,b] args'.toList):∃a' b',args'= #[a',b']/\aJ σ a a'/\aJ σ b b':=by
 obtain⟨a',l1,h1,ha,hl1⟩:=hl.cases
 obtain⟨b',l2,h2,hb,hl2⟩:=hl1.cases
 have:=hl2.nil_eq
 refine⟨a',b',Array.ext' ?_,ha,hb⟩
 rw[h1,h2,this]
theorem ve{a:Value}{args':Array Value}(hl:aU σ [a] args'.toList):∃a',args'= #[a']/\aJ σ a a':=by
 obtain⟨a',l1,h1,ha,hl1⟩:=hl.cases
 have:=hl1.nil_eq
 refine⟨a',Array.ext' ?_,ha⟩
 rw[h1,this]
theorem mi{a b:Value}{row:Array Value}(h:aU σ [a,b] (row.toList.take 2))(hs:row.size=2):∃a' b',row= #[a',b']/\aJ σ a a'/\aJ σ b b':=by
 have e:row.toList.take 2=row.toList:=List.take_of_length_le (by rw[Array.length_toList,hs];exact Nat.le_refl _)
 rw[e]at h
 exact rm h
theorem mn{v:Value}(hf:aJ σ v v)(hs:dN P σ m w)(h:Ev P σ m w σ m' w'):cC P σ m w v m' (.returned v) w':=⟨v,σ,rfl,hf,h⟩
theorem Pc{N:tB}(K:sX P N){args:List Value}{v:Value}(h:JO N.T args m=some (v,m'))(hs:dN P σ m w){args':Array Value}(hl:aU σ args args'.toList):Calls P N.cc args' w (cC P σ m w v m'):=by
 unfold JO at h
 split at h
 ·rename_i a
  obtain⟨x',rfl,hx⟩:=ve hl
  obtain⟨i,hi,hsp,rfl⟩:=hx.dV
  split at h
  ·rename_i s e hg
   cases hc:(Nat.beq e N.T && Nat.beq a.off 0 && a.spot.isNone)with
   |false=>rw[hc]at h;cases h
   |true=>
    rw[hc,cond_true]at h
    cases h
    simp only[Bool.and_eq_true]at hc
    obtain⟨⟨c1,c2⟩,_⟩:=hc
    obtain rfl:=Nat.eq_of_beq_eq_true c1
    have c2:=Nat.eq_of_beq_eq_true c2
    rw[c2]
    obtain⟨row,hr1,hr2,hr3,hr4,hr5⟩:=hs.cells hi hg
    obtain⟨p',s',rfl,hp,hs'⟩:=mi hr3 hr5
    have:=hp.aQ rfl
    subst this
    refine(K.fresh i.cG w (by simp[World.cell?,hr1]) (by simp[World.shape?,hr1]) (by simp[World.frozen?,hr1])).mono ?_
    rintro en w2 ⟨rfl,rfl⟩
    have hheap:∀B,(w.setCell ⟨i.cG,0,none⟩ (lL i.cG)).heap[B]?=if B=i.cG then some (.cells #[lL i.cG,s'] N.T (0,0))else w.heap[B]?:=by
     intro B
     simp only[World.setCell,Array.getElem?_modify]
     by_cases hB:i.cG=B
     ·subst hB
      rw[if_pos rfl,if_pos rfl,hr1]
      rfl
     ·rw[if_neg hB,if_neg (fun q=>hB q.symm)]
    refine mn .undef hs (Ev.write hs hi (by rw[hg];exact fun q=>by cases q) ?_ (fun B hB=>by rw[hheap,if_neg hB]) (by simp[World.setCell]) rfl rfl rfl)
    refine⟨#[lL i.cG,s'],by rw[hheap,if_pos rfl],by simp,⟨rfl,fun j u u' hu hu'=>?_⟩,hr4,rfl⟩
    match j with
    |0=>
     cases hu
     have:lL i.cG=u':=by simpa using hu'
     rw[<-this]
     have:=aJ.ptr a i hi hsp
     rw[c2]at this
     exact this
    |1=>
     cases hu
     have:s'=u':=by simpa using hu'
     rw[<-this]
     exact hs'
    |j+2=>simp at hu
  ·rename_i a' s e hg
   cases hc:(Nat.beq e N.T && Nat.beq a.off 0 && a.spot.isNone && Nat.beq a'.block a.block && Nat.beq a'.off 0 && a'.spot.isNone)with
   |false=>rw[hc]at h;cases h
   |true=>
    rw[hc,cond_true]at h
    cases h
    simp only[Bool.and_eq_true]at hc
    obtain⟨⟨⟨⟨⟨c1,c2⟩,_⟩,c4⟩,c5⟩,_⟩:=hc
    have c2:=Nat.eq_of_beq_eq_true c2
    have c4:=Nat.eq_of_beq_eq_true c4
    have c5:=Nat.eq_of_beq_eq_true c5
    rw[c2]
    obtain⟨row,hr1,hr2,hr3,hr4,hr5⟩:=hs.cells hi hg
    obtain⟨p',s',rfl,hp,hs'⟩:=mi hr3 hr5
    obtain⟨i',hi',_,rfl⟩:=hp.dV
    rw[c4,hi]at hi'
    cases hi'
    refine(K.used i.cG w (by simp[World.cell?,hr1,c5,lL])).mono ?_
    rintro en w2 ⟨rfl,rfl⟩
    exact mn .undef hs (.refl hs)
  ·cases h
 ·cases h
theorem FO{N:tB}(K:sX P N){a:Addr}{v:Value}{b:Nat}(h:rr N.T N.U [.pointer (some a)] m=some (v,m'))(hb:ma m a=some b):
  m.get b≠.dead/\m'=m.set b .dead/\∀σ w (args':Array Value),dN P σ m w->aU σ [.pointer (some a)] args'.toList->
   ∃i,σ b=some i/\Calls P N.st args' w fun e w'=>cC P σ m w v m' e w'/\∀B,B≠i.cG->w'.heap[B]?=w.heap[B]?:=by
 unfold rr at h
 dsimp only at h
 unfold ma at hb
 split at h
 ·rename_i p e hg
  rw[hg]at hb
  cases hb
 ·rename_i p r n c e hg
  rw[hg]at hb
  cases hb
  rw[cond_eq_ite]at h
  split at h
  ·rename_i hc
   simp only[Bool.and_eq_true]at hc
   obtain⟨⟨⟨⟨⟨⟨c1,c2⟩,_⟩,c4⟩,c5⟩,c6⟩,c7⟩:=hc
   have c7:=Nat.le_of_ble_eq_true c7
   obtain rfl:=Nat.eq_of_beq_eq_true c1
   have c2:=Nat.eq_of_beq_eq_true c2
   have c4:=Nat.eq_of_beq_eq_true c4
   have c6:=Nat.le_of_ble_eq_true c6
   split at h
   ·rename_i cs e' g hg2
    rw[cond_eq_ite]at h
    split at h
    ·rename_i hd
     simp only[Bool.and_eq_true]at hd
     obtain⟨⟨d1,d2⟩,d3⟩:=hd
     obtain rfl:=Nat.eq_of_beq_eq_true d1
     have d2:=Nat.le_of_ble_eq_true d2
     have d3:=Nat.le_of_ble_eq_true d3
     split at h
     ·rename_i l hby
      cases h
      have hb':=sR hby
      have hlen:l.length=n:=by
       have:=congrArg List.length hb'
       rw[Lib.byteCells_length,List.length_take]at this
       omega
      refine⟨by rw[hg2];exact(fun q=>by cases q),rfl,fun σ w args' hs hl=>?_⟩
      obtain⟨x',rfl,hx⟩:=ve hl
      obtain⟨i,hi,hsp,rfl⟩:=hx.dV
      rw[c2]
      obtain⟨row,hr1,hr2,hr3,hr4,hr5⟩:=hs.cells hi hg
      obtain⟨p',s',rfl,hp,hs'⟩:=mi hr3 hr5
      obtain⟨j,a',c',hj,rfl,hcase⟩:=hs'.dc
      have ha':a'=⟨j.cG,r.off,none⟩/\c<=c':=by
       rcases hcase with⟨_,h2,h3⟩ |⟨h2,_⟩
       ·refine⟨h2,?_⟩
        rcases h3 with⟨_,h3⟩ |⟨k,sz,M0,_,h3 |h3⟩
        ·omega
        ·omega
        ·exact h3.1
       ·omega
      obtain⟨rfl,hcc⟩:=ha'
      obtain⟨cur,hq1,hq2,hq3,hq4⟩:=hs.cells hj hg2
      have hcur:cur.toList.take l.length=Lib.byteCells l:=by
       rw[<-hb',hlen]
       have e1:(cur.toList.take cs.length).take n=cs.take n:=by
        apply List.ext_getElem?
        intro k
        by_cases hk:k < n
        ·rw[List.getElem?_take_of_lt hk,List.getElem?_take_of_lt hk]
         have hk1:k < cs.length:=by omega
         obtain⟨u,hu1,hu2⟩:=hq3.get (List.getElem?_eq_getElem hk1)
         rw[hu1,List.getElem?_eq_getElem hk1]
         have:bP cs[k]=true:=by
          have e2:cs[k]?=(Lib.byteCells l)[k]?:=by rw[<-hb',List.getElem?_take_of_lt hk]
          rw[List.getElem?_eq_getElem hk1]at e2
          unfold Lib.byteCells at e2
          rw[List.getElem?_map,List.getElem?_eq_getElem (by omega)]at e2
          simp only[Option.map_some,Option.some.injEq]at e2
          rw[e2];rfl
         rw[hu2.aQ this]
        ·rw[List.getElem?_eq_none (by rw[List.length_take];omega),List.getElem?_eq_none (by rw[List.length_take];omega)]
       rw[List.take_take,Nat.min_eq_left d2]at e1
       exact e1
      refine⟨j,hj,(K.str i.cG j.cG c' p' cur l w (by have q:=hr1;rw[c4]at q;rw[hlen];exact q) hq1 (fun q=>by rw[q]at hlen;simp at hlen;omega) (by omega) (by omega) (by omega) hcur).mono ?_⟩
      rintro en w2 ⟨rfl,h1,h2,h3,h4,h5⟩
      exact⟨mn (.flat _ rfl) hs (Ev.write hs hj (by rw[hg2];exact fun q=>by cases q) trivial h1 h2 h3 h4 h5),h1⟩
     ·cases h
    ·cases h
   ·cases h
  ·cases h
 ·cases h
theorem NU{N:tB}(K:sX P N){args:List Value}{v:Value}(h:rr N.T N.U args m=some (v,m'))(hs:dN P σ m w){args':Array Value}(hl:aU σ args args'.toList):Calls P N.st args' w (cC P σ m w v m'):=by
 have h0:=h
 unfold rr at h
 split at h
 ·rename_i a
  split at h
  ·rename_i p e hg
   rw[cond_eq_ite]at h
   split at h
   ·rename_i hc
    cases h
    simp only[Bool.and_eq_true]at hc
    obtain⟨⟨c1,c2⟩,_⟩:=hc
    obtain⟨x',rfl,hx⟩:=ve hl
    obtain⟨i,hi,hsp,rfl⟩:=hx.dV
    obtain rfl:=Nat.eq_of_beq_eq_true c1
    have c2:=Nat.eq_of_beq_eq_true c2
    rw[c2]
    obtain⟨row,hr1,hr2,hr3,hr4,hr5⟩:=hs.cells hi hg
    obtain⟨p',s',rfl,hp,hs'⟩:=mi hr3 hr5
    have:=hs'.aQ rfl
    subst this
    refine(K.Kl i.cG p' w hr1).mono ?_
    rintro en w2 ⟨rfl,h1,h2,h3,h4⟩
    exact mn (.flat _ rfl) hs (.of_heap hs h1 h2 h3 h4)
   ·cases h
  ·rename_i p r n c e hg
   obtain⟨_,_,h3⟩:=FO K h0 (b:=r.block) (by unfold ma;rw[hg])
   obtain⟨i,_,hc⟩:=h3 σ w args' hs hl
   exact hc.mono fun e w' q=>q.1
  ·cases h
 ·cases h
theorem N3{N:tB}(K:sX P N){args:List Value}{v:Value}(h:Kt args m=some (v,m'))(hs:dN P σ m w){args':Array Value}(hl:aU σ args args'.toList):Calls P N.jn args' w (cC P σ m w v m'):=by
 unfold Kt at h
 split at h
 ·cases h
  obtain⟨x',y',rfl,hx,hy⟩:=rm hl
  obtain⟨_,_,rfl⟩:=hx.dZ
  have:=hy.aQ rfl
  subst this
  refine(K.Ks none 0 _ w).mono ?_
  rintro en w2 ⟨rfl,rfl⟩
  exact mn (.flat _ rfl) hs (.refl hs)
 ·rename_i a n c sep
  obtain⟨x',y',rfl,hx,hy⟩:=rm hl
  have:=hy.aQ rfl
  subst this
  split at h
  ·rename_i cs e g hg
   cases hc:(a.spot.isNone && Nat.ble 1 n && Nat.ble n c && Nat.ble (a.off+n) cs.length && Nat.ble n 1048576)with
   |false=>rw[hc]at h;cases h
   |true=>
    rw[hc,cond_true]at h
    simp only[Bool.and_eq_true]at hc
    obtain⟨⟨⟨⟨_,c2⟩,c3⟩,c4⟩,c5⟩:=hc
    have c2:=Nat.le_of_ble_eq_true c2
    have c3:=Nat.le_of_ble_eq_true c3
    have c4:=Nat.le_of_ble_eq_true c4
    have c5:=Nat.le_of_ble_eq_true c5
    split at h
    ·rename_i xs hx2
     cases hd:Nat.ble (Lib.join (xs.map (·.data.toList)) sep.data.toList).length 1048576 with
     |false=>rw[hd]at h;cases h
     |true=>
      rw[hd,cond_true]at h
      cases h
      have hd:=Nat.le_of_ble_eq_true hd
      have hxs:=tH hx2
      have hlen:xs.length=n:=by
       have:=congrArg List.length hxs
       simp only[List.length_take,List.length_drop,List.length_map]at this
       omega
      obtain⟨i,a',c',hi,rfl,hcase⟩:=hx.dc
      have ha':a'=⟨i.cG,a.off,none⟩/\c<=c':=by
       rcases hcase with⟨_,h2,h3⟩ |⟨h2,_⟩
       ·refine⟨h2,?_⟩
        rcases h3 with⟨_,h3⟩ |⟨k,sz,M0,_,h3 |h3⟩
        ·omega
        ·omega
        ·exact h3.1
       ·omega
      obtain⟨rfl,hcc⟩:=ha'
      obtain⟨row,hr1,hr2,hr3,hr4⟩:=hs.cells hi hg
      have hcell:∀(k:Nat) x,xs[k]?=some x->w.cell? ⟨i.cG,a.off+k,none⟩=some (.string x):=by
       intro k x hk
       have hkn:k < n:=by
        rw[<-hlen]
        exact(List.getElem?_eq_some_iff.1 hk).1
       have e1:cs[a.off+k]?=some (.string x):=by
        have:=congrArg (fun l=>l[k]?) hxs
        simp only[List.getElem?_take,List.getElem?_drop,List.getElem?_map]at this
        rw[if_pos hkn,hk]at this
        exact this
       obtain⟨u,hu1,hu2⟩:=hr3.get e1
       rw[List.getElem?_take_of_lt (by omega)]at hu1
       have:=hu2.aQ rfl
       subst this
       simp only[World.cell?,hr1]
       simpa using hu1
      have e2:(Value.slice (some ⟨i.cG,a.off,none⟩) n c')=.slice (some ⟨i.cG,a.off,none⟩) xs.length c':=by rw[hlen]
      rw[e2]
      refine(K.join i.cG a.off c' xs sep w hcell (hs.lt _ _ hi) (by omega) (by omega) hd).mono ?_
      rintro en w2 ⟨rfl,hb⟩
      exact mn (.flat _ rfl) hs (Ev.kept hs (fun B hB=>hb.block B hB) hb.size hb.os hb.tape hb.output)
    ·cases h
  ·cases h
 ·cases h
theorem N6{N:tB}(K:sX P N){args:List Value}{v:Value}(h:Ku N.S args m=some (v,m'))(hs:dN P σ m w){args':Array Value}(hl:aU σ args args'.toList):Calls P N.gs args' w (cC P σ m w v m'):=by
 unfold Ku at h
 split at h
 ·rename_i s t
  obtain⟨x',l1,h1,hx,hl1⟩:=hl.cases
  obtain⟨y',l2,h2,hy,hl2⟩:=hl1.cases
  obtain⟨z',l3,h3,hz,hl3⟩:=hl2.cases
  obtain⟨u',l4,h4,hu,hl4⟩:=hl3.cases
  have h5:=hl4.nil_eq
  have e1:=hx.aQ rfl
  have e2:=hy.aQ rfl
  have e3:=hz.aQ rfl
  have e4:=hu.aQ rfl
  have eargs:args'= #[.string s,.string t,.int .i64 0,.int .i64 (-1)]:=by
   apply Array.ext'
   rw[h1,h2,h3,h4,h5,e1,e2,e3,e4]
  subst eargs
  split at h
  ·rename_i c ht
   cases hb:Nat.ble s.data.toList.length 1048576 with
   |false=>rw[hb]at h;cases h
   |true=>
    rw[hb,cond_true]at h
    cases h
    have hb:=Nat.le_of_ble_eq_true hb
    have e:t=⟨#[c]⟩:=by
     cases t with
     |mk d=>
      congr 1
      exact Array.ext' ht
    rw[e]
    refine(K.split s c w hb).mono ?_
    rintro en w2 ⟨rfl,rfl⟩
    have hev:=Ev.mA (ob:=.cells ((cutAt c s.data.toList).map fun l=> .string ⟨l.toArray⟩) N.S none) (o:=.cells ((cutAt c s.data.toList).map fun l=>Value.string ⟨l.toArray⟩).toArray N.S) (gr:=none) hs
     ⟨_,heap_alloc_new w _,by simp,⟨by simp,fun j u u' hu hu'=>by
      rw[List.take_of_length_le (by simp)]at hu'
      simp only at hu'
      rw[hu]at hu'
      cases hu'
      obtain⟨l,_,rfl⟩:=List.mem_map.1 (List.mem_of_getElem? hu)
      exact .flat _ rfl⟩,rfl,by simp⟩
    refine⟨_,_,rfl,?_,hev⟩
    exact .slice ⟨m.n,0,none⟩ ⟨w.heap.size,none⟩ _ _ (by unfold Sg.add;rw[if_pos rfl]) rfl rfl
  ·cases h
 ·cases h
theorem Ij{T:Nat}{args:List Value}{v:Value}(h:JO T args m=some (v,m')):LK m m':=by
 unfold JO at h
 split at h
 ·split at h
  ·rename_i hg
   rw[cond_eq_ite]at h
   split at h
   ·cases h;exact LK.set (fun r q=>by rw[hg]at q;cases q)
   ·cases h
  ·rw[cond_eq_ite]at h
   split at h
   ·cases h;exact LK.refl
   ·cases h
  ·cases h
 ·cases h
theorem CX{T U:Nat}{args:List Value}{v:Value}(h:rr T U args m=some (v,m')):LK m m':=by
 unfold rr at h
 split at h
 ·split at h
  ·rw[cond_eq_ite]at h
   split at h
   ·cases h;exact LK.refl
   ·cases h
  ·rw[cond_eq_ite]at h
   split at h
   ·split at h
    ·rename_i hg
     rw[cond_eq_ite]at h
     split at h
     ·split at h
      ·cases h;exact LK.set (fun r q=>by rw[hg]at q;cases q)
      ·cases h
     ·cases h
    ·cases h
   ·cases h
  ·cases h
 ·cases h
theorem GL{args:List Value}{v:Value}(h:Kt args m=some (v,m')):LK m m':=by
 unfold Kt at h
 split at h
 ·cases h;exact LK.refl
 ·split at h
  ·rw[cond_eq_ite]at h
   split at h
   ·split at h
    ·rw[cond_eq_ite]at h
     split at h
     ·cases h;exact LK.refl
     ·cases h
    ·cases h
   ·cases h
  ·cases h
 ·cases h
theorem GU{S:Nat}{args:List Value}{v:Value}(h:Ku S args m=some (v,m')):LK m m':=by
 unfold Ku at h
 split at h
 ·split at h
  ·rw[cond_eq_ite]at h
   split at h
   ·cases h;exact LK.push
   ·cases h
  ·cases h
 ·cases h
theorem zI(N:tB):iF (mQ N):=by
 intro f args m v m' h
 unfold mQ at h
 cases f with
 |func f=>
  dsimp only at h
  simp only[cond_eq_ite]at h
  split at h
  ·exact Ij h
  ·split at h
   ·exact CX h
   ·split at h
    ·exact GL h
    ·split at h
     ·exact GU h
     ·cases h
 |_=>cases h
theorem wU{N:tB}(K:sX P N)(hst:N.st=tI)(hcc:Nat.beq tI N.cc=false):cQ P (mQ N):=by
 refine⟨fun f args m v m' hx σ w args' hs hl=>?_,fun l args m v m' hx=>by simp[mQ]at hx,zI N,fun a m v m' b hx hb=>?_⟩
 rotate_left
 ·have h2:Nat.beq tI N.st=true:=by rw[hst];rfl
  simp only[mQ,hcc,h2,cond_false,cond_true]at hx
  obtain⟨q1,q2,q3⟩:=FO K hx hb
  refine⟨q1,q2,fun σ w args' hs hl=>?_⟩
  obtain⟨i,hi,hc⟩:=q3 σ w args' hs hl
  rw[hst]at hc
  exact⟨i,hi,callsIn_wide.2 hc,by have:=K.Nz N.st (.inr (.inl rfl)) args' w;rw[hst]at this;exact this⟩
 unfold mQ at hx
 dsimp only at hx
 cases h1:Nat.beq f N.cc with
 |true=>
  obtain rfl:=Nat.eq_of_beq_eq_true h1
  rw[h1,cond_true]at hx
  exact⟨callsIn_wide.2 (Pc K hx hs hl),K.Nz _ (.inl rfl) _ _⟩
 |false=>
  rw[h1,cond_false]at hx
  cases h2:Nat.beq f N.st with
  |true=>
   obtain rfl:=Nat.eq_of_beq_eq_true h2
   rw[h2,cond_true]at hx
   exact⟨callsIn_wide.2 (NU K hx hs hl),K.Nz _ (.inr (.inl rfl)) _ _⟩
  |false=>
   rw[h2,cond_false]at hx
   cases h3:Nat.beq f N.jn with
   |true=>
    obtain rfl:=Nat.eq_of_beq_eq_true h3
    rw[h3,cond_true]at hx
    exact⟨callsIn_wide.2 (N3 K hx hs hl),K.Nz _ (.inr (.inr (.inl rfl))) _ _⟩
   |false=>
    rw[h3,cond_false]at hx
    cases h4:Nat.beq f N.gs with
    |true=>
     obtain rfl:=Nat.eq_of_beq_eq_true h4
     rw[h4,cond_true]at hx
     exact⟨callsIn_wide.2 (N6 K hx hs hl),K.Nz _ (.inr (.inr (.inr rfl))) _ _⟩
    |false=>rw[h4]at hx;cases hx
theorem nK{c:UInt8}:∀{l:List UInt8},(∀(k:Nat),l[k]?≠some c)->cutAt c l=[l]
 |[],_=>rfl
 |x::r,h=>by
  have hx:(x==c)=false:=by
   rw[beq_eq_false_iff_ne]
   intro e
   exact h 0 (by simp[e])
  have:=nK (l:=r) (fun k=>h (k+1))
  unfold cutAt
  rw[hx,this]
  rfl
theorem sL{c:UInt8}:∀{l:List UInt8} {i:Nat},l[i]?=some c->(∀(k:Nat),k < i->l[k]?≠some c)->cutAt c l=l.take i::cutAt c (l.drop (i+1))
 |[],i,h,_=>by cases h
 |x::r,0,h,_=>by
  have:x=c:=by simpa using h
  subst this
  rw[cutAt]
  simp
 |x::r,i+1,h,hk=>by
  have hx:(x==c)=false:=by
   rw[beq_eq_false_iff_ne]
   intro e
   exact hk 0 (by omega) (by simp[e])
  have:=sL (l:=r) (i:=i) (by simpa using h) (fun k hki=>by have:=hk (k+1) (by omega);simpa using this)
  rw[cutAt,hx,this]
  rfl
theorem ru(c:UInt8):∀(k:Nat) (l:List UInt8),l.count c<=k->Lib.splitK [c] 0 k l=cutAt c l
 |0,l,h=>by
  rw[Lib.splitK,nK]
  intro j hj
  have:=List.count_pos_iff.2 (List.mem_of_getElem? hj)
  omega
 |k+1,l,h=>by
  rw[Lib.splitK,Lib.index_one]
  by_cases hi:Lib.indexByte l c= -1
  ·rw[if_pos (by simp[hi]),nK (Lib.indexByte_none hi)]
  ·have hge:=Lib.indexByte_ge l c
   obtain⟨o,ho⟩:∃o:Nat,Lib.indexByte l c=o:=⟨(Lib.indexByte l c).toNat,by omega⟩
   obtain⟨h1,h2⟩:=Lib.indexByte_some ho
   rw[if_neg (by simp;exact hi),ho,sL h1 h2]
   have e:((o:Int)).toNat=o:=rfl
   rw[e]
   simp only[Nat.add_zero,List.length_cons,List.length_nil,Nat.zero_add]
   rw[ru c k]
   have hlt:=(List.getElem?_eq_some_iff.1 h1).1
   have e2:l=l.take o++c::l.drop (o+1):=by
    have e3:l[o]=c:=by rw[List.getElem?_eq_getElem hlt]at h1;exact Option.some.inj h1
    rw[<-e3,<-List.drop_eq_getElem_cons hlt,List.take_append_drop]
   have e4:=congrArg (List.count c) e2
   rw[List.count_append,List.count_cons_self]at e4
   omega
theorem zK(c:UInt8)(s:ByteArray):Lib.splitB ⟨#[c]⟩ 0 (Lib.countB s ⟨#[c]⟩) s=(cutAt c s.data.toList).map fun l=>⟨l.toArray⟩:=by
 have h:=Lib.splitB_data ⟨#[c]⟩ 0 (Lib.countB s ⟨#[c]⟩) s
 rw[ru c _ _ (by rw[Lib.countB];exact Nat.le_of_eq (Lib.count_one _ _).symm)]at h
 rw[<-h,List.map_map]
 have:((fun l:List UInt8=>(⟨l.toArray⟩:ByteArray))∘ fun x:ByteArray=>x.data.toList)=id:=by
  funext x
  cases x
  simp
 rw[this,List.map_id]
end
end Go.D
namespace Go.Proofs
open Go.Shelf Go.RowKit
section
variable {P:Program} {ρ:Ren}
set_option maxHeartbeats 2000000 in
set_option maxRecDepth 100000 in
theorem sT(L:Lays.n169 P ρ)(X:Builder.Extra P ρ)(b:Nat)(a:Option Addr)(n cap:Nat)(q:Option Addr)(s:ByteArray)(w w2:World)(c1:w.drew.cell? ⟨b,1,none⟩=some (.slice a n cap))
  (hSD:(Builtin.unsafeSliceData_ #[(ρ.t 37)] (ρ.t 127) #[.slice a n cap]).run P w.drew=.ok (.pointer q) w.drew)
  (hUS:(Builtin.unsafeString_ #[(ρ.t 127),(ρ.t 3)] (ρ.t 9) #[.pointer q,.int .i64 n]).run P w.drew=.ok (.string s) w2):
  Calls P (ρ.f 169) #[.pointer (some ⟨b,0,none⟩)] w fun e w'=>e=.returned (.string s)/\w'=w2:=by
 have mixed:=L.mixed
 have t72:=L.t72;have a72:=L.a72;have z72:=L.z72;have v72:=L.v72;have u72:=run_underlying L.t72
 have t70:=L.t70;have a70:=L.a70;have z70:=L.z70;have v70:=L.v70;have u70:=run_underlying L.t70
 have t37:=L.t37;have a37:=L.a37;have z37:=L.z37;have v37:=L.v37;have u37:=run_underlying L.t37
 have t127:=L.t127;have a127:=L.a127;have z127:=L.z127;have v127:=L.v127;have u127:=run_underlying L.t127
 have t3:=L.t3;have a3:=L.a3;have z3:=L.z3;have v3:=L.v3;have u3:=run_underlying L.t3
 have t9:=L.t9;have a9:=L.a9;have z9:=L.z9;have v9:=L.v9;have u9:=run_underlying L.t9
 have t5:=X.t5;have a5:=X.a5;have z5:=X.z5;have v5:=X.v5;have u5:=run_underlying X.t5
 go_enter L.f169,Body.n169_ntmps ρ
 go_wp2
 go_region_o
 all_goals (go_wp2;go_ret;exact⟨rfl,rfl⟩)
end
def hO:D.tB:=⟨141,77,79,144,142,5,9⟩
theorem yW(w:World)(g n:Nat){B:Nat}(hB:B≠g):(w.freeze ⟨g,0,none⟩ n).heap[B]?=w.heap[B]?:=by
 unfold World.freeze
 split
 ·rfl
 ·simp only[Array.getElem?_modify]
  rw[if_neg (fun e=>hB e.symm)]
theorem yV(w:World)(g n:Nat):(w.freeze ⟨g,0,none⟩ n).heap.size=w.heap.size/\(w.freeze ⟨g,0,none⟩ n).os=w.os/\(w.freeze ⟨g,0,none⟩ n).tape=w.tape/\(w.freeze ⟨g,0,none⟩ n).output=w.output:=by
 unfold World.freeze
 split
 ·exact⟨rfl,rfl,rfl,rfl⟩
 ·exact⟨by simp,rfl,rfl,rfl⟩
set_option maxRecDepth 100000 in
theorem Kk:D.sX Tryz.prog hO where
 Nz:=by
  rintro f (rfl |rfl |rfl |rfl)
  ·exact enters_of Tryz.func141 (by kernel_rfl) rfl
  ·exact enters_of Tryz.func77 (by kernel_rfl) rfl
  ·exact enters_of Tryz.func79 (by kernel_rfl) rfl
  ·exact enters_of Tryz.func144 (by kernel_rfl) rfl
 fresh:=fun b w h0 hsh hfz=>Any.Builder_copyCheck_fresh (ρ:=Tryz.jQ) {Tryz.qV with} Tryz.eN.toX72 b w h0 hsh hfz
 used:=fun b w h0=>Any.Builder_copyCheck_used (ρ:=Tryz.jQ) {Tryz.qV with} Tryz.eN.toX72 b w h0
 Kl:=fun b p w hb=>by
  have c1:w.drew.cell? ⟨b,1,none⟩=some (.slice none 0 0):=by
   have:w.drew.heap[b]?=some (.cells #[p,.slice none 0 0] 142 (0,0)):=hb
   rw[Lib.cell_of_heap this];rfl
  refine(sT Tryz.qU Tryz.eM b none 0 0 none ⟨#[]⟩ w w.drew c1 rfl (Any.unsafeString_none Tryz.qU Tryz.eM w.drew none)).mono ?_
  rintro e w' ⟨rfl,rfl⟩
  exact⟨rfl,rfl,rfl,rfl,rfl⟩
 str:=fun b g c p cur l w hb hg h0 hc hcur hlen htake=>by
  have c1:w.drew.cell? ⟨b,1,none⟩=some (.slice (some ⟨g,0,none⟩) l.length c):=by
   have:w.drew.heap[b]?=some (.cells #[p,.slice (some ⟨g,0,none⟩) l.length c] 142 (0,0)):=hb
   rw[Lib.cell_of_heap this];rfl
  have hl0:l.length≠0:=by simpa using h0
  have hg':w.drew.heap[g]?=some (.cells cur 5 (0,0)):=hg
  have hUS:=Lib.run_unsafeString_row (P:=Tryz.prog) w.drew (Tryz.fL.t 127) (Tryz.fL.t 3) (Tryz.fL.t 9) (Tryz.fL.t 5) Tryz.qU.t127 Tryz.eM.cellsByte g cur.size (by simp only[World.shape?,hg'];rfl) l h0 hcur (by omega) (fun j x hx=>by
   have hj:j < l.length:=(List.getElem?_eq_some_iff.1 hx).1
   have e1:cur.toList[j]?=(Lib.byteCells l)[j]?:=by rw[<-htake,List.getElem?_take_of_lt hj]
   rw[D.dz]
   simp only[World.cell?,hg']
   rw[Nat.zero_add]
   have e2:(Lib.byteCells l)[j]?=some (.int .u8 x.toNat):=by simp[Lib.byteCells,hx]
   rw[e2]at e1
   simpa using e1)
  refine(sT Tryz.qU Tryz.eM b (some ⟨g,0,none⟩) l.length c (some ⟨g,0,none⟩) ⟨l.toArray⟩ w _ c1 (Lib.run_unsafeSliceData_row _ _ _ _ _ _ (by omega)) hUS).mono ?_
  rintro e w' ⟨rfl,rfl⟩
  obtain⟨f1,f2,f3,f4⟩:=yV w.drew g l.length
  exact⟨rfl,fun B hB=>yW w.drew g l.length hB,f1,f2,f3,f4⟩
 Ks:=fun a c sep w=>Any.strings_Join_none Tryz.qV Tryz.eN a c sep w
 join:=fun bk o c xs sep w h1 h2 h3 h4 h5=>Any.strings_Join Tryz.qV Tryz.eN bk o c xs sep w h1 h2 (by omega) h4 (by omega)
 split:=fun s c w hs=>by
  have hsz:s.size=s.data.toList.length:=by rfl
  have hcn:Lib.countB s ⟨#[c]⟩=s.data.toList.count c:=Lib.count_one _ _
  have hle:Lib.countB s ⟨#[c]⟩<=s.data.toList.length:=by rw[hcn];exact List.count_le_length
  have h:=Any.strings_genSplit_core Tryz.Jk (by kernel_rfl) s ⟨#[c]⟩ 0 (-1) (Lib.countB s ⟨#[c]⟩+1) w (by rw[hsz];omega) (Nat.le_refl 1) (Nat.zero_le _)
   (fun x cc _=>by
    have:=Any.strings_Index_one Tryz.Jl x c (w.alloc (.cells cc (Tryz.qk.t 9)))
    rw[<-Lib.index_one]at this
    exact this)
   (by
    have:=Any.strings_Count_one Tryz.Jm s c w
    rw[show Lib.countByte s.data.toList c=Lib.countB s ⟨#[c]⟩from hcn.symm]at this
    exact this) (by decide) (by decide) (by rw[if_pos (by decide),hsz];omega)
  have hcut:=D.zK c s
  have hlen:(Lib.splitB ⟨#[c]⟩ 0 (Lib.countB s ⟨#[c]⟩) s).length=Lib.countB s ⟨#[c]⟩+1:=Lib.splitB_all ⟨#[c]⟩ (Nat.le_refl 1) 0 _ s rfl
  rw[Nat.add_sub_cancel]at h
  have hcells:Lib.cellsOf (Lib.splitB ⟨#[c]⟩ 0 (Lib.countB s ⟨#[c]⟩) s) (Lib.countB s ⟨#[c]⟩+1)=((Lib.splitB ⟨#[c]⟩ 0 (Lib.countB s ⟨#[c]⟩) s).map Value.string).toArray:=by rw[<-hlen];exact Lib.cellsOf_full _
  rw[hcells,hlen]at h
  have hl2:(D.cutAt c s.data.toList).length=Lib.countB s ⟨#[c]⟩+1:=by rw[<-hlen,hcut,List.length_map]
  rw[hcut,List.map_map]at h
  rw[hl2]
  exact h
end Go.Proofs
namespace Go.Proofs.YtmdfgncoekfgdaaGreatDoor
open Go Go.D
variable {X:aF} {m:M}
structure EI(X:aF):Prop where
 cc:∀args m r,JO hO.T args m=some r->X (.func 141) args m=some r
 st:∀args m r,rr hO.T hO.U args m=some r->X (.func 77) args m=some r
 jn:∀args m r,Kt args m=some r->X (.func 79) args m=some r
 gs:∀args m r,Ku hO.S args m=some r->X (.func 144) args m=some r
instance:aL UInt8 where
 ty:=5
 sz:=1
 agg:=false
 fR:=[]
 rep _ x cs:=cs=[.int .u8 x.toNat]
 pos:=by decide
 one:=by intro _;rfl
 len:=by rintro _ _ _ rfl;rfl
 nB:=by rintro _ _ _ rfl;rfl
 bt:=by rintro _ _ _ _ rfl _;rfl
theorem It:EC TE 52 UInt8:=⟨af.t52,af.t5,by kernel_rfl,rfl,rfl,by kernel_rfl,by decide,rfl⟩
abbrev str(l:List UInt8):Value:=.string ⟨l.toArray⟩
theorem hM(l:List UInt8):(⟨l.toArray⟩:ByteArray).size=l.length:=by simp[ByteArray.size]
theorem Ek{l:List UInt8}:first? m 1 l.length (str l)=some (l.map fun b=> .int .u8 b.toNat):=by
 have h:(⟨l.toArray⟩:ByteArray).extract 0 l.length=⟨l.toArray⟩:=by
  apply ByteArray.ext
  simp
 unfold first?
 dsimp only
 rw[h]
theorem Ow.Bf{n1:Nat}{l s:List UInt8}{v:Value}(h:Ow n1 m l v)(hn:n1<=m.n)(hs:l.length+s.length<=268435456):
  ∃v' m1,an TE (m.wl m.n) .append [52,9] [v,str s]=some (v',m1)/\Ow n1 m1 (l++s) v'/\uG n1 m m1/\n1<=m1.low/\m1.n<=m.n+1:=
 Ow.wC (ys:=s) (U:=9) (ui:=af.t9) It (by simp[aL.fR]) h (by kernel_rfl) (fun k=>by intro h;cases h) (by show some _=_;rw[hM]) Ek (by show(s.map fun b=>Value.int .u8 b.toNat).length=s.length*1;simp)
  (by rw[List.all_eq_true];intro x hx;obtain⟨b,_,rfl⟩:=List.mem_map.1 hx;rfl)
  (fun i x hi=>by
   show chunk _ 1 i=_
   unfold chunk
   rw[Nat.mul_one,List.take_one,List.head?_drop,List.getElem?_map,hi]
   rfl) hn hs
def Bd(m:M)(bb:Nat)(l:List UInt8):Prop:=
 ∃p s,m.get bb=.cells [p,s] 142 none/\((p=.pointer none/\s=.slice none 0 0/\l=[])\/(p=ptrTo bb/\Ow (bb+1) m l s))
structure EB(bb:Nat)(m m1:M):Prop where
 n:m.n<=m1.n
 lo:∀c,c < bb->m1.get c=m.get c
 get:∀c,c < m.n->c≠bb->(∀cs g,m.get c≠.cells cs 5 g)->m1.get c=m.get c
theorem EB.trans{bb:Nat}{m m1 m2:M}(h:EB bb m m1)(h':EB bb m1 m2):EB bb m m2:=
 ⟨Nat.le_trans h.n h'.n,fun c hc=>by rw[h'.lo c hc,h.lo c hc],fun c hc hne ht=>by rw[h'.get c (Nat.lt_of_lt_of_le hc h.n) hne (by rw[h.get c hc hne ht];exact ht),h.get c hc hne ht]⟩
theorem EB.refl{bb:Nat}{m:M}:EB bb m m:=⟨Nat.le_refl _,fun _ _=>rfl,fun _ _ _ _=>rfl⟩
theorem M9{bb:Nat}(h:m.get bb=.cells [.pointer none,.slice none 0 0] 142 none):Bd m bb []:=⟨_,_,h,.inl ⟨rfl,rfl,rfl⟩⟩
theorem Bd.lt{bb:Nat}{l:List UInt8}(h:Bd m bb l):bb < m.n:=by
 obtain⟨p,s,h,_⟩:=h
 exact M.aV h
theorem Bd.aB{bb:Nat}{l:List UInt8}{m1:M}(h:Bd m bb l)(he:Ext m m1):Bd m1 bb l:=by
 obtain⟨p,s,h1,h2⟩:=h
 exact⟨p,s,he.cells h1,h2.imp (fun h=>h) fun h=>⟨h.1,h.2.aB he⟩⟩
theorem BB{α:Type}[aL α]{n1:Nat}{l:List α}{v:Value}(h:Ow n1 m l v){a:Addr}{n k:Nat}(e:v=.slice (some a) n k):∃cs g,m.get a.block=.cells cs (aL.ty α) g/\n1<=a.block:=by
 rcases h with⟨rfl,_⟩ |⟨b,cs,rfl,h2,h3,h4,_⟩
 ·cases e
 ·cases e;exact⟨_,_,h4,h3⟩
theorem KG(hS:EI X){bb:Nat}{l:List UInt8}(h:Bd m bb l):∃m1 b s,C X (.func 141) [ptrTo bb] m b (.tuple #[]) m1/\bb<=b/\m1.n=m.n/\m1.get bb=.cells [ptrTo bb,s] 142 none/\Ow (bb+1) m1 l s/\∀c,c≠bb->m1.get c=m.get c:=by
 have hlt:=h.lt
 obtain⟨p,s,h1,⟨rfl,rfl,rfl⟩ |⟨rfl,h2⟩⟩:=h
 ·refine⟨m.set bb (.cells [ptrTo bb,.slice none 0 0] 142 none),bb,.slice none 0 0,.GK (fun l hl=>?_) (Nat.le_refl _) (by omega),Nat.le_refl _,rfl,M.dr hlt,.nil,fun c hc=>M.bZ hc⟩
  refine hS.cc _ _ _ ?_
  unfold JO ptrTo
  dsimp only
  rw[M.bS,h1]
  dsimp only
  rw[show(Nat.beq 142 hO.T && Nat.beq 0 0 && (none:Option Nat).isNone)=true from rfl,cond_true]
  rfl
 ·refine⟨m,m.n,s,.known (fun l=>?_) (Nat.le_refl _) ⟨_,rfl⟩,by omega,rfl,h1,h2,fun _ _=>rfl⟩
  refine hS.cc _ _ _ ?_
  unfold JO ptrTo
  dsimp only
  rw[M.bS,h1]
  unfold ptrTo
  dsimp only
  have e:(Nat.beq 142 hO.T && Nat.beq 0 0 && (none:Option Nat).isNone && Nat.beq bb bb && Nat.beq 0 0 && (none:Option Nat).isNone)=true:=by rw[Nat.beq_refl bb];rfl
  rw[e]
  rfl
theorem qZ(hX:cW X)(hS:EI X){bb:Nat}{l s:List UInt8}(h:Bd m bb l)(hs:l.length+s.length<=268435456):
  ∃v m',C X (.func 75) [ptrTo bb,str s] m bb v m'/\Bd m' bb (l++s)/\EB bb m m':=by
 have hlt:=h.lt
 have key:∃v m' b,C X (.func 75) [ptrTo bb,str s] m b v m'/\b=bb/\Bd m' bb (l++s)/\EB bb m m':=by
  refine Cl.heap (R:=fun v m' b=>b=bb/\Bd m' bb (l++s)/\EB bb m m') (hX.no _ rfl) On rfl ?_
  rw[Yz];dsimp only[aI]
  obtain⟨m2,b3,sl,hc,hb3,hn2,hg2,ho2,hk2⟩:=KG hS h
  refine aC hc ?_
  unfold ptrTo at hg2⊢
  rw[di,aa,fC,aa,BP,av hg2]
  show ah (some sl) _
  rw[aa]
  obtain⟨v',m8,ha,ho8,hf8,hl8,hn8⟩:=Ow.Bf (s:=s) ho2 (by omega) hs
  rw[ha,ar,aa,fC,aa]
  have hoth:∀c,c < m.n->c≠bb->(∀cs g,m.get c≠.cells cs 5 g)->m8.get c=m.get c:=fun c hc hne ht=>by
   rw[fj ha (by omega) fun a n k e he=>?_,hk2 c hne]
   obtain⟨cs,g,hg,_⟩:=BB ho2 e
   rw[<-he,hk2 c hne]at hg
   exact ht _ _ hg
  have hg8:m8.get bb=.cells [.pointer (some ⟨bb,0,none⟩),sl] 142 none:=by rw[hf8.get bb (by omega),hg2]
  have h1:one v'=true:=ho8.sl.one
  have hcl:cells v'=[v']:=ho8.sl.cells
  refine bM Ki hg8 (by rw[hcl];rfl) (by rw[hcl];simp) (by rw[hcl];simp[h1]) fun m11 hn11 hg11 hk11=>?_
  have ln:an TE m11 .len [9] [str s]=some (.int .i64 s.length,m11):=by
   have:an TE m11 .len [9] [str s]=some (.int .i64 ((⟨s.toArray⟩:ByteArray).size:Nat),m11):=by kernel_rfl
   rw[this,hM]
  rw[ln,ar]
  have hmin:min (min (min m.n b3) m8.low) bb=bb:=by omega
  rw[hmin]
  have hnn:m8.n<=m11.n:=by omega
  have h82:m.n<=m8.n:=by have:=hf8.n;omega
  refine⟨.inr hlt,by omega,⟨ptrTo bb,v',?_,.inr ⟨rfl,ho8.bt fun b c t g hb ht=>?_⟩⟩,⟨by omega,fun c hc=>?_,fun c hc hne ht=>?_⟩⟩
  ·rw[hg11,hcl];rfl
  ·rw[hk11 b ?_,hb]
   rintro rfl
   rw[hg8]at hb
   cases hb
   revert ht
   decide
  ·rw[hk11 c (by omega),hf8.get c (by omega),hk2 c (by omega)]
  ·rw[hk11 c hne,hoth c hc hne ht]
 obtain⟨v,m',b,hc,rfl,h1,h2⟩:=key
 exact⟨v,m',hc,h1,h2⟩
theorem Lq{b:Nat}{x:UInt8}{g:Option Nat}(h:m.get b=.cells [.int .u8 x.toNat] 5 g):Sl m [x] (.slice (some ⟨b,0,none⟩) 1 1):=by
 refine .inr ⟨b,0,1,_,g,rfl,h,by simp[aL.sz],fun i y hi=>?_⟩
 match i with
 |0=>cases hi;rfl
 |i+1=>simp at hi
theorem nX(hX:cW X)(hS:EI X){bb:Nat}{l:List UInt8}{x:UInt8}(h:Bd m bb l)(hs:l.length+1<=268435456):
  ∃v m',C X (.func 76) [ptrTo bb,.int .u8 x.toNat] m bb v m'/\Bd m' bb (l++ [x])/\EB bb m m':=by
 have hlt:=h.lt
 have key:∃v m' b,C X (.func 76) [ptrTo bb,.int .u8 x.toNat] m b v m'/\b=bb/\Bd m' bb (l++ [x])/\EB bb m m':=by
  refine Cl.heap (R:=fun v m' b=>b=bb/\Bd m' bb (l++ [x])/\EB bb m m') (hX.no _ rfl) Om rfl ?_
  rw[Yy];dsimp only[aI]
  obtain⟨m2,b3,sl,hc,hb3,hn2,hg2,ho2,hk2⟩:=KG hS h
  refine aC hc ?_
  unfold ptrTo at hg2⊢
  rw[di,aa,fC,aa,BP,av hg2]
  show ah (some sl) _
  rw[aa]
  have hbs:az TE m2 52 1 [(0,.int .u8 x.toNat)]=some (.slice (some ⟨m2.n,0,none⟩) 1 1,m2.push (.cells [.int .u8 x.toNat] 5 none)):=by kernel_rfl
  rw[hbs,ar]
  have hx6:Ext m2 (m2.push (.cells [.int .u8 x.toNat] 5 none)):=Ext.refl.push
  generalize hm6:m2.push (.cells [.int .u8 x.toNat] 5 none)=m6 at*
  have hg6:m6.get m2.n=.cells [.int .u8 x.toNat] 5 none:=by rw[<-hm6];exact M.aN
  have hn6:m6.n=m2.n+1:=by rw[<-hm6];rfl
  obtain⟨v',m8,ha,ho8,hf8,hl8,hn8⟩:=Ow.append (y:=.slice (some ⟨m2.n,0,none⟩) 1 1) (ys:=[x]) It (by simp[aL.fR]) (ho2.aB hx6) (Lq hg6) (by omega) (by simpa using hs)
  rw[ha,ar,aa,fC,aa]
  have hoth:∀c,c < m.n->c≠bb->(∀cs g,m.get c≠.cells cs 5 g)->m8.get c=m.get c:=fun c hc hne ht=>by
   rw[fj ha (by omega) fun a n k e he=>?_,hx6.get c (by omega),hk2 c hne]
   obtain⟨cs,g,hg,_⟩:=BB ho2 e
   rw[<-he,hk2 c hne]at hg
   exact ht _ _ hg
  have hg8:m8.get bb=.cells [.pointer (some ⟨bb,0,none⟩),sl] 142 none:=by rw[hf8.get bb (by omega),hx6.get bb (by omega),hg2]
  have h1:one v'=true:=ho8.sl.one
  have hcl:cells v'=[v']:=ho8.sl.cells
  refine bM Ki hg8 (by rw[hcl];rfl) (by rw[hcl];simp) (by rw[hcl];simp[h1]) fun m11 hn11 hg11 hk11=>?_
  have hmin:min (min (min m.n b3) m8.low) bb=bb:=by omega
  rw[hmin]
  have h82:m.n<=m8.n:=by have:=hf8.n;omega
  refine⟨.inr hlt,by omega,⟨ptrTo bb,v',?_,.inr ⟨rfl,ho8.bt fun b c t g hb ht=>?_⟩⟩,⟨by omega,fun c hc=>?_,fun c hc hne ht=>?_⟩⟩
  ·rw[hg11,hcl];rfl
  ·rw[hk11 b ?_,hb]
   rintro rfl
   rw[hg8]at hb
   cases hb
   revert ht
   decide
  ·rw[hk11 c (by omega),hf8.get c (by omega),hx6.get c (by omega),hk2 c (by omega)]
  ·rw[hk11 c hne,hoth c hc hne ht]
 obtain⟨v,m',b,hc,rfl,h1,h2⟩:=key
 exact⟨v,m',hc,h1,h2⟩
end Go.Proofs.YtmdfgncoekfgdaaGreatDoor
namespace Go.Proofs.YtmdfgncoekfgdaaGreatDoor
open Go Go.D
variable {X:aF} {m:M}
theorem _root_.Go.D.Sl.iD{l:List Int}{v:Value}(h:Sl m l v){i:Nat}{n:Int}(hi:l[i]?=some n){k:IntKind}:∃a,ai TE 25 v (.int k i)=some a/\ag TE m 3 a=some (.int .i64 n):=by
 obtain⟨a,cs,h1,h2,h3⟩:=h.index eK (k:=k) hi
 rw[show cs=[.int .i64 n]from h3]at h2
 exact⟨a,h1,h2⟩
theorem _root_.Go.D.iV.iD{l:List Int}{v:Value}(h:iV m l v){i:Nat}{n:Int}(hi:l[i]?=some n){k:IntKind}:∃a,ai TE 25 v (.int k i)=some a/\ag TE m 3 a=some (.int .i64 n):=by
 obtain⟨a,cs,h1,h2,h3⟩:=h.index eK (k:=k) hi
 rw[show cs=[.int .i64 n]from h3]at h2
 exact⟨a,h1,h2⟩
theorem sf{α:Type}{l l':List α}(hl:l.length=l'.length)(h:∀j x y,j < l.length->l[j]?=some x->l'[j]?=some y->x=y):l=l':=by
 refine List.ext_getElem? fun i=>?_
 by_cases hi:i < l.length
 ·have h1:l[i]?=some l[i]:=List.getElem?_eq_getElem hi
  have h2:l'[i]?=some (l'[i]'(by omega)):=List.getElem?_eq_getElem _
  rw[h1,h2,h i _ _ hi h1 h2]
 ·rw[List.getElem?_eq_none (by omega),List.getElem?_eq_none (by omega)]
theorem Jo(hX:cW X){l l':List Int}{v v':Value}(hl:Sl m l v)(hl':Sl m l' v')(hb:l.length < 4611686018427387904):C X (.func 65) [v,v'] m m.n (.bool (decide (l=l'))) m:=by
 refine Cl.flat (hX.no _ rfl) OB rfl rfl ?_
 rw[YJ];dsimp only[aI]
 rw[hl.len eK,ar,hl'.len eK,ar]
 simp only[bI,aa,aj]
 refine ak (fun h=>⟨?_,Nat.le_refl _⟩) (fun h=>?_)
 ·have:l≠l':=fun e=>by subst e;simp at h
  simp[aR,this]
 ·have hlen:l.length=l'.length:=by
   have:(l.length:Int)=(l'.length:Int):=by simpa using h
   omega
  refine Lp.intro (γ:=Nat) (fun i=>l.length-i) (fun i vs m1 lo=>vs=[.bool false,.int .i64 i]/\i<=l.length/\m=m1/\m.n<=lo/\∀j x y,j < i->l[j]?=some x->l'[j]?=some y->x=y) 0 ⟨rfl,Nat.zero_le _,rfl,Nat.le_refl _,fun j x y hj=>by omega⟩ ?_
  rintro i vs m1 lo ⟨rfl,hi,rfl,hlo,hall⟩
  simp only[aA]
  rw[hl.len eK,ar]
  simp only[aH,aa,aj]
  refine ak (fun hlt=>?_) (fun hge=>?_)
  ·have hlt:i < l.length:=by simpa using hlt
   obtain⟨x,hx⟩:∃x,l[i]?=some x:=⟨_,List.getElem?_eq_getElem hlt⟩
   obtain⟨y,hy⟩:∃y,l'[i]?=some y:=⟨_,List.getElem?_eq_getElem (by omega)⟩
   obtain⟨a,e1,e2⟩:=hl.iD (k:=.i64) hx
   obtain⟨b,e3,e4⟩:=hl'.iD (k:=.i64) hy
   rw[e1,aa,e2,aa,e3,aa,e4,aa]
   simp only[bI,aa,aj]
   refine ak (fun hne=>⟨?_,hlo⟩) (fun he=>?_)
   ·have:l≠l':=fun e=>by subst e;rw[hx]at hy;cases hy;simp at hne
    simp[aR,this]
   ·simp only[aG,aa]
    rw[wrap64 (by omega) (by omega)]
    refine⟨i+1,by omega,by simp,by omega,by first |rfl |trivial,hlo,fun j x' y' hj hx' hy'=>?_⟩
    by_cases hji:j < i
    ·exact hall j x' y' hji hx' hy'
    ·have:j=i:=by omega
     subst this
     rw[hx]at hx';rw[hy]at hy'
     cases hx';cases hy'
     simpa using he
  ·have hi':i=l.length:=by
    have:¬(i:Int)< (l.length:Int):=by simpa using hge
    omega
   have:l=l':=sf hlen fun j x y hj=>hall j x y (by omega)
   exact⟨by simp[aR,this],hlo⟩
theorem Ly{p q:Pl}:aq TE .neq 98 p.v q.v=some (.bool (!(decide (p=q)))):=by
 have e:aq TE .neq 98 p.v q.v=(eq? TE 98 p.v q.v).map (fun b=> .bool (!b)):=by kernel_rfl
 rw[e,KE];rfl
theorem Dd(hX:cW X){l l':List Pl}{v v':Value}(hl:Sl m l v)(hl':Sl m l' v')(hb:l.length < 4611686018427387904):C X (.func 83) [v,v'] m m.n (.bool (decide (l=l'))) m:=by
 refine Cl.flat (hX.no _ rfl) Oh rfl rfl ?_
 rw[Yt];dsimp only[aI]
 rw[hl.len cX,ar,hl'.len cX,ar]
 simp only[bI,aa,aj]
 refine ak (fun h=>⟨?_,Nat.le_refl _⟩) (fun h=>?_)
 ·have:l≠l':=fun e=>by subst e;simp at h
  simp[aR,this]
 ·have hlen:l.length=l'.length:=by
   have:(l.length:Int)=(l'.length:Int):=by simpa using h
   omega
  refine Lp.intro (γ:=Nat) (fun i=>l.length-i) (fun i vs m1 lo=>vs=[.bool false,.int .i64 i]/\i<=l.length/\m=m1/\m.n<=lo/\∀j x y,j < i->l[j]?=some x->l'[j]?=some y->x=y) 0 ⟨rfl,Nat.zero_le _,rfl,Nat.le_refl _,fun j x y hj=>by omega⟩ ?_
  rintro i vs m1 lo ⟨rfl,hi,rfl,hlo,hall⟩
  simp only[aA]
  rw[hl.len cX,ar]
  simp only[aH,aa,aj]
  refine ak (fun hlt=>?_) (fun hge=>?_)
  ·have hlt:i < l.length:=by simpa using hlt
   obtain⟨x,hx⟩:∃x,l[i]?=some x:=⟨_,List.getElem?_eq_getElem hlt⟩
   obtain⟨y,hy⟩:∃y,l'[i]?=some y:=⟨_,List.getElem?_eq_getElem (by omega)⟩
   obtain⟨a,e1,e2⟩:=hl.iJ (k:=.i64) hx
   obtain⟨b,e3,e4⟩:=hl'.iJ (k:=.i64) hy
   rw[e1,aa,e2,aa,e3,aa,e4,aa,Ly,aa,aj]
   refine ak (fun hne=>⟨?_,hlo⟩) (fun he=>?_)
   ·have:l≠l':=fun e=>by subst e;rw[hx]at hy;cases hy;simp at hne
    simp[aR,this]
   ·simp only[aG,aa]
    rw[wrap64 (by omega) (by omega)]
    refine⟨i+1,by omega,by simp,by omega,by first |rfl |trivial,hlo,fun j x' y' hj hx' hy'=>?_⟩
    by_cases hji:j < i
    ·exact hall j x' y' hji hx' hy'
    ·have:j=i:=by omega
     subst this
     rw[hx]at hx';rw[hy]at hy'
     cases hx';cases hy'
     simpa using he
  ·have hi':i=l.length:=by
    have:¬(i:Int)< (l.length:Int):=by simpa using hge
    omega
   have:l=l':=sf hlen fun j x y hj=>hall j x y (by omega)
   exact⟨by simp[aR,this],hlo⟩
theorem tg(hX:cW X){l l':List Pl}{v v':Value}(hl:Sl m l v)(hl':Sl m l' v')(hb:l.length < 4611686018427387904):C X (.func 27) [v,v'] m m.n (.bool (decide (l=l'))) m:=by
 refine Cl.flat (hX.no _ rfl) OS rfl rfl ?_
 rw[YZ];dsimp only[aI]
 exact aC (Dd hX hl hl' hb) ⟨rfl,by omega⟩
theorem De(hX:cW X){w h w' h':Int}{l l':List Int}{v v':Value}(hl:Sl m l v)(hl':Sl m l' v')(hb:l.length < 4611686018427387904):
  C X (.func 13) [cF w h v,cF w' h' v'] m m.n (.bool (decide (w=w') && decide (h=h') && decide (l=l'))) m:=by
 refine Cl.flat (hX.no _ rfl) O0 rfl rfl ?_
 rw[Y7];dsimp only[aI]
 refine au fun m1 hn1 hg1 hk1=>?_
 refine au fun m2 hn2 hg2 hk2=>?_
 have hg1':=(hk2 m.n (by omega)).trans hg1
 simp only[aP]at hg1' hg2
 have hx2:Ext m m2:=⟨by omega,fun b hb=>by rw[hk2 b (by omega),hk1 b hb]⟩
 refine bY (fun vs m3 lo=>vs=[.bool (decide (w=w') && decide (h=h') && decide (l=l'))]/\m.n<=lo) (fun R hR=>?_) ?_
 ·simp only[aa,ar,bU,aj,bJ,aM,cK,aH,ck,bX,bE,bI,aX,ptrTo,di,dj,Nat.zero_add,Nat.reduceAdd,List.getElem?_cons_zero,List.getElem?_cons_succ,List.drop_zero,List.drop_succ_cons,List.take_succ_cons,List.take_zero,Option.map_some,aP,dI,dm,cP,dG,dH,dk,bj,bB,bh,ez,bu,av hg1',av hg2]
  refine ak (fun h1=>?_) (fun h1=>hR _ _ _ ⟨by simp[h1],Nat.le_refl _⟩)
  refine ak (fun h2=>?_) (fun h2=>hR _ _ _ ⟨by simp[h2],Nat.le_refl _⟩)
  refine aC (Jo hX (hl.aB hx2) (hl'.aB hx2) hb) ?_
  exact hR _ _ _ ⟨by rw[h1,h2,Bool.true_and,Bool.true_and],by omega⟩
 ·rintro _ m3 lo ⟨rfl,hlo⟩
  rw[aA]
  exact⟨rfl,hlo⟩
end Go.Proofs.YtmdfgncoekfgdaaGreatDoor
namespace Go.Proofs.YtmdfgncoekfgdaaGreatDoor
open Go Go.D
variable {X:aF} {m:M}
def CZ(xs:List Int)(i:Nat):Int:=match xs[i%xs.length]? with |some n=>n |none=>7*i
def fx(xs:List Int)(n:Nat):List Int:=(List.range n).map fun i=>cM (CZ xs i) 101-1
theorem Ap{xs:List Int}{n:Nat}:fx xs (n+1)=fx xs n++ [cM (CZ xs n) 101-1]:=by simp[fx,List.range_succ]
theorem gJ{xs:List Int}{n:Nat}:(fx xs n).length=n:=by simp[fx]
theorem ub(hX:cW X){a b:Int}{xs:List Int}{v:Value}(ha:fP a)(hb:fP b)(hl:iV m xs v)(hxs:∀n∈xs,fP n)(hlen:xs.length < 9223372036854775808):
  ∃w h:Nat,∃v' m',(w:Int)=1+cM a 12/\(h:Int)=1+cM b 12/\C X (.func 19) [.int .i64 a,.int .i64 b,v] m m.n (cF w h v') m'/\Ext m m'/\Ow m.n m' (fx xs (w*h)) v':=by
 have pa:=fw (c:=a) (n:=12) (by omega)
 have pb:=fw (c:=b) (n:=12) (by omega)
 obtain⟨w,hw⟩:∃w:Nat,(w:Int)=1+cM a 12:=⟨(1+cM a 12).toNat,by omega⟩
 obtain⟨h,hh⟩:∃h:Nat,(h:Int)=1+cM b 12:=⟨(1+cM b 12).toNat,by omega⟩
 have hw12:1<=w/\w<=12:=by omega
 have hh12:1<=h/\h<=12:=by omega
 have hwh:w*h<=12*12:=Nat.mul_le_mul hw12.2 hh12.2
 have hwp:0 < w*h:=Nat.mul_pos (by omega) (by omega)
 have key:=Cl.heap (E:=TE) (X:=X) (f:=19) (args:=[.int .i64 a,.int .i64 b,v]) (m:=m) (R:=fun r m' bb=>bb=m.n/\Ext m m'/\∃v',r=cF w h v'/\Ow m.n m' (fx xs (w*h)) v') (hX.no _ rfl) OW rfl ?_
 ·obtain⟨r,m',bb,hc,rfl,hx,v',rfl,hr⟩:=key
  exact⟨w,h,v',m',hw,hh,hc,hx,hr⟩
 rw[Y3];dsimp only[aI]
 refine au fun m1 hn1 hg1 hk1=>?_
 refine aC (ki hX ha (by omega)) ?_
 rw[aG,aa,wrap64 (by omega) (by omega)]
 refine aC (ki hX hb (by omega)) ?_
 rw[aG,aa,wrap64 (by omega) (by omega),<-hw,<-hh,eC rfl rfl,aa]
 refine au fun m3 hn3 hg3 hk3=>?_
 simp only[ptrTo]
 refine aD dw hg3 rfl rfl rfl fun m4 hn4 hg4 hk4=>?_
 have hx4:Ext m m4:=⟨by omega,fun b hb=>by rw[hk4 b (by omega),hk3 b (by omega),hk1 b hb]⟩
 have g04:m4.get m.n=.cells [.int .i64 0,.int .i64 0,.slice none 0 0] 27 none:=by rw[hk4 _ (by omega),hk3 _ (by omega),hg1]
 refine Lp.intro (γ:=Nat) (fun i=>w*h-i) (fun i vs m9 lo=>vs=[.int .i64 i]/\i<=w*h/\Ext m m9/\m.n+2<=m9.n/\m.n<=lo/\(∃v,m9.get m1.n=.cells [.int .i64 w,.int .i64 h,v] 27 none/\Ow (m.n+2) m9 (fx xs i) v)/\∃cs,m9.get m.n=.cells cs 27 none/\cs.length=3) 0
  ⟨rfl,Nat.zero_le _,hx4,by omega,by omega,⟨_,hg4,Ow.nil⟩,_,g04,rfl⟩ ?_
 rintro i vs m9 lo9 ⟨rfl,hi,hx9,hn9,hlo9,⟨v9,hb9,ho9⟩,cs9,hz9,hcl9⟩
 have hl9:=hl.aB hx9
 have hmul:(w:Int)*(h:Int)=((w*h:Nat):Int):=by rw[Int.natCast_mul]
 simp only[aA,bj,bB,bh,aa,bu,ez,av hb9,Nat.zero_add,List.getElem?_cons_zero,List.getElem?_cons_succ,cA]
 rw[hmul,wrap64 (by omega) (by omega)]
 simp only[aH,aa,aj]
 have tail:∀(n:Int) (P:List Value->M->Nat->Prop),n=CZ xs i->fP n->(∀m11 lo,Ext m m11->m.n+2<=m11.n->m.n<=lo->(∃v,m11.get m1.n=.cells [.int .i64 w,.int .i64 h,v] 27 none/\Ow (m.n+2) m11 (fx xs (i+1)) v)->(∃cs,m11.get m.n=.cells cs 27 none/\cs.length=3)->P [.int .i64 ((i+1:Nat):Int)] m11 lo)->i < w*h->
   bz TE X (.func 73) [.int .i64 n,.int .i64 101] m9 fun v35 m36 b37=>m9.n<=b37/\ah (aq TE .sub 3 v35 (.int .i64 1)) fun v38=>aK (az TE m36 25 1 [(0,v38)]) fun v39 m40=>aK (an TE (m40.wl m40.n) .append [25,25] [v9,v39]) fun v41 m42=>
    aK (aw TE m42 25 (.pointer (some ⟨m1.n,2,none⟩)) v41) fun m44 b45=>ah (aq TE .add 3 (.int .i64 i) (.int .i64 1)) fun v46=>P [v46] m44 (min (min (min lo9 b37) m42.low) b45):=by
  intro n P hsrc hr hP hlt
  have pn:=fw (c:=n) (n:=101) (by omega)
  refine aC (ki hX hr (by omega)) ⟨Nat.le_refl _,?_⟩
  rw[cz,aa,wrap64 (by omega) (by omega)]
  refine ho9.Ci hn9 (by rw[gJ];omega) fun v10 m10 ho10 hf10 hlow hn10=>?_
  have hb10:m10.get m1.n=.cells [.int .i64 w,.int .i64 h,v9] 27 none:=by rw[hf10.get _ (by omega),hb9]
  have hz10:m10.get m.n=.cells cs9 27 none:=by rw[hf10.get _ (by omega),hz9]
  have hcv:cells v10=[v10]:=ho10.sl.cells
  refine bM oe hb10 (by rw[hcv];rfl) (by rw[hcv];exact Nat.le_refl _) (by rw[hcv];simp[ho10.sl.one]) fun m11 hn11 hg11 hk11=>?_
  rw[aG,aa,wrap64 (by omega) (by omega)]
  rw[hcv]at hg11
  refine hP m11 _ ⟨by have:=hx9.n;omega,fun b hb=>by rw[hk11 b (by omega),hf10.get b (by omega),hx9.get b hb]⟩ (by omega) (by omega) ⟨v10,hg11,?_⟩ ⟨cs9,by rw[hk11 _ (by omega),hz10],hcl9⟩
  rw[Ap,<-hsrc]
  refine ho10.bt fun b c t g hb ht=>?_
  by_cases hbm:b=m1.n
  ·subst hbm
   rw[hb10]at hb
   cases hb
   simp[aL.ty,aL.fR]at ht
  ·rw[hk11 b hbm,hb]
 refine ak (fun hlt=>?_) (fun hge=>?_)
 ·have hlt:i < w*h:=Int.ofNat_lt.1 (of_decide_eq_true hlt)
  rw[wrap64 (by omega) (by omega),hl9.len eK]
  simp only[ar,bX,aa,aj]
  refine ak (fun hpos=>?_) (fun hno=>?_)
  ·have hpos:0 < xs.length:=by simpa using hpos
   obtain⟨n,hn⟩:∃n,xs[i%xs.length]?=some n:=⟨_,List.getElem?_eq_getElem (Nat.mod_lt _ hpos)⟩
   rw[kG (by omega),aa]
   obtain⟨q,e1,e2⟩:=hl9.iD (k:=.i64) hn
   rw[e1,aa,e2,aa]
   refine tail n (fun vs mm lo=>∃g',w*h-g' < w*h-i/\vs=[Value.int .i64 ((g':Nat):Int)]/\g'<=w*h/\Ext m mm/\m.n+2<=mm.n/\m.n<=lo/\(∃v,mm.get m1.n=.cells [.int .i64 w,.int .i64 h,v] 27 none/\Ow (m.n+2) mm (fx xs g') v)/\∃cs,mm.get m.n=.cells cs 27 none/\cs.length=3) (by unfold CZ;rw[hn]) (hxs n (List.mem_of_getElem? hn)) (fun m11 lo hx hn hlo ho hz=>?_) hlt
   exact⟨i+1,by omega,rfl,by omega,hx,hn,hlo,ho,hz⟩
  ·have hno:xs.length=0:=by
    have:¬0 < xs.length:=by simpa using hno
    omega
   refine tail (7*i) (fun vs mm lo=>∃g',w*h-g' < w*h-i/\vs=[Value.int .i64 ((g':Nat):Int)]/\g'<=w*h/\Ext m mm/\m.n+2<=mm.n/\m.n<=lo/\(∃v,mm.get m1.n=.cells [.int .i64 w,.int .i64 h,v] 27 none/\Ow (m.n+2) mm (fx xs g') v)/\∃cs,mm.get m.n=.cells cs 27 none/\cs.length=3) (by unfold CZ;rw[List.getElem?_eq_none (by omega)]) ⟨by omega,by omega⟩ (fun m11 lo hx hn hlo ho hz=>?_) hlt
   exact⟨i+1,by omega,rfl,by omega,hx,hn,hlo,ho,hz⟩
 ·have hi':i=w*h:=by
   have:¬i < w*h:=fun hh=>by
    have:=of_decide_eq_false hge
    exact this (Int.ofNat_lt.2 hh)
   omega
  subst hi'
  have e:ag TE m9 27 (.pointer (some ⟨m1.n,0,none⟩))=some (cF w h v9):=by rw[bO,aE hb9 (by simp)];rfl
  rw[e,aa]
  have hone:one v9=true:=ho9.sl.one
  refine aD dw hz9 rfl (by rw[hcl9];rfl) (by show(true && (true && (one v9 && true)))=true;rw[hone];rfl) fun m12 hn12 hg12 hk12=>?_
  have e2:ag TE m12 27 (.pointer (some ⟨m.n,0,none⟩))=some (cF w h v9):=by rw[bO,aE hg12 (by simp[aP])];rfl
  rw[e2,aa]
  have ho12:Ow (m.n+2) m12 (fx xs (w*h)) v9:=ho9.bt fun b c t g hb ht=>by
   by_cases hbm:b=m.n
   ·subst hbm
    rw[hz9]at hb
    cases hb
    simp[aL.ty,aL.fR]at ht
   ·rw[hk12 b hbm,hb]
  have hfl:bD (aR [cF w h v9])=false:=by
   rcases ho12 with⟨_,h0⟩ |⟨b,cs,rfl,_⟩
   ·have:=congrArg List.length h0
    rw[gJ]at this
    simp at this
    omega
   ·rfl
  exact⟨.inl hfl,by omega,⟨by have:=hx9.n;omega,fun b hb=>by rw[hk12 b (by omega),hx9.get b hb]⟩,v9,rfl,ho12.mono (by omega)⟩
end Go.Proofs.YtmdfgncoekfgdaaGreatDoor
namespace Go.Proofs.YtmdfgncoekfgdaaGreatDoor
open Go Go.D
variable {X:aF} {m:M}
theorem Gt{p:Pl}:az TE m 45 1 [(0,p.v)]=some (.slice (some ⟨m.n,0,none⟩) 1 1,m.push (.cells p.c 98 none)):=by kernel_rfl
theorem tK{p:Pl}{b:Nat}{g:Option Nat}(h:m.get b=.cells p.c 98 g):Sl m [p] (.slice (some ⟨b,0,none⟩) 1 1):=
 .inr ⟨b,0,1,_,g,rfl,h,Nat.le_refl _,fun i x hi=>by
  match i with
  |0=>cases hi;rfl
  |i+1=>cases hi⟩
theorem _root_.Go.D.Ow.wE{n1:Nat}{l:List Pl}{v:Value}{p:Pl}{P:Value->M->Prop}(h:Ow n1 m l v)(hn:n1<=m.n)(hs:l.length < 268435456)
  (hP:∀v1 m1,Ow n1 m1 (l++ [p]) v1->uG n1 m m1->n1<=m1.low->m.n<=m1.n->P v1 m1):
  aK (az TE m 45 1 [(0,p.v)]) fun a m1=>aK (an TE (m1.wl m1.n) .append [45,45] [v,a]) P:=by
 rw[Gt,ar]
 have hx:Ext m (m.push (.cells p.c 98 none)):=Ext.refl.push
 have hpn:(m.push (.cells p.c 98 none)).n=m.n+1:=rfl
 obtain⟨v1,m1,e1,ho,hf,hl,_⟩:=(h.aB hx).append kX (by simp[aL.fR]) (tK (m:=m.push (.cells p.c 98 none)) M.aN) (by omega) (by simp;omega)
 rw[e1,ar]
 exact hP v1 m1 ho ((hx.fr hn).trans hf) hl (by have:=hf.n;omega)
def dB(w:Nat)(l l':List Int):Nat->List Pl
 |0=> []
 |i+1=>dB w l l' i++(if l[i]?=l'[i]? then []else [⟨((i%w:Nat):Int),((i/w:Nat):Int)⟩])
theorem iT{w:Nat}{l l':List Int}:∀n,(dB w l l' n).length<=n
 |0=>Nat.le_refl _
 |n+1=>by
  have:=iT (w:=w) (l:=l) (l':=l') n
  unfold dB
  rw[List.length_append]
  split <;>simp <;>omega
theorem uT{t:TypeId}{a b:Nat}(hb:b≠0)(ha:a < 1000000):aq TE .quo t (.int .i64 a) (.int .i64 b)=some (.int .i64 ((a/b:Nat):Int)):=by
 have hd:((a:Int).tdiv (b:Int))=((a/b:Nat):Int):=rfl
 have hle:a/b<=a:=Nat.div_le_self _ _
 rw[eL (by omega),hd]
 generalize a/b=q at hle⊢
 rw[wrap64 (by omega) (by omega)]
theorem zj(hX:cW X){w h:Nat}{l l':List Int}{v v':Value}(hl:iV m l v)(hl':iV m l' v')(hv:gx w h l=true)(hv':gx w h l'=true):
  ∃r m',C X (.func 21) [cF w h v,cF w h v'] m m.n (.tuple #[r,.int .i64 0]) m'/\Ext m m'/\Ow m.n m' (dB w l l' l.length) r:=by
 have hb:1<=w/\w<=40/\1<=h/\h<=40/\l.length=w*h/\l'.length=w*h:=by
  have k1:=hv
  have k2:=hv'
  simp only[gx,eA,Bool.and_eq_true,decide_eq_true_eq]at k1 k2
  obtain⟨⟨⟨⟨a1,a2⟩,a3,a4⟩,a5⟩,_⟩:=k1
  obtain⟨⟨_,b5⟩,_⟩:=k2
  rw[<-Int.natCast_mul]at a5 b5
  exact⟨by omega,by omega,by omega,by omega,Int.ofNat.inj a5,Int.ofNat.inj b5⟩
 obtain⟨w1,w2,h1,h2,hll,hll'⟩:=hb
 have hwh:w*h<=40*40:=Nat.mul_le_mul w2 h2
 have key:=Cl.gen (E:=TE) (X:=X) (f:=21) (args:=[cF w h v,cF w h v']) (m:=m) (R:=fun r m' bb=>bb=m.n/\Ext m m'/\∃v',r=.tuple #[v',.int .i64 0]/\Ow m.n m' (dB w l l' l.length) v') (hX.no _ rfl) KA rfl ?_
 ·obtain⟨r,m',bb,hc,rfl,hx,v',rfl,hr⟩:=key
  exact⟨v',m',hc,hx,hr⟩
 rw[VV];dsimp only[aI]
 refine au fun m1 hn1 hg1 hk1=>?_
 refine au fun m2 hn2 hg2 hk2=>?_
 have hg1':=(hk2 m.n (by omega)).trans hg1
 simp only[aP]at hg1' hg2
 have hx2:Ext m m2:=⟨by omega,fun b hb=>by rw[hk2 b (by omega),hk1 b hb]⟩
 have hl2:=hl.aB hx2
 have hl2':=hl'.aB hx2
 simp only[ptrTo]
 have e1:ag TE m2 27 (.pointer (some ⟨m.n,0,none⟩))=some (cF w h v):=by rw[bO,aE hg1' (by simp)];rfl
 have e2:ag TE m2 27 (.pointer (some ⟨m1.n,0,none⟩))=some (cF w h v'):=by rw[bO,aE hg2 (by simp)];rfl
 refine bY (fun vs m5 lo=>vs=[.bool false]/\m2=m5/\m.n<=lo/\lo<=m.n) (fun R hR=>?_) ?_
 ·rw[e1,aa]
  refine aC (ej hX hl2 (by omega)) ?_
  rw[hv,aX,aa,aj,Bool.not_true,aM,e2,aa]
  refine aC (ej hX hl2' (by omega)) ?_
  rw[hv',aX,aa,aj,Bool.not_true,aM]
  simp only[bj,bB,aa,bu,av hg1',av hg2,Nat.zero_add,List.getElem?_cons_zero,List.getElem?_cons_succ,bI,aj,decide_true,Bool.not_true,aM]
  exact hR _ _ _ ⟨rfl,rfl,by omega,by omega⟩
 ·rintro _ _ lo ⟨rfl,rfl,hlo,hlo'⟩
  rw[aA,aj,aM]
  simp only[bh,aa,ez,av hg1',Nat.zero_add,List.getElem?_cons_zero,List.getElem?_cons_succ]
  rw[hl2.len eK,ar]
  refine Lp.intro (γ:=Nat) (fun i=>l.length-i) (fun i vs m9 lo=>i<=l.length/\Ext m2 m9/\m.n<=lo/\∃vr,vs=[vr,.int .i64 i]/\Ow m2.n m9 (dB w l l' i) vr) 0 ⟨Nat.zero_le _,.refl,hlo,_,rfl,Ow.nil⟩ ?_
  rintro i vs m9 lo9 ⟨hi,hx9,hlo9,vr,rfl,ho⟩
  have hn9:=hx9.n
  simp only[aA,aH,aa,aj]
  refine ak (fun hlt=>?_) (fun hge=>?_)
  ·have hlt:i < l.length:=by simpa using hlt
   obtain⟨x,hx⟩:∃x,l[i]?=some x:=⟨_,List.getElem?_eq_getElem hlt⟩
   obtain⟨y,hy⟩:∃y,l'[i]?=some y:=⟨_,List.getElem?_eq_getElem (by omega)⟩
   obtain⟨a,q1,q2⟩:=(hl2.aB hx9).iD (k:=.i64) hx
   obtain⟨b,q3,q4⟩:=(hl2'.aB hx9).iD (k:=.i64) hy
   have gA:=hx9.cells hg1'
   have gB:=hx9.cells hg2
   rw[q1,aa,q2,aa]
   simp only[av gB,av gA,List.getElem?_cons_zero,List.getElem?_cons_succ,aa]
   rw[q3,aa,q4,aa]
   simp only[bI,aa,aj]
   refine ak (fun hne=>?_) (fun he=>?_)
   ·have hne:¬x=y:=by simpa using hne
    simp only[bj,aa,bu,av gA,Nat.zero_add,List.getElem?_cons_zero]
    rw[kG (by omega),aa,uT (by omega) (by omega),aa,cd rfl rfl,aa]
    refine ho.wE (p:=⟨((i%w:Nat):Int),((i/w:Nat):Int)⟩) hn9 (by have:=iT (w:=w) (l:=l) (l':=l') i;omega) fun v10 m10 ho10 hf10 hlow hn10=>?_
    rw[aG,aa,wrap64 (by omega) (by omega)]
    refine⟨i+1,by omega,by omega,⟨by omega,fun b hb=>by rw[hf10.get b hb,hx9.get b hb]⟩,by omega,v10,rfl,?_⟩
    unfold dB
    rw[hx,hy,if_neg (by simpa using hne)]
    exact ho10
   ·have he:x=y:=by simpa using he
    rw[aG,aa,wrap64 (by omega) (by omega)]
    refine⟨i+1,by omega,by omega,hx9,hlo9,vr,rfl,?_⟩
    unfold dB
    rw[hx,hy,he,if_pos rfl,List.append_nil]
    exact ho
  ·have hi':i=l.length:=by
    have:¬(i:Int)< (l.length:Int):=by simpa using hge
    omega
   subst hi'
   have hx29:=hx2.trans hx9
   cases hfl:bD (aR [vr,.int .i64 0])with
   |false=>exact .inr ⟨.inl rfl,by omega,hx29,vr,rfl,ho.mono (by omega)⟩
   |true=>
    refine .inl ⟨rfl,hlo9,by first |rfl |trivial,.refl,vr,rfl,?_⟩
    rcases ho with h |⟨b,cs,rfl,_⟩
    ·exact .inl h
    ·cases hfl
end Go.Proofs.YtmdfgncoekfgdaaGreatDoor
namespace Go.Proofs.YtmdfgncoekfgdaaGreatDoor
open Go Go.D
end Go.Proofs.YtmdfgncoekfgdaaGreatDoor
namespace Go.Proofs.YtmdfgncoekfgdaaGreatDoor
open Go Go.D
variable {X:aF} {m:M}
theorem BU{b o:Nat}{k:IntKind}:ai TE 24 (.pointer (some ⟨b,o,none⟩)) (.int k 0)=some (.pointer (some ⟨b,o,none⟩))/\ai TE 24 (.pointer (some ⟨b,o,none⟩)) (.int k 1)=some (.pointer (some ⟨b,o+1,none⟩)):=by
 constructor <;>kernel_rfl
theorem BW{b n c i:Nat}{k:IntKind}(hi:i < n):ai TE 25 (.slice (some ⟨b,0,none⟩) n c) (.int k i)=some (.pointer (some ⟨b,i,none⟩)):=by
 have hc:0<=(i:Int)/\(i:Int)< (n:Int)/\0 < af.t25.es:=⟨by omega,by omega,by decide⟩
 have hd:af.t25.d=.slice 3:=rfl
 simp only[ai,oe,hd]
 rw[if_pos hc,bC rfl,Nat.zero_add]
 show some (Value.pointer (some ⟨b,i*1,none⟩))=_
 rw[Nat.mul_one]
theorem yK{xs:List Int}{w h:Nat}(hw:1<=w/\w<=12)(hh:1<=h/\h<=12):gx w h (fx xs (w*h))=true:=by
 simp only[gx,eA,Bool.and_eq_true,decide_eq_true_eq,Bool.not_eq_true',List.any_eq_false,gJ]
 refine⟨⟨⟨⟨by omega,by omega⟩,by omega,by omega⟩,by rw[Int.natCast_mul]⟩,fun n hn=>?_⟩
 unfold fx at hn
 obtain⟨i,_,rfl⟩:=List.mem_map.1 hn
 have:=fw (c:=CZ xs i) (n:=101) (by omega)
 simp
 omega
end Go.Proofs.YtmdfgncoekfgdaaGreatDoor
namespace Go.D
open Go
section
variable {α:Type} [aL α] {m:M} {l:List α} {v:Value} {n1:Nat}
structure One(α:Type)[aL α](f:α->Value):Prop where
 sz:aL.sz α=1
 rep:∀(m:M) (x:α) cs,aL.rep m x cs↔cs=[f x]
theorem One.row{f:α->Value}(hf:One α f){b c:Nat}{g:Option Nat}(h:m.get b=.cells (l.map f) (aL.ty α) g):Sl m l (.slice (some ⟨b,0,none⟩) l.length c):=
 .inr ⟨b,0,c,_,g,rfl,h,by rw[List.length_map,hf.sz];omega,fun i x hi=>by
  rw[hf.sz,hf.rep,Nat.zero_add,Nat.mul_one]
  have hil:=(List.getElem?_eq_some_iff.1 hi).1
  rw[List.drop_eq_getElem_cons (by rw[List.length_map];exact hil),List.take_succ_cons,List.take_zero,List.getElem_map]
  have:l[i]=x:=(List.getElem?_eq_some_iff.1 hi).2
  rw[this]⟩
theorem One.xU{f:α->Value}(hf:One α f){b:Nat}(hl:l≠ [])(hb:n1<=b)(h:m.get b=.cells (l.map f) (aL.ty α) (some 1)):Ow n1 m l (.slice (some ⟨b,0,none⟩) l.length l.length):=by
 have hpos:0 < l.length:=by
  rcases Nat.eq_zero_or_pos l.length with h0 |h0
  ·exact absurd (List.length_eq_zero_iff.1 h0) hl
  ·exact h0
 refine .inr ⟨b,l.map f,rfl,hpos,hb,by rw[hf.sz];exact h,by rw[List.length_map,hf.sz,Nat.mul_one],fun i x hi=>?_⟩
 rw[hf.rep,hf.sz]
 unfold chunk
 have hil:=(List.getElem?_eq_some_iff.1 hi).1
 rw[Nat.mul_one,List.drop_eq_getElem_cons (by rw[List.length_map];exact hil),List.take_succ_cons,List.take_zero,List.getElem_map]
 have:l[i]=x:=(List.getElem?_eq_some_iff.1 hi).2
 rw[this]
theorem One.own{f:α->Value}(hf:One α f)(h:Ow n1 m l v)(hl:l≠ []):∃b,v=.slice (some ⟨b,0,none⟩) l.length l.length/\n1<=b/\m.get b=.cells (l.map f) (aL.ty α) (some 1):=by
 rcases h with⟨_,rfl⟩ |⟨b,cs,rfl,_,hb,hg,hcl,hch⟩
 ·exact absurd rfl hl
 ·have:cs=l.map f:=by
   rw[hf.sz,Nat.mul_one]at hcl
   refine List.ext_getElem? fun i=>?_
   by_cases hi:i < l.length
   ·have hx:l[i]?=some l[i]:=List.getElem?_eq_getElem hi
    have:=hch i _ hx
    rw[hf.rep,hf.sz]at this
    unfold chunk at this
    have h0:=congrArg (·[0]?) this
    simp only[List.getElem?_take_of_lt (show 0 < 1 by decide),List.getElem?_drop,Nat.mul_one,Nat.add_zero]at h0
    rw[h0,List.getElem?_map,hx];rfl
   ·rw[List.getElem?_eq_none (by omega),List.getElem?_eq_none (by rw[List.length_map];omega)]
  subst this
  rw[hf.sz]at hg
  exact⟨b,rfl,hb,hg⟩
end
end Go.D
namespace Go.Proofs.YtmdfgncoekfgdaaGreatDoor
open Go Go.D
variable {X:aF} {m:M}
instance:aL (List UInt8) where
 ty:=9
 sz:=1
 agg:=false
 fR:=[]
 rep _ x cs:=cs=[str x]
 pos:=by decide
 one:=by intro _;rfl
 len:=by rintro _ _ _ rfl;rfl
 nB:=by rintro _ _ _ rfl;rfl
 bt:=by rintro _ _ _ _ rfl _;rfl
theorem mj:uF TE 42 9 (List UInt8):=⟨af.t42,af.t9,by kernel_rfl,⟨_,rfl⟩,rfl,by kernel_rfl,rfl,rfl⟩
theorem wA:EC TE 42 (List UInt8):=⟨af.t42,af.t9,by kernel_rfl,rfl,rfl,by kernel_rfl,by decide,rfl⟩
def PO(x:UInt8):Value:=.int .u8 x.toNat
def jW(x:List UInt8):Value:=str x
theorem Lv:One UInt8 PO:=⟨rfl,fun _ _ _=>Iff.rfl⟩
theorem jN:One (List UInt8) jW:=⟨rfl,fun _ _ _=>Iff.rfl⟩
theorem kL:One Int (Value.int .i64):=⟨rfl,fun _ _ _=>Iff.rfl⟩
theorem zm:∀l:List UInt8,bytes? (l.map PO)=some l
 |[]=>rfl
 |x::l=>by
  have hx:(decide ((0:Int)<=x.toNat) && decide ((x.toNat:Int)<=255))=true:=by
   have:=x.toNat_lt
   simp only[Bool.and_eq_true,decide_eq_true_eq]
   omega
  rw[List.map_cons]
  unfold bytes? PO
  dsimp only
  rw[hx,cond_true]
  have:bytes? (l.map fun x=>Value.int .u8 x.toNat)=some l:=zm l
  have e:bytes? (List.map (fun x=>Value.int IntKind.u8 ↑x.toNat) l)=some l:=this
  show(match bytes? (l.map fun x=>Value.int .u8 x.toNat)with |some l=>some (UInt8.ofNat (x.toNat:Int).toNat::l) |none=>none)=_
  rw[this]
  simp
theorem Br:∀l:List (List UInt8),rq (l.map jW)=some (l.map fun x=>⟨x.toArray⟩)
 |[]=>rfl
 |x::l=>by
  rw[List.map_cons,List.map_cons]
  unfold rq jW
  have:=Br l
  show(match rq (l.map jW)with |some l=>some ((⟨x.toArray⟩:ByteArray)::l) |none=>none)=_
  rw[this]
theorem CW(hS:EI X){bb:Nat}{l:List UInt8}(h:Bd m bb l)(hs:l.length<=1048576):
  ∃m1 b,C X (.func 77) [ptrTo bb] m b (str l) m1/\bb < b/\m1.n=m.n/\(m.n<=b\/(sS m [ptrTo bb]=some b/\∃cs g,m.get b=.cells cs 5 g))/\EB bb m m1:=by
 have hlt:=h.lt
 obtain⟨p,s,h1,h2⟩:=h
 by_cases hl:l=[]
 ·subst hl
  have hs0:s=.slice none 0 0:=by
   rcases h2 with⟨_,rfl,_⟩ |⟨_,h2⟩
   ·rfl
   ·rcases h2 with⟨rfl,_⟩ |⟨b,cs,_,hn,_⟩
    ·rfl
    ·simp at hn
  subst hs0
  refine⟨m,m.n,.known (fun l=>?_) (Nat.le_refl _) ⟨_,rfl⟩,hlt,rfl,.inl (Nat.le_refl _),.refl⟩
  refine hS.st _ _ _ ?_
  unfold rr ptrTo
  dsimp only
  rw[M.bS,h1]
  rfl
 ·obtain⟨hp,h3⟩:p=ptrTo bb/\Ow (bb+1) m l s:=by
   rcases h2 with⟨_,_,h2⟩ |h2
   ·exact absurd h2 hl
   ·exact h2
  subst hp
  obtain⟨b,rfl,hb,hg⟩:=Lv.own h3 hl
  have hpos:0 < l.length:=by
   rcases Nat.eq_zero_or_pos l.length with h0 |h0
   ·exact absurd (List.length_eq_zero_iff.1 h0) hl
   ·exact h0
  have hbl:=M.aV hg
  refine⟨m.set b .dead,b,.GK (fun k hk=>?_) (Nat.le_refl _) (by omega),hb,rfl,.inr ⟨?_,_,_,hg⟩,⟨Nat.le_refl _,fun c hc=>M.bZ (by omega),fun c hc hne ht=>M.bZ fun e=>?_⟩⟩
  ·refine hS.st _ _ _ ?_
   unfold rr ptrTo
   dsimp only
   rw[M.bS,h1]
   dsimp only
   have e1:(Nat.beq 142 hO.T && Nat.beq 0 0 && (none:Option Nat).isNone && Nat.beq 0 0 && (none:Option Nat).isNone && Nat.ble 1 l.length && Nat.ble l.length l.length)=true:=by
    rw[Nat.ble_eq_true_of_le hpos,Nat.ble_eq_true_of_le (Nat.le_refl l.length)];rfl
   rw[e1,cond_true,M.bS,hg]
   dsimp only
   have e2:(Nat.beq (aL.ty UInt8) hO.U && Nat.ble l.length (l.map PO).length && Nat.ble l.length 1048576)=true:=by
    rw[List.length_map,Nat.ble_eq_true_of_le (Nat.le_refl l.length),Nat.ble_eq_true_of_le hs];rfl
   rw[e2,cond_true,List.take_of_length_le (by rw[List.length_map];exact Nat.le_refl _),zm]
   rfl
  ·unfold sS ma ptrTo
   dsimp only
   rw[h1]
  ·rw[e]at ht
   exact ht _ _ hg
theorem Dy(hS:EI X){n1:Nat}{l:List (List UInt8)}{v:Value}(h:Ow n1 m l v)(h1:l.length<=1048576)(h2:l.flatten.length<=1048576):C X (.func 79) [v,str []] m m.n (str l.flatten) m:=by
 refine .known (fun k=>hS.jn _ _ _ ?_) (Nat.le_refl _) ⟨_,rfl⟩
 by_cases hl:l=[]
 ·subst hl
  rcases h with⟨rfl,_⟩ |⟨b,cs,_,hn,_⟩
  ·rfl
  ·simp at hn
 ·obtain⟨b,rfl,hb,hg⟩:=jN.own h hl
  have hpos:0 < l.length:=by
   rcases Nat.eq_zero_or_pos l.length with h0 |h0
   ·exact absurd (List.length_eq_zero_iff.1 h0) hl
   ·exact h0
  have hj:Lib.join ((l.map fun x=>(⟨x.toArray⟩:ByteArray)).map (·.data.toList)) []=l.flatten:=by
   have e:(l.map fun x=>(⟨x.toArray⟩:ByteArray)).map (·.data.toList)=l:=by
    rw[List.map_map]
    conv=>rhs;rw[<-List.map_id l]
    congr 1
   rw[e]
   cases l with
   |nil=>rfl
   |cons x r=>
    rw[Lib.join_cons,Lib.joinTail]
    simp
  unfold Kt str
  dsimp only
  rw[M.bS,hg]
  dsimp only
  have e1:((none:Option Nat).isNone && Nat.ble 1 l.length && Nat.ble l.length l.length && Nat.ble (0+l.length) (l.map jW).length && Nat.ble l.length 1048576)=true:=by
   rw[List.length_map,Nat.zero_add,Nat.ble_eq_true_of_le hpos,Nat.ble_eq_true_of_le (Nat.le_refl l.length),Nat.ble_eq_true_of_le h1];rfl
  rw[e1,cond_true,List.drop_zero,List.take_of_length_le (by rw[List.length_map];exact Nat.le_refl _),Br]
  dsimp only
  rw[hj,Nat.ble_eq_true_of_le h2]
  rfl
theorem FP(hX:cW X)(hS:EI X){s:List UInt8}{c:UInt8}(hs:s.length<=1048576):∃v m',C X (.func 85) [str s,str [c]] m m.n v m'/\Sl m' (cutAt c s) v/\Ext m m':=by
 have key:∃v m' b,C X (.func 85) [str s,str [c]] m b v m'/\b=m.n/\Sl m' (cutAt c s) v/\Ext m m':=by
  refine Cl.heap (R:=fun v m' b=>b=m.n/\Sl m' (cutAt c s) v/\Ext m m') (hX.no _ rfl) Of rfl ?_
  rw[Yr];dsimp only[aI]
  refine aC (m1:=m.push (.cells ((cutAt c s).map jW) 9 none)) (b:=m.n) (v:=.slice (some ⟨m.n,0,none⟩) (cutAt c s).length (cutAt c s).length) (.known (fun k=>hS.gs _ _ _ ?_) (Nat.le_succ _) ⟨_,rfl⟩) ?_
  ·have e:Ku hO.S [str s,str [c],.int .i64 0,.int .i64 (-1)] (m.wl k)=bif Nat.ble s.length 1048576 then some (.slice (some ⟨m.n,0,none⟩) (cutAt c s).length (cutAt c s).length,(m.push (.cells ((cutAt c s).map jW) 9 none)).wl k)else none:=rfl
   rw[e,Nat.ble_eq_true_of_le hs,cond_true]
  ·exact⟨.inl rfl,by omega,jN.row M.aN,Ext.refl.push⟩
 obtain⟨v,m',b,hc,rfl,h1,h2⟩:=key
 exact⟨v,m',hc,h1,h2⟩
end Go.Proofs.YtmdfgncoekfgdaaGreatDoor
namespace Go.Proofs.YtmdfgncoekfgdaaGreatDoor
open Go Go.D
variable {X:aF} {m:M}
def mN{α:Type}(l:List α)(i:Nat):List α:=(List.range l.length).filterMap fun k=>if k < i\/l.length-i<=k then l[l.length-1-k]? else l[k]?
theorem iz{α:Type}{f:Nat->Option α}:∀n:Nat,(∀k,k < n->(f k).isSome)->((List.range n).filterMap f).length=n/\∀k,k < n->((List.range n).filterMap f)[k]?=f k
 |0,_=>⟨rfl,fun k hk=>by omega⟩
 |n+1,h=>by
  obtain⟨h1,h2⟩:=iz n fun k hk=>h k (by omega)
  obtain⟨x,hx⟩:=Option.isSome_iff_exists.1 (h n (by omega))
  have e:(List.range (n+1)).filterMap f=(List.range n).filterMap f++ [x]:=by
   rw[List.range_succ,List.filterMap_append,List.filterMap_cons,hx];rfl
  refine⟨by rw[e,List.length_append,h1];rfl,fun k hk=>?_⟩
  rw[e]
  by_cases hkn:k < n
  ·rw[List.getElem?_append_left (by omega),h2 k hkn]
  ·have:k=n:=by omega
   subst this
   rw[List.getElem?_append_right (by omega),h1,Nat.sub_self,hx];rfl
section
variable {α:Type} {l:List α} {i:Nat}
theorem yG(k:Nat)(hk:k < l.length):(if k < i\/l.length-i<=k then l[l.length-1-k]? else l[k]?).isSome:=by
 split
 ·rw[List.getElem?_eq_getElem (by omega)];rfl
 ·rw[List.getElem?_eq_getElem hk];rfl
theorem gU:(mN l i).length=l.length:=(iz _ yG).1
theorem mD{k:Nat}(hk:k < l.length):(mN l i)[k]?=if k < i\/l.length-i<=k then l[l.length-1-k]? else l[k]?:=(iz _ yG).2 k hk
theorem Gz:mN l 0=l:=by
 refine List.ext_getElem? fun k=>?_
 by_cases hk:k < l.length
 ·rw[mD hk,if_neg (by omega)]
 ·rw[List.getElem?_eq_none (by rw[gU];omega),List.getElem?_eq_none (by omega)]
theorem Jh(h:l.length<=2*i+1):mN l i=l.reverse:=by
 refine List.ext_getElem? fun k=>?_
 by_cases hk:k < l.length
 ·rw[mD hk,List.getElem?_reverse hk]
  split
  ·rfl
  ·have:l.length-1-k=k:=by omega
   rw[this]
 ·rw[List.getElem?_eq_none (by rw[gU];omega),List.getElem?_eq_none (by rw[List.length_reverse];omega)]
theorem GA{x y:α}(h:2*i+1 < l.length)(hx:(mN l i)[i]?=some x)(hy:(mN l i)[l.length-1-i]?=some y):((mN l i).set i y).set (l.length-1-i) x=mN l (i+1):=by
 have hx':l[i]?=some x:=by rw[mD (by omega),if_neg (by omega)]at hx;exact hx
 have hy':l[l.length-1-i]?=some y:=by rw[mD (by omega),if_neg (by omega)]at hy;exact hy
 refine List.ext_getElem? fun k=>?_
 by_cases hk:k < l.length
 ·rw[mD hk]
  by_cases hkj:k=l.length-1-i
  ·subst hkj
   rw[List.getElem?_set_self (by rw[List.length_set,gU];exact hk),if_pos (by omega),show l.length-1-(l.length-1-i)=i by omega,hx']
  ·rw[List.getElem?_set_ne (by omega)]
   by_cases hki:k=i
   ·subst hki
    rw[List.getElem?_set_self (by rw[gU];exact hk),if_pos (by omega),hy']
   ·rw[List.getElem?_set_ne (by omega),mD hk]
    by_cases hc:k < i\/l.length-i<=k
    ·rw[if_pos hc,if_pos (by omega)]
    ·rw[if_neg hc,if_neg (by omega)]
 ·rw[List.getElem?_eq_none (by rw[List.length_set,List.length_set,gU];omega),List.getElem?_eq_none (by rw[gU];omega)]
end
theorem BV{b n c i:Nat}{k:IntKind}(hi:i < n):ai TE 42 (.slice (some ⟨b,0,none⟩) n c) (.int k i)=some (.pointer (some ⟨b,i,none⟩)):=by
 have hc:0<=(i:Int)/\(i:Int)< (n:Int)/\0 < af.t42.es:=⟨by omega,by omega,by decide⟩
 have hd:af.t42.d=.slice 9:=rfl
 simp only[ai,Kj,hd]
 rw[if_pos hc,bC rfl,Nat.zero_add]
 show some (Value.pointer (some ⟨b,i*1,none⟩))=_
 rw[Nat.mul_one]
theorem zV(hX:cW X){n1:Nat}{l:List (List UInt8)}{v:Value}(h:Ow n1 m l v)(hn1:n1<=m.n)(hlen:l.length < 4611686018427387904):
  ∃r m' b,C X (.func 78) [v] m b r m'/\n1<=b/\Ow n1 m' l.reverse v/\∀c,c < n1->m'.get c=m.get c:=by
 refine Cl.gen (R:=fun r m' b=>n1<=b/\Ow n1 m' l.reverse v/\∀c,c < n1->m'.get c=m.get c) (hX.no _ rfl) Ol rfl ?_
 rw[Yx];dsimp only[aI]
 rw[h.sl.len mj,ar,cz,aa,wrap64 (by omega) (by omega)]
 by_cases hl:l=[]
 ·subst hl
  refine Lp.intro (γ:=Nat) (fun i=>i) (fun i vs mm lo=>vs=[.int .i64 0,.int .i64 (-1)]/\mm=m/\lo=m.n) 0 ⟨rfl,rfl,rfl⟩ ?_
  rintro i vs mm lo ⟨rfl,rfl,rfl⟩
  simp only[aA,aH,aa,aj]
  rw[show decide ((0:Int)< -1)=false from rfl,aM]
  exact .inl ⟨rfl,Nat.le_refl _,hn1,h,by intros;trivial⟩
 ·obtain⟨b,rfl,hb,hg⟩:=jN.own h hl
  have hbl:=M.aV hg
  refine Lp.intro (γ:=Nat) (fun i=>l.length-i) (fun i vs mm lo=>vs=[.int .i64 i,.int .i64 ((l.length:Int)-1-i)]/\i<=l.length/\mm.n=m.n/\mm.get b=.cells ((mN l i).map jW) 9 (some 1)/\(∀c,c < n1->mm.get c=m.get c)/\((i=0/\mm=m/\lo=m.n)\/lo=b)) 0
   ⟨by simp,Nat.zero_le _,rfl,by rw[Gz];exact hg,fun _ _=>rfl,.inl ⟨rfl,rfl,rfl⟩⟩ ?_
  rintro i vs mm lo ⟨rfl,hi,hn,hgm,hk,hlo⟩
  simp only[aA,aH,aa,aj]
  refine ak (fun hlt=>?_) (fun hge=>?_)
  ·have hlt:(i:Int)< (l.length:Int)-1-i:=by simpa using hlt
   have hj:((l.length:Int)-1-i)=((l.length-1-i:Nat):Int):=by omega
   have hml:=gU (l:=l) (i:=i)
   obtain⟨x,hx⟩:∃x,(mN l i)[i]?=some x:=⟨_,List.getElem?_eq_getElem (by omega)⟩
   obtain⟨y,hy⟩:∃x,(mN l i)[l.length-1-i]?=some x:=⟨_,List.getElem?_eq_getElem (by omega)⟩
   have hlm:((mN l i).map jW).length=l.length:=by rw[List.length_map,gU]
   rw[hj,BV (by omega),aa,GC,av hgm,List.getElem?_map,hy]
   show ah (some (jW y)) _
   rw[aa,BV (by omega),aa,GC,av hgm,List.getElem?_map,hx]
   show ah (some (jW x)) _
   rw[aa,aa]
   refine bM NR hgm rfl (by rw[hlm];show i+1<=_;omega) rfl fun m17 hn17 hg17 hk17=>?_
   have hg17':m17.get b=.cells (((mN l i).set i y).map jW) 9 (some 1):=by
    rw[hg17,List.map_set,<-gC (by rw[hlm];omega)];rfl
   rw[aa]
   refine bM NR hg17' rfl (by rw[List.length_map,List.length_set,gU];show l.length-1-i+1<=_;omega) rfl fun m20 hn20 hg20 hk20=>?_
   have hg20':m20.get b=.cells ((mN l (i+1)).map jW) 9 (some 1):=by
    rw[hg20,<-GA (by omega) hx hy,List.map_set (l:=(mN l i).set i y),<-gC (cs:=((mN l i).set i y).map jW) (by rw[List.length_map,List.length_set,gU];omega)];rfl
   rw[aG,aa,wrap64 (by omega) (by omega),cz,aa,wrap64 (by omega) (by omega)]
   exact⟨i+1,by omega,by rw[show(((l.length-1-i:Nat):Int)-1)=(l.length:Int)-1-(i+1:Nat) by omega];rfl,by omega,by omega,hg20',fun c hc=>by rw[hk20 c (by omega),hk17 c (by omega),hk c hc],.inr (by omega)⟩
  ·have hge:¬(i:Int)< (l.length:Int)-1-i:=by simpa using hge
   rw[Jh (by omega)]at hgm
   have ho:Ow n1 mm l.reverse (.slice (some ⟨b,0,none⟩) l.length l.length):=by
    have:=jN.xU (m:=mm) (l:=l.reverse) (n1:=n1) (b:=b) (by simpa using hl) hb hgm
    rwa[List.length_reverse]at this
   rcases hlo with⟨rfl,rfl,rfl⟩ |rfl
   ·exact .inl ⟨rfl,Nat.le_refl _,hn1,ho,by intros;trivial⟩
   ·exact .inr ⟨.inr hbl,by omega,ho,hk⟩
def qh(ab o w c h:Nat):List (List Value):=(List.range h).map fun i=> [.slice (some ⟨ab,o+i*w,none⟩) w (c-i*w)]
theorem xF{ab o w c h i:Nat}(hi:i < h):(qh ab o w c h)[i]?=some [.slice (some ⟨ab,o+i*w,none⟩) w (c-i*w)]:=by
 unfold qh
 rw[List.getElem?_map,List.getElem?_range hi];rfl
theorem pE{ab o w c h:Nat}:(qh ab o w c h).length=h:=by unfold qh;rw[List.length_map,List.length_range]
theorem FW(hX:cW X){b ab o w c h:Nat}{H:Value}(hw:1<=w/\w<=40)(hh:h<=40)(hc:w*h<=c):
  JX TE X (fun _=>False) (.func 140) [] [ptrTo b] (qh ab o w c h) (fun m=>m.get b=.cells [.int .i64 w,H,.slice (some ⟨ab,o,none⟩) (w*h) c] 27 none/\nT m ab 1):=by
 intro y n0 B I J m hD hI hJ hy hn0 hB hyield h0
 refine Cl.gen (R:=fun v m2 b=>B<=b/\(I (qh ab o w c h).length m2\/J m2)) (hX.no _ rfl) Mo rfl ?_
 rw[show([]:List Value)++ .func (.yield y) #[] #[]::[ptrTo b]=[.func (.yield y) #[] #[],ptrTo b]from rfl,Re];dsimp only[aI]
 have ldW:∀m1:M,m1.get b=.cells [.int .i64 w,H,.slice (some ⟨ab,o,none⟩) (w*h) c] 27 none->ag TE m1 3 (.pointer (some ⟨b,0+0,none⟩))=some (.int .i64 w):=fun m1 h=>by rw[bu,av h];rfl
 have hwh:w*h<=40*40:=Nat.mul_le_mul hw.2 hh
 unfold ptrTo
 rw[bh,aa,ez,av (hD _ _ h0).1]
 show ah (some (Value.slice (some ⟨ab,o,none⟩) (w*h) c)) _
 rw[aa]
 refine Lp.intro (γ:=Nat) (fun i=>h-i) (fun i vs m1 lo=>∃a,vs=[.slice (some a) (w*h-i*w) (c-i*w)]/\i<=h/\(i < h->a=⟨ab,o+i*w,none⟩)/\I i m1/\n0<=m1.n/\B<=lo/\((i=0/\m1=m/\lo=m.n)\/lo < m.n)) 0
  ⟨⟨ab,o,none⟩,by simp,Nat.zero_le _,fun _=>by simp,h0,hn0,by omega,.inl ⟨rfl,rfl,rfl⟩⟩ ?_
 rintro i vs m1 lo1 ⟨a,rfl,hi,ha,hI1,hn1,hlo,hlow⟩
 rw[aA]
 have ln:an TE m1 .len [25] [.slice (some a) (w*h-i*w) (c-i*w)]=some (.int .i64 (w*h-i*w:Nat),m1):=sk
 rw[ln,ar,bX,aa,aj]
 refine ak (fun hlt=>?_) (fun hge=>?_)
 ·have hlt:0 < w*h-i*w:=by simpa using hlt
  have hih:i < h:=by
   rcases Nat.lt_or_ge i h with hh |hh
   ·exact hh
   ·have:=Nat.mul_le_mul_right w hh
    rw[Nat.mul_comm h w]at this
    omega
  obtain rfl:=ha hih
  have hiw:(i+1)*w<=w*h:=by rw[Nat.mul_comm w h];exact Nat.mul_le_mul_right w hih
  rw[Nat.add_mul,Nat.one_mul]at hiw
  obtain⟨hgb,hga⟩:=hD _ _ hI1
  rw[bj,aa,ldW m1 hgb,aa]
  rw[tJ (ti:=af.t25) (e:=3) oe rfl (by decide) hga (by omega) (by omega),aa,bU]
  obtain⟨v2,m4,b4,hc,hB4,hy4,hfr,hres⟩:=hyield i _ m1 (by omega) (xF hih) hI1
  refine aC hc ?_
  have hn4:m1.n<=m4.n:=hc.1
  rcases hres with⟨rfl,hI4⟩ |⟨rfl,hJ4⟩
  ·simp only[aX,aa,aj,Bool.not_true,aM]
   obtain⟨hgb4,hga4⟩:=hD _ _ hI4
   rw[ldW m4 hgb4,aa]
   obtain⟨a',hs,ha'⟩:=wX (ti:=af.t25) (e:=3) (T:=25) (m:=m4) (E:=TE) (b:=ab) (o:=o+i*w) (n:=w*h-i*w) (c:=c-i*w) (j:=w) oe rfl (by decide) hga4 (by omega) (by omega)
   rw[hs,aa]
   refine⟨i+1,by omega,a',?_,by omega,fun h1=>?_,hI4,by omega,by omega,.inr (by omega)⟩
   ·rw[Nat.add_mul,Nat.one_mul,Nat.sub_sub,Nat.sub_sub]
   ·have h2:(i+1+1)*w<=w*h:=by rw[Nat.mul_comm w h];exact Nat.mul_le_mul_right w h1
    rw[Nat.add_mul,Nat.add_mul,Nat.one_mul]at h2
    rw[ha' (by omega),Nat.add_mul,Nat.one_mul]
    show(⟨ab,o+i*w+w*1,none⟩:Addr)=_
    rw[Nat.mul_one,Nat.add_assoc]
  ·simp only[aX,aa,aj,Bool.not_false,bJ]
   exact .inr ⟨.inr (by omega),by omega,.inr hJ4⟩
 ·have hi':i=h:=by
   have h1:¬0 < w*h-i*w:=by simpa using hge
   rcases Nat.lt_or_ge i h with hh |hh
   ·have h2:(i+1)*w<=w*h:=by rw[Nat.mul_comm w h];exact Nat.mul_le_mul_right w hh
    rw[Nat.add_mul,Nat.one_mul]at h2
    omega
   ·omega
  have hI1':I (qh ab o w c h).length m1:=by rw[pE,<-hi'];exact hI1
  rcases hlow with⟨h1,h2,h3⟩ |hlow
  ·rw[h2]at hI1'
   exact .inl ⟨rfl,by omega,by omega,.inl hI1'⟩
  ·exact .inr ⟨.inr hlow,by omega,.inl hI1'⟩
theorem Jb(hX:cW X){w h:Int}{v:Value}(hv:cells v=[v]):∃m',C X (.func 74) [cF w h v] m m.n (.func (.func 140) #[] #[ptrTo m.n]) m'/\Ext m m'/\m'.n=m.n+1/\m'.get m.n=.cells [.int .i64 w,.int .i64 h,v] 27 none:=by
 have key:∃r m' b,C X (.func 74) [cF w h v] m b r m'/\b=m.n/\r=.func (.func 140) #[] #[ptrTo m.n]/\Ext m m'/\m'.n=m.n+1/\m'.get m.n=.cells [.int .i64 w,.int .i64 h,v] 27 none:=by
  refine Cl.heap (R:=fun r m' b=>b=m.n/\r=.func (.func 140) #[] #[ptrTo m.n]/\Ext m m'/\m'.n=m.n+1/\m'.get m.n=.cells [.int .i64 w,.int .i64 h,v] 27 none) (hX.no _ rfl) Oo rfl ?_
  rw[YA];dsimp only[aI]
  refine au fun m1 hn1 hg1 hk1=>?_
  exact⟨.inl rfl,by omega,rfl,⟨by omega,hk1⟩,hn1,hg1⟩
 obtain⟨r,m',b,hc,rfl,rfl,h1,h2,h3⟩:=key
 exact⟨m',hc,h1,h2,h3⟩
end Go.Proofs.YtmdfgncoekfgdaaGreatDoor
namespace Go.Proofs.YtmdfgncoekfgdaaGreatDoor
open Go Go.D
def jD(n:Int):List UInt8:=if n < 0 then [46,46]else [UInt8.ofNat (48+n.toNat/10),UInt8.ofNat (48+n.toNat%10)]
def dE(l:List Int):List UInt8:=l.flatMap jD
def eP(w:Nat):Nat->List Int->List (List Int)
 |0,_=> []
 |h+1,l=>l.take w::eP w h (l.drop w)
def dJ(w h:Nat)(l:List Int):List UInt8:=((eP w h l).map fun r=>dE r++ [10]).reverse.flatten
def kk(a:UInt8):Bool:=decide (48<=a.toNat) && decide (a.toNat<=57)
def cm:List UInt8->Option (List Int)
 |[]=>some []
 |[_]=>none
 |a::b::r=>
  if a=46/\b=46 then(cm r).map ((-1:Int)::·)
  else if kk a && kk b then(cm r).map ((10*((a.toNat:Int)-48)+((b.toNat:Int)-48))::·)
  else none
def dR(w:Nat):List (List UInt8)->Option (List Int)
 |[]=>some []
 |l::r=>if l.length≠2*w then none else match cm l,dR w r with |some a,some b=>some (a++b) |_,_=>none
def fb(n:Int):Bool:=decide (-1<=n) && decide (n<=99)
theorem vX(n:Int):(jD n).length=2:=by unfold jD;split <;>rfl
theorem dP(l:List Int):(dE l).length=2*l.length:=by
 induction l with
 |nil=>rfl
 |cons n l ih=>rw[dE,List.flatMap_cons,List.length_append,vX];unfold dE at ih;rw[ih,List.length_cons];omega
theorem MM(n:Int)(h:fb n=true):∀a∈jD n,a≠10:=by
 unfold fb at h
 simp only[Bool.and_eq_true,decide_eq_true_eq]at h
 intro a ha
 unfold jD at ha
 split at ha
 ·simp only[List.mem_cons,List.not_mem_nil,or_false,or_self]at ha
  subst ha
  decide
 ·simp only[List.mem_cons,List.not_mem_nil,or_false]at ha
  intro e
  subst e
  rcases ha with ha |ha
  ·have:=congrArg UInt8.toNat ha
   rw[UInt8.toNat_ofNat']at this
   simp at this
   omega
  ·have:=congrArg UInt8.toNat ha
   rw[UInt8.toNat_ofNat']at this
   simp at this
   omega
theorem Bv{l:List Int}(h:∀n∈l,fb n=true):∀a∈dE l,a≠10:=by
 intro a ha
 unfold dE at ha
 obtain⟨n,hn,ha⟩:=List.mem_flatMap.1 ha
 exact MM n (h n hn) a ha
theorem Dq{n:Int}(h:fb n=true)(r:List UInt8):cm (jD n++r)=(cm r).map (n::·):=by
 unfold fb at h
 simp only[Bool.and_eq_true,decide_eq_true_eq]at h
 unfold jD
 by_cases hn:n < 0
 ·rw[if_pos hn]
  have:n= -1:=by omega
  subst this
  show cm (46::46::r)=_
  rw[cm,if_pos ⟨rfl,rfl⟩]
 ·rw[if_neg hn]
  obtain⟨k,rfl⟩:∃k:Nat,n=k:=⟨n.toNat,by omega⟩
  have hk:k<=99:=by omega
  show cm (UInt8.ofNat (48+(k:Int).toNat/10)::UInt8.ofNat (48+(k:Int).toNat%10)::r)=_
  have e0:(k:Int).toNat=k:=rfl
  rw[e0]
  have t1:(UInt8.ofNat (48+k/10)).toNat=48+k/10:=by rw[UInt8.toNat_ofNat'];omega
  have t2:(UInt8.ofNat (48+k%10)).toNat=48+k%10:=by rw[UInt8.toNat_ofNat'];omega
  have ne:¬(UInt8.ofNat (48+k/10)=46/\UInt8.ofNat (48+k%10)=46):=fun e=>by
   have:=congrArg UInt8.toNat e.1
   rw[t1]at this
   simp at this
   omega
  have dg:(kk (UInt8.ofNat (48+k/10)) && kk (UInt8.ofNat (48+k%10)))=true:=by
   unfold kk
   rw[t1,t2]
   simp only[Bool.and_eq_true,decide_eq_true_eq]
   omega
  rw[cm,if_neg ne,if_pos dg,t1,t2]
  have:(10*(((48+k/10:Nat):Int)-48)+(((48+k%10:Nat):Int)-48))=(k:Int):=by omega
  rw[this]
theorem tZ:∀{l:List Int},(∀n∈l,fb n=true)->cm (dE l)=some l
 |[],_=>rfl
 |n::l,h=>by
  show cm (dE (n::l))=_
  rw[dE,List.flatMap_cons,Dq (h n (by simp)),show l.flatMap jD=dE l from rfl,tZ fun k hk=>h k (by simp[hk])]
  rfl
theorem mu:∀{s:List UInt8} {l:List Int},cm s=some l->dE l=s/\s.length=2*l.length/\∀n∈l,fb n=true
 |[],l,h=>by cases h;exact⟨rfl,rfl,fun n hn=>by cases hn⟩
 |[_],l,h=>by cases h
 |a::b::r,l,h=>by
  rw[cm]at h
  split at h
  ·rename_i hab
   cases hr:cm r with
   |none=>rw[hr]at h;cases h
   |some l'=>
    rw[hr]at h
    cases h
    obtain⟨h1,h2,h3⟩:=mu hr
    refine⟨?_,by simp[h2];omega,fun n hn=>?_⟩
    ·rw[dE,List.flatMap_cons,show l'.flatMap jD=dE l' from rfl,h1,hab.1,hab.2]
     rfl
    ·rcases List.mem_cons.1 hn with rfl |hn
     ·rfl
     ·exact h3 n hn
  ·split at h
   ·rename_i hd
    cases hr:cm r with
    |none=>rw[hr]at h;cases h
    |some l'=>
     rw[hr]at h
     cases h
     obtain⟨h1,h2,h3⟩:=mu hr
     unfold kk at hd
     simp only[Bool.and_eq_true,decide_eq_true_eq]at hd
     obtain⟨⟨a1,a2⟩,b1,b2⟩:=hd
     have hn:∀k:Int,k=10*((a.toNat:Int)-48)+((b.toNat:Int)-48)->fb k=true/\jD k=[a,b]:=fun k hk=>by
      refine⟨by unfold fb;simp only[Bool.and_eq_true,decide_eq_true_eq];omega,?_⟩
      unfold jD
      rw[if_neg (by omega)]
      have e1:48+k.toNat/10=a.toNat:=by omega
      have e2:48+k.toNat%10=b.toNat:=by omega
      rw[e1,e2,UInt8.ofNat_toNat,UInt8.ofNat_toNat]
     refine⟨?_,by simp[h2];omega,fun n hnm=>?_⟩
     ·rw[dE,List.flatMap_cons,show l'.flatMap jD=dE l' from rfl,h1,(hn _ rfl).2]
      rfl
     ·rcases List.mem_cons.1 hnm with rfl |hnm
      ·exact(hn _ rfl).1
      ·exact h3 n hnm
   ·cases h
theorem uz{c:UInt8}:∀{a:List UInt8} (b:List UInt8),(∀x∈a,x≠c)->cutAt c (a++c::b)=a::cutAt c b
 |[],b,_=>by
  show cutAt c (c::b)=_
  rw[cutAt]
  simp
 |x::a,b,h=>by
  have hx:(x==c)=false:=by rw[beq_eq_false_iff_ne];exact h x (by simp)
  show cutAt c (x::(a++c::b))=_
  rw[cutAt,hx,uz b fun y hy=>h y (by simp[hy])]
  rfl
theorem HZ{c:UInt8}(s:List UInt8):cutAt c s≠ []:=by
 cases s with
 |nil=>exact fun h=>by cases h
 |cons x r=>
  rw[cutAt]
  cases (x==c)with
  |true=>exact fun h=>by cases h
  |false=>
   rw[cond_false]
   split <;>exact fun h=>by cases h
theorem sM{c:UInt8}:∀(s:List UInt8),∃(ls:List (List UInt8)) (e:List UInt8),cutAt c s=ls++ [e]/\s=(ls.map (·++ [c])).flatten++e/\(∀l∈ls,∀x∈l,x≠c)
 |[]=>⟨[],[],rfl,rfl,fun l hl=>by cases hl⟩
 |x::r=>by
  obtain⟨ls,e,h1,h2,h3⟩:=sM (c:=c) r
  by_cases hx:x=c
  ·subst hx
   refine⟨[]::ls,e,?_,?_,fun l hl y hy=>?_⟩
   ·rw[cutAt,show(x==x)=true by simp,cond_true,h1];rfl
   ·rw[h2];simp
   ·rcases List.mem_cons.1 hl with rfl |hl
    ·cases hy
    ·exact h3 l hl y hy
  ·have hb:(x==c)=false:=by rw[beq_eq_false_iff_ne];exact hx
   cases ls with
   |nil=>
    refine⟨[],x::e,?_,?_,fun l hl=>by cases hl⟩
    ·rw[cutAt,hb,cond_false,h1];rfl
    ·rw[h2];rfl
   |cons l0 ls=>
    refine⟨(x::l0)::ls,e,?_,?_,fun l hl y hy=>?_⟩
    ·rw[cutAt,hb,cond_false,h1];rfl
    ·rw[h2];simp
    ·rcases List.mem_cons.1 hl with rfl |hl
     ·rcases List.mem_cons.1 hy with rfl |hy
      ·exact hx
      ·exact h3 l0 (by simp) y hy
     ·exact h3 l (by simp[hl]) y hy
theorem qs{c:UInt8}:∀{ls:List (List UInt8)},(∀l∈ls,∀x∈l,x≠c)->cutAt c (ls.map (·++ [c])).flatten=ls++ [[]]
 |[],_=>rfl
 |l::ls,h=>by
  rw[List.map_cons,List.flatten_cons,List.append_assoc,List.singleton_append,uz _ (h l (by simp)),qs fun k hk=>h k (by simp[hk])]
  rfl
theorem gD(w:Nat):∀(h:Nat) (l:List Int),(eP w h l).length=h
 |0,_=>rfl
 |h+1,l=>by rw[eP,List.length_cons,gD w h]
theorem gE{w:Nat}:∀{h:Nat} {l:List Int},l.length=w*h->∀r∈eP w h l,r.length=w
 |0,l,_,r,hr=>by cases hr
 |h+1,l,hl,r,hr=>by
  rw[Nat.mul_succ]at hl
  rcases List.mem_cons.1 hr with rfl |hr
  ·rw[List.length_take];omega
  ·exact gE (h:=h) (l:=l.drop w) (by rw[List.length_drop];omega) r hr
theorem nu{w:Nat}:∀{h:Nat} {l:List Int},l.length=w*h->(eP w h l).flatten=l
 |0,l,hl=>by
  have:l=[]:=List.length_eq_zero_iff.1 (by omega)
  rw[this];rfl
 |h+1,l,hl=>by
  rw[Nat.mul_succ]at hl
  rw[eP,List.flatten_cons,nu (h:=h) (l:=l.drop w) (by rw[List.length_drop];omega),List.take_append_drop]
theorem pF{w:Nat}:∀{h:Nat} {l:List Int},∀r∈eP w h l,∀n∈r,n∈l
 |0,l,r,hr=>by cases hr
 |h+1,l,r,hr=>by
  rcases List.mem_cons.1 hr with rfl |hr
  ·exact fun n hn=>List.mem_of_mem_take hn
  ·exact fun n hn=>List.mem_of_mem_drop (pF (h:=h) (l:=l.drop w) r hr n hn)
theorem xG{w:Nat}:∀{rs:List (List Int)},(∀r∈rs,r.length=w)->eP w rs.length rs.flatten=rs
 |[],_=>rfl
 |r::rs,h=>by
  have hr:=h r (by simp)
  rw[List.length_cons,eP,List.flatten_cons,List.take_append_of_le_length (by omega),List.take_of_length_le (by omega),List.drop_append_of_le_length (by omega),List.drop_of_length_le (by omega),List.nil_append,xG fun k hk=>h k (by simp[hk])]
theorem sg{w:Nat}:∀{rs:List (List Int)},(∀r∈rs,r.length=w)->(∀r∈rs,∀n∈r,fb n=true)->dR w (rs.map dE)=some rs.flatten
 |[],_,_=>rfl
 |r::rs,h,hc=>by
  rw[List.map_cons,dR,if_neg (by rw[dP,h r (by simp)];omega),tZ (hc r (by simp)),sg (fun k hk=>h k (by simp[hk])) fun k hk=>hc k (by simp[hk])]
  rfl
theorem pO{w:Nat}:∀{ls:List (List UInt8)} {l:List Int},dR w ls=some l->∃rs:List (List Int),rs.flatten=l/\rs.map dE=ls/\(∀r∈rs,r.length=w)/\∀r∈rs,∀n∈r,fb n=true
 |[],l,h=>by cases h;exact⟨[],rfl,rfl,fun r hr=>(by cases hr),fun r hr=>(by cases hr)⟩
 |a::ls,l,h=>by
  rw[dR]at h
  split at h
  ·cases h
  ·rename_i hlen
   cases ha:cm a with
   |none=>rw[ha]at h;cases h
   |some r=>
    cases hb:dR w ls with
    |none=>rw[ha,hb]at h;cases h
    |some l'=>
     rw[ha,hb]at h
     cases h
     obtain⟨h1,h2,h3⟩:=mu ha
     obtain⟨rs,k1,k2,k3,k4⟩:=pO hb
     have hr:r.length=w:=by
      have:¬¬a.length=2*w:=hlen
      omega
     refine⟨r::rs,by simp[k1],by simp[h1,k2],fun q hq=>?_,fun q hq=>?_⟩
     ·rcases List.mem_cons.1 hq with rfl |hq
      ·exact hr
      ·exact k3 q hq
     ·rcases List.mem_cons.1 hq with rfl |hq
      ·exact h3
      ·exact k4 q hq
theorem lM(w h:Nat)(l:List Int):dJ w h l=(((eP w h l).map dE).reverse.map (·++ [10])).flatten:=by
 unfold dJ
 rw[<-List.map_reverse,<-List.map_reverse,List.map_map]
 rfl
theorem mr{w h:Nat}{l:List Int}(hl:l.length=w*h):(dJ w h l).length=h*(2*w+1):=by
 have key:∀rs:List (List Int),(∀r∈rs,r.length=w)->((rs.map fun r=>dE r++ [10]).flatten).length=rs.length*(2*w+1):=by
  intro rs
  induction rs with
  |nil=>intro _;simp
  |cons r rs ih=>
   intro hr
   rw[List.map_cons,List.flatten_cons,List.length_append,ih fun q hq=>hr q (by simp[hq]),List.length_append,dP,hr r (by simp),List.length_cons,List.length_cons,List.length_nil,Nat.add_mul,Nat.one_mul]
   omega
 have:=key (eP w h l).reverse (fun r hr=>gE hl r (List.mem_reverse.1 hr))
 rw[List.length_reverse,gD]at this
 rw[<-this,dJ,<-List.map_reverse]
theorem Di{w h:Nat}{l:List Int}(hc:∀n∈l,fb n=true):cutAt 10 (dJ w h l)=((eP w h l).map dE).reverse++ [[]]:=by
 rw[lM]
 refine qs fun k hk=>?_
 obtain⟨r,hr,rfl⟩:=List.mem_map.1 (List.mem_reverse.1 hk)
 exact Bv fun n hn=>hc n (pF r hr n hn)
end Go.Proofs.YtmdfgncoekfgdaaGreatDoor
namespace Go.Proofs.YtmdfgncoekfgdaaGreatDoor
open Go Go.D
variable {X:aF} {m:M}
theorem kY{a b:List UInt8}{t:TypeId}(h:a.length+b.length<=9223372036854775807):aq TE .add t (str a) (str b)=some (str (a++b)):=by
 have e:aq TE .add t (str a) (str b)=if(((⟨a.toArray⟩:ByteArray).size+(⟨b.toArray⟩:ByteArray).size:Nat):Int) >IntKind.i64.max then none else some (.string ((⟨a.toArray⟩:ByteArray)++⟨b.toArray⟩)):=rfl
 have hm:IntKind.i64.max=9223372036854775807:=by decide
 rw[e,hM,hM,hm,if_neg (by omega)]
 congr 2
theorem iR{l:List UInt8}:an TE m .len [9] [str l]=some (.int .i64 l.length,m):=by
 have:an TE m .len [9] [str l]=some (.int .i64 ((⟨l.toArray⟩:ByteArray).size:Nat),m):=by kernel_rfl
 rw[this,hM]
theorem Ca{n:Int}(h:0<=n/\n<=99):jD n=[UInt8.ofNat (48+n.toNat/10),UInt8.ofNat (48+n.toNat%10)]:=by
 unfold jD
 rw[if_neg (by omega)]
def iw(w h:Nat)(l:List Int):List (List UInt8):=(eP w h l).map fun r=>dE r++ [10]
theorem eT{w h:Nat}{l:List Int}:(iw w h l).length=h:=by unfold iw;rw[List.length_map,gD]
theorem ml{w:Nat}:∀{h i:Nat} {l:List Int},i < h->(eP w h l)[i]?=some ((l.drop (i*w)).take w)
 |h+1,0,l,_=>by simp[eP]
 |h+1,i+1,l,hi=>by
  rw[eP,List.getElem?_cons_succ,ml (by omega),List.drop_drop,Nat.add_mul,Nat.one_mul,Nat.add_comm w]
theorem pG{r:List Int}{i:Nat}{n:Int}(h:r[i]?=some n):dE (r.take (i+1))=dE (r.take i)++jD n:=by
 unfold dE
 rw[List.take_add_one,h,Option.toList_some,List.flatMap_append]
 simp
set_option maxRecDepth 100000 in
theorem Dj(hX:cW X)(hS:EI X){w h:Nat}{l:List Int}{v:Value}(hv:gx w h l=true)(hl:KJ m l v):C X (.func 23) [cF w h v] m m.n (.tuple #[str (dJ w h l),.int .i64 0]) m:=by
 have hb:1<=w/\w<=40/\1<=h/\h<=40/\l.length=w*h/\∀n∈l,fb n=true:=by
  have hv:=hv
  simp only[gx,eA,Bool.and_eq_true,decide_eq_true_eq,Bool.not_eq_true',List.any_eq_false]at hv
  obtain⟨⟨⟨⟨a,b⟩,c,d⟩,e⟩,f⟩:=hv
  refine⟨by omega,by omega,by omega,by omega,by rw[<-Int.natCast_mul]at e;omega,fun n hn=>?_⟩
  have:=f n hn
  unfold fb
  simpa using this
 obtain⟨w1,w40,h1,h40,hlen,hcell⟩:=hb
 have hwh:w*h<=40*40:=Nat.mul_le_mul w40 h40
 obtain⟨hsl,ab,o,c,rfl,hlc,hab⟩:=hl
 have habn:=hab.lt
 refine Cl.flat (hX.no _ rfl) Kx rfl rfl ?_
 rw[VT];dsimp only[aI]
 refine au fun m1 hn1 hg1 hk1=>?_
 simp only[aP]at hg1
 have hx1:Ext m m1:=⟨by omega,hk1⟩
 unfold ptrTo
 rw[bO,aE hg1 (by simp)]
 show ah (some (cF w h (.slice (some ⟨ab,o,none⟩) l.length c))) _
 rw[aa]
 refine aC (ej hX (hsl.aB hx1) (by omega)) ?_
 rw[hv,aX,aa,aj,Bool.not_true,aM]
 refine au fun m7 hn7 hg7 hk7=>?_
 have hx7:Ext m1 m7:=⟨by omega,hk7⟩
 rw[bO,aE (hx7.cells hg1) (by simp)]
 show ah (some (cF w h (.slice (some ⟨ab,o,none⟩) l.length c))) _
 rw[aa]
 obtain⟨m10,hc10,hx10,hn10,hg10⟩:=Jb (m:=m7) (w:=w) (h:=h) (v:=.slice (some ⟨ab,o,none⟩) l.length c) hX rfl
 refine aC hc10 ?_
 rw[bU]
 have hx710:=hx1.trans (hx7.trans hx10)
 have hln:m10.get m1.n=.cells [.slice none 0 0] 42 none:=hx10.cells hg7
 have hsl10:iV m10 l (.slice (some ⟨ab,o,none⟩) l.length c):=hsl.aB hx710
 refine⟨fun _=>False,qh ab o w c h,_,fun k mm=>m10.n<=mm.n/\(∀c,c < m10.n->c≠m1.n->mm.get c=m10.get c)/\∃vl,mm.get m1.n=.cells [vl] 42 none/\Ow (m10.n+1) mm ((iw w h l).take k) vl,fun _ _=>False,m1.n,⟨_,rfl⟩,
  FW hX (b:=m7.n) (H:=.int .i64 h) (c:=c) ⟨w1,w40⟩ h40 (by omega),by omega,?_,?_,?_,⟨Nat.le_refl _,fun _ _ _=>rfl,_,hln,.nil⟩,?_,?_,?_⟩
 ·rintro i mm ⟨h1,h2,_⟩
  refine⟨by rw[h2 _ (by omega) (by omega),hg10,hlen],(hab.aB hx710).of (h2 _ (by have:=hx710.n;omega) (by omega))⟩
 ·rintro i mm mm2 ⟨h1,h2,vl,h3,h4⟩ hk
  exact⟨by have:=hk.n;omega,fun c hc hne=>by rw[hk.get c (by omega) (by omega),h2 c hc hne],vl,by rw[hk.get _ (by omega) (by omega),h3],h4.uf rfl fun c hc1 hc2=>hk.get c hc2 (by omega)⟩
 ·rintro e mm mm2 h;exact h.elim
 ·rintro k args m13 hn13 hx ⟨h13,hk13,vl,hvl,hol⟩
  have hkh:k < h:=by
   have:=(List.getElem?_eq_some_iff.1 hx).1
   rwa[pE]at this
  rw[xF hkh]at hx
  cases hx
  have hkw:k*w+w<=l.length:=by
   have:(k+1)*w<=h*w:=Nat.mul_le_mul_right w hkh
   rw[Nat.add_mul,Nat.one_mul,Nat.mul_comm h w]at this
   omega
  rw[aA]
  show zD [] _
  unfold zD
  refine⟨fun c _ _=>rfl,fun m17 hn17 hk17=>?_⟩
  dsimp only
  refine au fun m18 hn18 hg18 hk18=>?_
  have ln:an TE m18 .len [25] [.slice (some ⟨ab,o+k*w,none⟩) w (c-k*w)]=some (.int .i64 w,m18):=sk
  rw[ln,ar]
  obtain⟨row,hrow⟩:∃row,row=(l.drop (k*w)).take w:=⟨_,rfl⟩
  have hrl:row.length=w:=by rw[hrow,List.length_take,List.length_drop];omega
  have hsr:∀mm:M,(∀c,c < m17.n->c≠m1.n->mm.get c=m17.get c)->iV mm row (.slice (some ⟨ab,o+k*w,none⟩) w (c-k*w)):=fun mm hmm=>by
   have h1:=iV.part (m:=m10) (α:=Int) (i:=k*w) (k:=w) (c':=c-k*w) hsl10 (by omega)
   rw[<-hrow]at h1
   have h2:iV m10 row (.slice (some ⟨ab,o+k*w,none⟩) w (c-k*w)):=by
    have:o+k*w*aL.sz Int=o+k*w:=by show o+k*w*1=_;rw[Nat.mul_one]
    rwa[this]at h1
   refine h2.N2 (fun b hbn hb=>?_) rfl
   by_cases hbe:b=m1.n
   ·subst hbe
    exfalso
    have ht:=hb _ _ _ hln
    revert ht
    decide
   ·rw[hmm b (by omega) hbe,hk17 b (by omega),hk13 b (by omega) hbe]
  have hb18:Bd m18 m17.n []:=M9 hg18
  have hmn17:m17.n=m13.n:=hn17
  refine Lp.intro (γ:=Nat) (fun i=>w-i) (fun i vs mm lo=>vs=[.int .i64 i]/\i<=w/\Bd mm m17.n (dE (row.take i))/\(∀c,c < m17.n->mm.get c=m17.get c)/\m18.n<=mm.n/\m10.n<=lo) 0
   ⟨rfl,Nat.zero_le _,by simpa[dE]using hb18,fun c hc=>hk18 c hc,Nat.le_refl _,by omega⟩ ?_
  rintro i vs mm lo ⟨rfl,hi,hbd,hmm,hnm,hlo⟩
  rw[aA,aH,aa,aj]
  refine ak (fun hlt=>?_) (fun hge=>?_)
  ·have hlt:i < w:=by simpa using hlt
   obtain⟨n,hn⟩:∃n,row[i]?=some n:=⟨_,List.getElem?_eq_getElem (by omega)⟩
   have hnm2:n∈l:=by
    have:=List.mem_of_getElem? hn
    rw[hrow]at this
    exact List.mem_of_mem_drop (List.mem_of_mem_take this)
   have hcn:=hcell n hnm2
   unfold fb at hcn
   simp only[Bool.and_eq_true,decide_eq_true_eq]at hcn
   obtain⟨q,q1,q2⟩:=(hsr mm fun c hc _=>hmm c hc).iD (k:=.i64) hn
   rw[q1,aa,q2,aa,aH,aa,aj]
   have hrt:(dE (row.take i)).length=2*i:=by rw[dP,List.length_take];omega
   refine ak (fun hneg=>?_) (fun hpos=>?_)
   ·have hneg:n < 0:=by simpa using hneg
    obtain⟨r,m31,hc31,hb31,hk31⟩:=qZ (s:=[46,46]) hX hS hbd (by rw[hrt];simp;omega)
    refine aC hc31 ?_
    rw[aG,aa,wrap64 (by omega) (by omega)]
    refine⟨i+1,by omega,rfl,by omega,?_,fun c hc=>by rw[hk31.lo c hc,hmm c hc],by have:=hk31.n;omega,by omega⟩
    rw[pG hn]
    have:jD n=[46,46]:=by unfold jD;rw[if_pos hneg]
    rw[this]
    exact hb31
   ·have hpos:¬n < 0:=by simpa using hpos
    obtain⟨j,rfl⟩:∃j:Nat,n=j:=⟨n.toNat,by omega⟩
    have hj:j<=99:=by omega
    have t1:((UInt8.ofNat (48+j/10)).toNat:Int)=48+(j:Int)/10:=by rw[UInt8.toNat_ofNat'];omega
    have t2:((UInt8.ofNat (48+j%10)).toNat:Int)=48+(j:Int)%10:=by rw[UInt8.toNat_ofNat'];omega
    rw[eL (by decide),aa,aG,aa]
    have e1:IntKind.i64.wrap (48+IntKind.i64.wrap ((j:Int).tdiv 10))=48+(j:Int)/10:=by
     rw[Int.tdiv_eq_ediv_of_nonneg (by omega),wrap64 (x:=(j:Int)/10) (by omega) (by omega),wrap64 (by omega) (by omega)]
    rw[e1,oV,aa,tE (by omega) (by omega),<-t1]
    obtain⟨r,vv,hc38,hb38,hk38⟩:=nX hX hS hbd (x:=UInt8.ofNat (48+j/10)) (by rw[hrt];omega)
    refine aC hc38 ?_
    rw[mM (by decide),aa,aG,aa]
    have e2:IntKind.i64.wrap (48+(j:Int).tmod 10)=48+(j:Int)%10:=by
     rw[Int.tmod_eq_emod_of_nonneg (by omega),wrap64 (by omega) (by omega)]
    rw[e2,oV,aa,tE (by omega) (by omega),<-t2]
    obtain⟨r2,m44,hc44,hb44,hk44⟩:=nX hX hS hb38 (x:=UInt8.ofNat (48+j%10)) (by rw[List.length_append,hrt];simp;omega)
    refine aC hc44 ?_
    rw[aG,aa,wrap64 (by omega) (by omega)]
    refine⟨i+1,by omega,rfl,by omega,?_,fun c hc=>by rw[hk44.lo c hc,hk38.lo c hc,hmm c hc],by have:=hk38.n;have:=hk44.n;omega,by omega⟩
    rw[pG hn,Ca ⟨by omega,by omega⟩]
    rw[List.append_assoc]at hb44
    exact hb44
  ·have hi':i=w:=by
    have:¬(i:Int)< (w:Int):=by simpa using hge
    omega
   subst hi'
   rw[List.take_of_length_le (by omega)]at hbd
   have hrt:(dE row).length=2*i:=by rw[dP,hrl]
   have hvl17:mm.get m1.n=.cells [vl] 42 none:=by rw[hmm _ (by omega),hk17 _ (by omega),hvl]
   rw[vF,av hvl17]
   show ah (some vl) _
   rw[aa]
   obtain⟨m49,b50,hc49,hb50,hn49,hor,hk49⟩:=CW hS hbd (by omega)
   refine aC hc49 ⟨?_,?_⟩
   ·rcases hor with h |⟨h,_⟩
    ·exact .inl h
    ·refine .inr ⟨h,?_,trivial⟩
     show m1.n≠b50
     omega
   rw[kY (by rw[hrt];simp;omega),aa]
   have hbs:az TE m49 42 1 [(0,str (dE row++ [10]))]=some (.slice (some ⟨m49.n,0,none⟩) 1 1,m49.push (.cells [str (dE row++ [10])] 9 none)):=by kernel_rfl
   rw[hbs,ar]
   have hx53:Ext m49 (m49.push (.cells [str (dE row++ [10])] 9 none)):=Ext.refl.push
   generalize hm53:m49.push (.cells [str (dE row++ [10])] 9 none)=m53 at*
   have hg53:m53.get m49.n=.cells ([dE row++ [10]].map jW) 9 none:=by rw[<-hm53];exact M.aN
   have hn53:m53.n=m49.n+1:=by rw[<-hm53];rfl
   have hol53:Ow (m10.n+1) m53 ((iw i h l).take k) vl:=hol.uf rfl fun c hc1 hc2=>by
    rw[hx53.get c (by omega),hk49.lo c (by omega),hmm c (by omega),hk17 c (by omega)]
   have hll:((iw i h l).take k).length=k:=by rw[List.length_take,eT];omega
   obtain⟨v54,m55,ha55,ho55,hf55,hl55,hn55⟩:=Ow.append (y:=.slice (some ⟨m49.n,0,none⟩) 1 1) (ys:=[dE row++ [10]]) wA (by simp[aL.fR]) hol53 (jN.row hg53) (by omega) (by rw[hll];simp;omega)
   rw[ha55,ar]
   have hg55:m55.get m1.n=.cells [vl] 42 none:=by rw[hf55.get _ (by omega),hx53.get _ (by omega),hk49.lo _ (by omega),hvl17]
   have h55:m53.n<=m55.n:=hf55.n
   refine aD Kj hg55 (by rw[ho55.sl.cells];rfl) (by rw[ho55.sl.cells];rfl) (by rw[ho55.sl.cells];simp[ho55.sl.one]) fun m56 hn56 hg56 hk56=>?_
   rw[ho55.sl.cells]at hg56
   have hold:∀c,c < m10.n+1->c≠m1.n->m56.get c=m17.get c:=fun c hc hne=>by
    rw[hk56 c hne,hf55.get c hc,hx53.get c (by omega),hk49.lo c (by omega),hmm c (by omega)]
   have htk:(iw i h l).take (k+1)=(iw i h l).take k++ [dE row++ [10]]:=by
    have:(iw i h l)[k]?=some (dE row++ [10]):=by
     unfold iw
     rw[List.getElem?_map,ml hkh,<-hrow];rfl
    rw[List.take_add_one,this];rfl
   refine⟨by omega,fun c h1c h2c h3c=>?_,by omega,fun c hc hne=>?_,v54,hg56,?_⟩
   ·rcases h3c with rfl |h3c
    ·exact hold _ (by omega) (by omega)
    ·exact h3c.elim
   ·rw[hold c (by omega) hne,hk17 c (by omega),hk13 c hc hne]
   ·rw[htk]
    exact ho55.uf rfl fun c hc1 hc2=>hk56 c (by omega)
 ·rintro m58 lo59 ⟨h1,h2,vl,h3,h4⟩ hlo
  rw[pE,List.take_of_length_le (by rw[eT];exact Nat.le_refl _)]at h4
  rw[vF,av h3]
  show ah (some vl) _
  rw[aa]
  by_cases hnn:m10.n+1<=m58.n
  ·obtain⟨r,m62,b63,hc62,hb63,ho62,hk62⟩:=zV hX h4 hnn (by rw[eT];omega)
   refine aC hc62 ?_
   rw[vF,av (by rw[hk62 _ (by omega),h3])]
   show ah (some vl) _
   rw[aa]
   have hfl:(iw w h l).reverse.flatten=dJ w h l:=rfl
   have hpl:=mr hlen
   have:h*(2*w+1)<=40*81:=Nat.mul_le_mul h40 (by omega)
   refine aC (Dy hS ho62 (by rw[List.length_reverse,eT];omega) (by rw[hfl,hpl];omega)) ?_
   rw[hfl]
   have:=hc62.1
   exact⟨rfl,by omega⟩
  ·exfalso
   rcases h4 with⟨_,h5⟩ |⟨b,cs,_,_,h6,h7,_⟩
   ·have:=congrArg List.length h5
    rw[eT]at this
    simp at this
    omega
   ·have:=M.aV h7
    omega
 ·rintro e mm lo2 _ h;exact h.elim
end Go.Proofs.YtmdfgncoekfgdaaGreatDoor
namespace Go.Proofs.YtmdfgncoekfgdaaGreatDoor
open Go Go.D
variable {X:aF} {m:M}
theorem kD(l:List UInt8):(⟨l.toArray⟩:ByteArray).toList=l:=by
 rw[Lib.toList_data]
theorem MK{a b:List UInt8}{t:TypeId}:aq TE .eql t (str a) (str b)=some (.bool (decide (a=b))):=by
 have e:aq TE .eql t (str a) (str b)=some (.bool ((⟨a.toArray⟩:ByteArray).toList==(⟨b.toArray⟩:ByteArray).toList)):=rfl
 rw[e,kD,kD]
 congr 2
 by_cases h:a=b <;>simp[h]
theorem vo{a b:List UInt8}{t:TypeId}:aq TE .neq t (str a) (str b)=some (.bool (!decide (a=b))):=by
 have e:aq TE .neq t (str a) (str b)=some (.bool (!((⟨a.toArray⟩:ByteArray).toList==(⟨b.toArray⟩:ByteArray).toList))):=rfl
 rw[e,kD,kD]
 congr 3
 by_cases h:a=b <;>simp[h]
theorem qp{l:List UInt8}{i j:Nat}:(⟨l.toArray⟩:ByteArray).extract i j=⟨((l.drop i).take (j-i)).toArray⟩:=by
 apply ByteArray.ext
 simp
theorem iL{l:List UInt8}{k:Nat}(h:k<=l.length):slice? TE m 9 (str l) none (some (.int .i64 k)) none=some (str (l.take k)):=by
 have e:slice? TE m 9 (str l) none (some (.int .i64 k)) none=match cE (⟨l.toArray⟩:ByteArray).size (⟨l.toArray⟩:ByteArray).size none (some (.int .i64 k)) none with |some (a,b,_)=>some (.string ((⟨l.toArray⟩:ByteArray).extract a b)) |none=>none:=by
  have:slice? TE m 9 (str l) none (some (.int .i64 k)) none=match(none:Option Value),cE (⟨l.toArray⟩:ByteArray).size (⟨l.toArray⟩:ByteArray).size none (some (.int .i64 k)) none with |none,some (a,b,_)=>some (.string ((⟨l.toArray⟩:ByteArray).extract a b)) |_,_=>none:=by kernel_rfl
  rw[this]
  cases cE (⟨l.toArray⟩:ByteArray).size (⟨l.toArray⟩:ByteArray).size none (some (.int .i64 k)) none with
  |none=>rfl
  |some p=>rfl
 have b1:cE (⟨l.toArray⟩:ByteArray).size (⟨l.toArray⟩:ByteArray).size none (some (.int .i64 k)) none=some (0,k,l.length):=by
  rw[hM]
  unfold cE
  simp only[iq h]
 rw[e,b1]
 dsimp only
 rw[qp,List.drop_zero,Nat.sub_zero]
theorem lH{l:List UInt8}{k:Nat}(h:k<=l.length):slice? TE m 9 (str l) (some (.int .i64 k)) none none=some (str (l.drop k)):=by
 have e:slice? TE m 9 (str l) (some (.int .i64 k)) none none=match cE (⟨l.toArray⟩:ByteArray).size (⟨l.toArray⟩:ByteArray).size (some (.int .i64 k)) none none with |some (a,b,_)=>some (.string ((⟨l.toArray⟩:ByteArray).extract a b)) |none=>none:=by
  have:slice? TE m 9 (str l) (some (.int .i64 k)) none none=match(none:Option Value),cE (⟨l.toArray⟩:ByteArray).size (⟨l.toArray⟩:ByteArray).size (some (.int .i64 k)) none none with |none,some (a,b,_)=>some (.string ((⟨l.toArray⟩:ByteArray).extract a b)) |_,_=>none:=by kernel_rfl
  rw[this]
  cases cE (⟨l.toArray⟩:ByteArray).size (⟨l.toArray⟩:ByteArray).size (some (.int .i64 k)) none none with
  |none=>rfl
  |some p=>rfl
 have b1:cE (⟨l.toArray⟩:ByteArray).size (⟨l.toArray⟩:ByteArray).size (some (.int .i64 k)) none none=some (k,l.length,l.length):=by
  rw[hM]
  unfold cE
  simp only[iq h]
 rw[e,b1]
 dsimp only
 rw[qp,List.take_of_length_le (by rw[List.length_drop];exact Nat.le_refl _)]
theorem kl{l:List UInt8}{i:Nat}{x:UInt8}(h:l[i]?=some x):index? TE 9 (str l) (.int .i64 i)=some (.int .u8 x.toNat):=by
 have e:index? TE 9 (str l) (.int .i64 i)=if(0:Int)<=i then((⟨l.toArray⟩:ByteArray)[(i:Int).toNat]?).map (fun b=> .int .u8 b.toNat)else none:=by kernel_rfl
 rw[e,if_pos (by omega)]
 have hi:=(List.getElem?_eq_some_iff.1 h).1
 have e2:(⟨l.toArray⟩:ByteArray)[(i:Int).toNat]?=some x:=by
  rw[show(i:Int).toNat=i from rfl]
  have hs:i < (⟨l.toArray⟩:ByteArray).size:=by rw[hM];exact hi
  rw[getElem?_pos (⟨l.toArray⟩:ByteArray) i hs]
  congr 1
  exact(List.getElem?_eq_some_iff.1 h).2
 rw[e2];rfl
theorem sw(hX:cW X){x:UInt8}:C X (.func 84) [.int .u8 x.toNat] m m.n (.bool (kk x)) m:=by
 refine Cl.flat (hX.no _ rfl) Og rfl rfl ?_
 rw[Ys];dsimp only[aI]
 refine bY (fun vs mm lo=>vs=[.bool (kk x)]/\mm=m/\m.n<=lo) (fun R hR=>?_) ?_
 ·rw[cK,aa,aj]
  refine ak (fun h=>?_) (fun h=>?_)
  ·rw[cK,aa]
   refine hR _ _ _ ⟨?_,rfl,Nat.le_refl _⟩
   have h:(48:Int)<=x.toNat:=by simpa using h
   unfold kk
   rw[decide_eq_true (show 48<=x.toNat by omega),Bool.true_and]
   congr 2
   rw[decide_eq_decide]
   omega
  ·refine hR _ _ _ ⟨?_,rfl,Nat.le_refl _⟩
   have h:¬(48:Int)<=x.toNat:=by simpa using h
   unfold kk
   rw[decide_eq_false (show¬48<=x.toNat by omega),Bool.false_and]
 ·rintro _ _ lo ⟨rfl,rfl,h⟩
  rw[aA]
  exact⟨rfl,h⟩
def fD(s:List UInt8):Option (Nat×Nat×List Int):=
 if((cutAt 10 s).getD ((cutAt 10 s).length-1) [])=[]/\1<=(cutAt 10 s).length-1/\(cutAt 10 s).length-1<=40/\((cutAt 10 s).getD 0 []).length%2=0 then
  match dR (((cutAt 10 s).getD 0 []).length/2) ((cutAt 10 s).take ((cutAt 10 s).length-1)).reverse with
  |some l=>if gx (((cutAt 10 s).getD 0 []).length/2:Nat) ((cutAt 10 s).length-1:Nat) l=true then some (((cutAt 10 s).getD 0 []).length/2,(cutAt 10 s).length-1,l)else none
  |none=>none
 else none
theorem nE{w:Nat}:∀{ls:List (List UInt8)} {x:List UInt8},x∈ls->(x.length≠2*w\/cm x=none)->dR w ls=none
 |a::ls,x,hx,h=>by
  rw[dR]
  split
  ·rfl
  ·rename_i ha
   rcases List.mem_cons.1 hx with rfl |hx
   ·rcases h with h |h
    ·exact absurd h ha
    ·rw[h]
   ·rw[nE hx h]
    cases cm a <;>rfl
theorem sj{w:Nat}:∀{ls:List (List UInt8)} {x:List UInt8} {a b:List Int},dR w ls=some a->x.length=2*w->cm x=some b->dR w (ls++ [x])=some (a++b)
 |[],x,a,b,h,hx,hp=>by
  cases h
  rw[List.nil_append,dR,if_neg (by omega),hp]
  simp[dR]
 |y::ls,x,a,b,h,hx,hp=>by
  rw[dR]at h
  rw[List.cons_append,dR]
  split at h
  ·cases h
  ·rename_i hy
   rw[if_neg hy]
   cases hpy:cm y with
   |none=>rw[hpy]at h;cases h
   |some p=>
    cases hl:dR w ls with
    |none=>rw[hpy,hl]at h;cases h
    |some q=>
     rw[hpy,hl]at h
     cases h
     rw[sj hl hx hp]
     simp
theorem js:∀{x y:List UInt8} {a:List Int},cm x=some a->cm (x++y)=(cm y).map (a++·)
 |[],y,a,h=>by cases h;simp
 |[_],y,a,h=>by cases h
 |p::q::r,y,a,h=>by
  rw[cm]at h
  rw[List.cons_append,List.cons_append,cm]
  split at h
  ·rename_i hc
   rw[if_pos hc]
   cases hr:cm r with
   |none=>rw[hr]at h;cases h
   |some b=>rw[hr]at h;cases h;rw[js hr,Option.map_map];rfl
  ·rename_i hc
   rw[if_neg hc]
   split at h
   ·rename_i hd
    rw[if_pos hd]
    cases hr:cm r with
    |none=>rw[hr]at h;cases h
    |some b=>rw[hr]at h;cases h;rw[js hr,Option.map_map];rfl
   ·cases h
theorem xS{w h:Nat}{l:List Int}(hv:gx w h l=true):fD (dJ w h l)=some (w,h,l):=by
 have hb:1<=w/\w<=40/\1<=h/\h<=40/\l.length=w*h/\∀n∈l,fb n=true:=by
  have hv:=hv
  simp only[gx,eA,Bool.and_eq_true,decide_eq_true_eq,Bool.not_eq_true',List.any_eq_false]at hv
  obtain⟨⟨⟨⟨a,b⟩,c,d⟩,e⟩,f⟩:=hv
  refine⟨by omega,by omega,by omega,by omega,by rw[<-Int.natCast_mul]at e;omega,fun n hn=>?_⟩
  have:=f n hn
  unfold fb
  simpa using this
 obtain⟨w1,w40,h1,h40,hlen,hcell⟩:=hb
 have hc:=Di (w:=w) (h:=h) hcell
 have hrl:((eP w h l).map dE).reverse.length=h:=by rw[List.length_reverse,List.length_map,gD]
 have hk:(cutAt 10 (dJ w h l)).length-1=h:=by rw[hc,List.length_append,hrl];rfl
 have h0:((cutAt 10 (dJ w h l)).getD 0 []).length=2*w:=by
  rw[hc]
  have hlt:0 < ((eP w h l).map dE).reverse.length:=by omega
  rw[List.getD_eq_getElem?_getD,List.getElem?_append_left hlt,List.getElem?_eq_getElem hlt]
  have hm:=List.getElem_mem hlt
  rw[List.mem_reverse,List.mem_map]at hm
  obtain⟨r,hr,he⟩:=hm
  rw[Option.getD_some,<-he,dP,gE hlen r hr]
 unfold fD
 rw[hk,h0]
 have e1:(cutAt 10 (dJ w h l)).getD h []=[]:=by
  rw[hc,List.getD_eq_getElem?_getD,List.getElem?_append_right (by omega),hrl,Nat.sub_self];rfl
 rw[if_pos ⟨e1,h1,h40,by omega⟩]
 have e2:((cutAt 10 (dJ w h l)).take h).reverse=(eP w h l).map dE:=by
  rw[hc,List.take_append_of_le_length (by omega),List.take_of_length_le (by omega),List.reverse_reverse]
 rw[e2,show 2*w/2=w by omega,sg (gE hlen) fun r hr n hn=>hcell n (pF r hr n hn),nu hlen]
 dsimp only
 rw[if_pos hv]
theorem tY{s:List UInt8}{w h:Nat}{l:List Int}(hp:fD s=some (w,h,l)):gx w h l=true/\dJ w h l=s:=by
 unfold fD at hp
 split at hp
 ·rename_i hc
  obtain⟨c1,c2,c3,c4⟩:=hc
  cases hl:dR (((cutAt 10 s).getD 0 []).length/2) ((cutAt 10 s).take ((cutAt 10 s).length-1)).reverse with
  |none=>rw[hl]at hp;cases hp
  |some l'=>
   rw[hl]at hp
   dsimp only at hp
   split at hp
   ·rename_i hd
    cases hp
    refine⟨hd,?_⟩
    obtain⟨ls,e,h1,h2,h3⟩:=sM (c:=10) s
    have hn:(cutAt 10 s).length-1=ls.length:=by rw[h1,List.length_append];rfl
    have he:e=[]:=by
     rw[hn,h1,List.getD_eq_getElem?_getD,List.getElem?_append_right (Nat.le_refl _),Nat.sub_self]at c1
     exact c1
    subst he
    have ht:(cutAt 10 s).take ((cutAt 10 s).length-1)=ls:=by rw[hn,h1,List.take_append_of_le_length (Nat.le_refl _),List.take_of_length_le (Nat.le_refl _)]
    rw[ht]at hl
    obtain⟨rs,k1,k2,k3,_⟩:=pO hl
    have hr:rs.length=ls.length:=by
     have:=congrArg List.length k2
     rw[List.length_map,List.length_reverse]at this
     exact this
    rw[hn,<-k1,<-hr,lM,xG k3,k2,List.reverse_reverse,h2,List.append_nil]
   ·cases hp
 ·cases hp
end Go.Proofs.YtmdfgncoekfgdaaGreatDoor
namespace Go.Proofs.YtmdfgncoekfgdaaGreatDoor
open Go Go.D Go.ChangeShapes Go.WideShapes Go.ChangeAt Go.RowKit
theorem Bo:Tryz.prog.underlying 23=some (.array 3 3):=by kernel_rfl
theorem ri:Tryz.prog.underlying 9=some .string:=by kernel_rfl
section
variable {H:Type} {enc:TypeId×Value->H} {W W':World} {sp:Nat->Bool} {held:Bool} {base:Nat}
set_option maxRecDepth 100000 in
theorem CV{v:Value}{d:DataW H}{ps:List MemPlace}(hok:Value.okWide Tryz.prog W .any base 23 v)(h:DataW.Trod enc Tryz.prog W 0 sp held 23 v d ps):
  aJ (lx W) v v/\∃a b c,v=.agg #[.int .i64 a,.int .i64 b,.int .i64 c]/\fP a/\fP b/\fP c:=by
 simp only[Value.okWide,Bo]at hok
 obtain⟨cs,rfl,_⟩:=hok
 obtain⟨fuel,h⟩:=h
 obtain⟨l,hl,hn,hr⟩:=vK Bo (by kernel_rfl) h
 obtain⟨cs⟩:=cs
 have hl':cs=l.map (.int .i64):=hl
 subst hl'
 match l,hn,hr with
 |[a,b,c],_,hr=>exact⟨aJ.eb rfl,a,b,c,rfl,hr _ (by simp),hr _ (by simp),hr _ (by simp)⟩
set_option maxRecDepth 100000 in
theorem JQ{v:Value}{d:DataW H}{ps:List MemPlace}(hok:Value.okWide Tryz.prog W .any base 4 v)(h:DataW.Trod enc Tryz.prog W 0 sp held 4 v d ps):
  aJ (lx W) v v/\∃b,v=.bool b:=by
 obtain⟨fuel,h⟩:=h
 obtain⟨b,hb,_⟩:=DataW.trod_bool uN h
 have hv:v=.bool b:=by
  simp only[Value.okWide,uN]at hok
  cases v with
  |agg cs=>
   exfalso
   revert hok
   simp[Cell.okWide,Cell.ok,uN]
  |bool k=>simpa[Value.cells]using hb
  |_=>simp[Value.cells]at hb
 subst hv
 exact⟨aJ.eb rfl,b,rfl⟩
set_option maxRecDepth 100000 in
theorem zJ{v:Value}{d:DataW H}{ps:List MemPlace}(hok:Value.okWide Tryz.prog W .any base 9 v)(h:DataW.Trod enc Tryz.prog W 0 sp held 9 v d ps):
  aJ (lx W) v v/\∃s:List UInt8,v=str s/\s.length < 9223372036854775808:=by
 obtain⟨fuel,h⟩:=h
 obtain⟨s,hs,_,hl⟩:=DataW.trod_string ri h
 have hv:v=.string s:=by
  simp only[Value.okWide,ri]at hok
  cases v with
  |agg cs=>
   exfalso
   revert hok
   simp[Cell.okWide,Cell.ok,ri]
  |string k=>simpa[Value.cells]using hs
  |_=>simp[Value.cells]at hs
 subst hv
 have hm:maxLen < 9223372036854775808:=by unfold maxLen;decide
 refine⟨aJ.eb rfl,s.data.toList,?_,?_⟩
 ·show Value.string s=Value.string ⟨s.data.toList.toArray⟩
  rw[Array.toArray_toList]
 ·rw[Array.length_toList]
  have:s.data.size=s.size:=rfl
  omega
theorem M8{t e:TypeId}{v:Value}{fuel:Nat}{x:DataW H×List MemPlace}(ht:Tryz.prog.underlying t=some (.slice e))(h:DataW.trod enc Tryz.prog W 0 sp held fuel t [v]=some x):∀a n c,v=.slice a n c->n<=c:=by
 rintro a n c rfl
 rcases DataW.trod_slice ht h with⟨hv,_⟩ |⟨a',len,cap,elems,rest,k,_,hv,_,_,hl,_⟩
 ·cases hv
  exact Nat.le_refl _
 ·cases hv
  exact hl
set_option maxRecDepth 100000 in
theorem AH{v:Value}{d:DataW H}{ps:List MemPlace}(hok:Value.okWide Tryz.prog W .any base 27 v)(h:DataW.Trod enc Tryz.prog W 0 sp held 27 v d ps):
  aJ (lx W) v v/\∃w h vc,v=cF w h vc/\fP w/\fP h/\(∀a n c,vc=.slice a n c->n<=c)/\∃l:List Int,zx (dU W) l vc/\l.length < 9223372036854775808/\∀y∈l,fP y:=by
 have hu:=Tryz.underlying27
 have hct:Tryz.prog.cellTypes Tryz.prog.depth 27=some [3,3,25]:=by kernel_rfl
 have hco:Tryz.prog.cellsOf 27=3:=by kernel_rfl
 have c1:Tryz.prog.cellsOf 3=1:=by kernel_rfl
 have c2:Tryz.prog.cellsOf 25=1:=by kernel_rfl
 simp only[Value.okWide,hu]at hok
 obtain⟨cs,rfl,hsz,ts,hts, -,hcell⟩:=hok
 rw[hct]at hts
 cases hts
 rw[hco]at hsz
 obtain⟨cs⟩:=cs
 have hsz:cs.length=3:=hsz
 obtain⟨fuel,h⟩:=h
 obtain⟨xs,n,_,_,_,hxl,hel⟩:=DataW.trod_struct hu h
 match cs,hsz with
 |[va,vb,vc],_=>
  have e0:=hel 0 _ rfl
  have e1:=hel 1 _ rfl
  have e2:=hel 2 _ rfl
  have hxl:xs.length=3:=hxl
  obtain⟨y0,hy0⟩:∃y,xs[0]?=some y:=⟨_,List.getElem?_eq_getElem (by omega)⟩
  obtain⟨y1,hy1⟩:∃y,xs[1]?=some y:=⟨_,List.getElem?_eq_getElem (by omega)⟩
  obtain⟨y2,hy2⟩:∃y,xs[2]?=some y:=⟨_,List.getElem?_eq_getElem (by omega)⟩
  rw[hy0]at e0
  rw[hy1]at e1
  rw[hy2]at e2
  replace e0:DataW.trod enc Tryz.prog W 0 sp held n 3 (([va,vb,vc].drop 0).take (Tryz.prog.cellsOf 3))=some y0:=e0
  rw[c1]at e0
  replace e0:DataW.trod enc Tryz.prog W 0 sp held n 3 [va]=some y0:=e0
  replace e1:DataW.trod enc Tryz.prog W 0 sp held n 3 (([va,vb,vc].drop 1).take (Tryz.prog.cellsOf 3))=some y1:=e1
  rw[c1]at e1
  replace e1:DataW.trod enc Tryz.prog W 0 sp held n 3 [vb]=some y1:=e1
  replace e2:DataW.trod enc Tryz.prog W 0 sp held n 25 (([va,vb,vc].drop 2).take (Tryz.prog.cellsOf 25))=some y2:=e2
  rw[c2]at e2
  replace e2:DataW.trod enc Tryz.prog W 0 sp held n 25 [vc]=some y2:=e2
  obtain⟨t2,h2,k2⟩:=hcell 2 vc rfl
  cases h2
  obtain⟨z0,hz0,_,hw0⟩:=DataW.trod_int tG e0
  obtain⟨z1,hz1,_,hw1⟩:=DataW.trod_int tG e1
  cases hz0
  cases hz1
  obtain⟨a2,b2⟩:=zO (α:=Int) (v:=vc) rj (by kernel_rfl) HS k2 e2
  refine⟨.agg _ _ rfl fun j x y hx hy=>?_,z0,z1,vc,rfl,uJ hw0,uJ hw1,M8 rj e2,b2⟩
  rw[hx]at hy
  cases hy
  match j,hx with
  |0,hx=>cases hx;exact .flat _ rfl
  |1,hx=>cases hx;exact .flat _ rfl
  |2,hx=>cases hx;exact a2
  |j+3,hx=>simp at hx
end
section
variable {H:Type} {enc:TypeId×Value->H} {W W':World} {v:Value} {d:DataW H} {ps:List MemPlace}
theorem IX(hb:Below W.heap.size W W')(h:DataW.Trod enc Tryz.prog W 0 (fun _=>true) true 23 v d ps)(hlt:∀x∈ps,x.block < W.heap.size)(sp:Nat->Bool)(hs:∀x∈ps,sp x.block=true):DataW.Trod enc Tryz.prog W' 0 sp true 23 v d ps:=
 WideElems.Trod_stays laidOut (by kernel_rfl) (of_decide_eq_true (by kernel_rfl)) h (fun x hx=>hb.same (hlt x hx)) hs
theorem Lo(hb:Below W.heap.size W W')(h:DataW.Trod enc Tryz.prog W 0 (fun _=>true) true 4 v d ps)(hlt:∀x∈ps,x.block < W.heap.size)(sp:Nat->Bool)(hs:∀x∈ps,sp x.block=true):DataW.Trod enc Tryz.prog W' 0 sp true 4 v d ps:=
 WideElems.Trod_stays laidOut (by kernel_rfl) (of_decide_eq_true (by kernel_rfl)) h (fun x hx=>hb.same (hlt x hx)) hs
theorem Ll(hb:Below W.heap.size W W')(h:DataW.Trod enc Tryz.prog W 0 (fun _=>true) true 9 v d ps)(hlt:∀x∈ps,x.block < W.heap.size)(sp:Nat->Bool)(hs:∀x∈ps,sp x.block=true):DataW.Trod enc Tryz.prog W' 0 sp true 9 v d ps:=
 WideElems.Trod_stays laidOut (by kernel_rfl) (of_decide_eq_true (by kernel_rfl)) h (fun x hx=>hb.same (hlt x hx)) hs
theorem IV(hb:Below W.heap.size W W')(h:DataW.Trod enc Tryz.prog W 0 (fun _=>true) true 27 v d ps)(hlt:∀x∈ps,x.block < W.heap.size)(sp:Nat->Bool)(hs:∀x∈ps,sp x.block=true):DataW.Trod enc Tryz.prog W' 0 sp true 27 v d ps:=
 WideElems.Trod_stays laidOut (by kernel_rfl) (of_decide_eq_true (by kernel_rfl)) h (fun x hx=>hb.same (hlt x hx)) hs
end
end Go.Proofs.YtmdfgncoekfgdaaGreatDoor
namespace Go.D
open Go
section
variable {E:Env} {call:aF} {n:Nat}
def flat:Code->List Code
 |.seq a b=>flat a++flat b
 |c=> [c]
def eW(f:Code->Fr->Option (Ex×Fr)):List Code->Fr->Option (Ex×Fr)
 |[],fr=>some (.normal,fr)
 |c::r,fr=>match f c fr with
  |some (.normal,fr)=>eW f r fr
  |r=>r
theorem mH(f:Code->Fr->Option (Ex×Fr)):∀(a b:List Code) (fr:Fr),eW f (a++b) fr=match eW f a fr with |some (.normal,fr)=>eW f b fr |r=>r
 |[],b,fr=>rfl
 |c::a,b,fr=>by
  show(match f c fr with |some (.normal,fr)=>eW f (a++b) fr |r=>r)=match(match f c fr with |some (.normal,fr)=>eW f a fr |r=>r)with |some (.normal,fr)=>eW f b fr |r=>r
  cases h:f c fr with
  |none=>rfl
  |some p=>
   obtain⟨e,fr1⟩:=p
   cases e with
   |normal=>exact mH f a b fr1
   |exit id=>rfl
   |ret=>rfl
theorem ku:∀(c:Code) (fr:Fr),aZ E call n c fr=eW (aZ E call n) (flat c) fr
 |.seq a b,fr=>by
  rw[flat,mH,<-ku a fr]
  show(match aZ E call n a fr with |some (.normal,fr)=>aZ E call n b fr |r=>r)=_
  cases h:aZ E call n a fr with
  |none=>rfl
  |some p=>
   obtain⟨e,fr1⟩:=p
   cases e with
   |normal=>exact ku b fr1
   |exit id=>rfl
   |ret=>rfl
 |.skip,fr=>eG _ fr
 |.region _ _ _,fr=>eG _ fr
 |.cond _ _ _,fr=>eG _ fr
 |.block _ _,fr=>eG _ fr
 |.loop _,fr=>eG _ fr
 |.exit _,fr=>eG _ fr
 |.ret,fr=>eG _ fr
 |.label _,fr=>eG _ fr
 |.goto _,fr=>eG _ fr
 |.rangeFunc _ _ _ _,fr=>eG _ fr
 |.scope _,fr=>eG _ fr
 |.refuse _,fr=>eG _ fr
where
 eG (c:Code) (fr:Fr):aZ E call n c fr=eW (aZ E call n) [c] fr:=by
  unfold eW
  cases h:aZ E call n c fr with
  |none=>rfl
  |some p=>
   obtain⟨e,fr1⟩:=p
   cases e <;>rfl
theorem mF{f:Code->Fr->Option (Ex×Fr)}{l:List Code}{fr fr':Fr}(a k:Nat)(h:eW f ((l.drop a).take k) fr=some (.normal,fr')):eW f (l.drop a) fr=eW f (l.drop (a+k)) fr':=by
 have e:l.drop a=(l.drop a).take k++l.drop (a+k):=by rw[<-List.drop_drop,List.take_append_drop]
 rw[e,mH,h]
theorem wj{X:aF}{f:FuncId}{fn:Func}{c:Code}{args:List Value}{m:M}{fr:Fr}{v:Value}(hX:X (.func f) args m=none)(hf:E.fn.get f=some fn)(hb:fn.body=some c)(hle:Nat.ble args.length fn.ntmps=true)
  (he:aZ E (bN E X n) n c {T:=enter args 0,m:={m with low:=m.n}}=some (.ret,fr)) (hr:result? E fn fr.T fr.m=some v) (hv:bD v=true) (hl:Nat.ble m.n fr.m.low=true):bN E X (n+1) (.func f) args m=some (v,m):=by
 unfold bN
 rw[hX,hf]
 dsimp only
 rw[hb]
 dsimp only
 rw[hle,cond_true,he]
 dsimp only
 rw[hr]
 dsimp only
 rw[hv,hl]
 rfl
end
end Go.D
