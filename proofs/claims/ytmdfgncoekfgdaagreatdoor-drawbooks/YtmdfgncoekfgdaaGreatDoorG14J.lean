/- The plain law of DrawBooks: contacts on the leaves of a book. -/
import Derived.Test.YtmdfgncoekfgdaaGreatDoorG13J
import Derived.Test.YtmdfgncoekfgdaaGreatDoorG4J
import Derived.Sort.Row
import Derived.Sort.Grow
import Derived.Test.YtmdfgncoekfgdaaGreatDoorG7J
namespace Go.Proofs.YtmdfgncoekfgdaaGreatDoor
open Go Go.D
def cj(f:Nat->Nat):Nat->Nat
 |0=>0
 |n+1=>cj f n+f n
def iE(f:Nat->Nat):Nat->Nat
 |0=>0
 |n+1=>max (iE f n) (f n)
theorem dL{f g:Nat->Nat}:∀{n:Nat},(∀i,i < n->f i=g i)->cj f n=cj g n
 |0,_=>rfl
 |n+1,h=>by rw[cj,cj,dL fun i hi=>h i (by omega),h n (by omega)]
theorem xW{f g:Nat->Nat}:∀n:Nat,cj (fun i=>f i+g i) n=cj f n+cj g n
 |0=>rfl
 |n+1=>by rw[cj,cj,cj,xW n];omega
theorem mA{f:Nat->Nat}:∀{n:Nat},(∀i,i < n->f i=0)->cj f n=0
 |0,_=>rfl
 |n+1,h=>by rw[cj,mA fun i hi=>h i (by omega),h n (by omega)]
theorem sg{f:Nat->Nat}:∀{n j:Nat},j < n->f j=1->(∀i,i < n->i≠j->f i=0)->cj f n=1
 |0,j,h,_,_=>by omega
 |n+1,j,h,h1,h0=>by
  rw[cj]
  by_cases e:j=n
  ·subst e
   rw[h1,mA fun i hi=>h0 i (by omega) (by omega)]
  ·rw[sg (j:=j) (by omega) h1 fun i hi hne=>h0 i (by omega) hne,h0 n (by omega) (fun q=>e q.symm)]
theorem wo{f:Nat->Nat}:∀{n:Nat},cj f n<=1->iE f n=cj f n
 |0,_=>rfl
 |n+1,h=>by
  rw[cj]at h
  have:=wo (f:=f) (n:=n) (by omega)
  rw[cj,iE,this]
  omega
theorem uniq{us:List Un}(hP:cS us){u v:Un}(hu:u∈us)(hv:v∈us)(h:u.id=v.id):u=v:=by
 have h1:=hP.find hu
 have h2:=hP.find hv
 rw[h,h2]at h1
 cases h1;rfl
theorem lP{us:List Un}{c:Ct}(h:c∈cf us):(∃w∈us,dm w=some c)\/∃u v,(u,v)∈eS us/\dp u v=some c:=by
 unfold cf at h
 rcases List.mem_append.1 h with h |h
 ·obtain⟨w,hw,e⟩:=List.mem_filterMap.1 h
  exact .inl ⟨w,hw,e⟩
 ·obtain⟨⟨u,v⟩,hw,e⟩:=List.mem_filterMap.1 h
  exact .inr ⟨u,v,hw,e⟩
theorem dX{w:Un}{c:Ct}(h:dm w=some c):c.a=w.id/\c.b= -1/\aP w.shape=true/\∃i,i < w.shape.length/\c.p=dj w.shape i/\c.q=jK w.shape i:=by
 unfold dm at h
 split at h
 ·rename_i hv
  rw[Option.map_eq_some_iff]at h
  obtain⟨x,hx,rfl⟩:=h
  obtain⟨i,hi,hx⟩:=List.exists_of_findSome?_eq_some hx
  unfold tE at hx
  split at hx
  ·cases hx
   exact⟨rfl,rfl,mu hv,i,List.mem_range.1 hi,rfl,rfl⟩
  ·cases hx
 ·cases h
theorem dW{u v:Un}{c:Ct}(h:dp u v=some c):c.a=u.id/\c.b=v.id/\iY u v=true/\Ms u.shape v.shape c.p c.q:=by
 unfold dp at h
 split at h
 ·rename_i hv
  rw[Option.map_eq_some_iff]at h
  obtain⟨x,hx,rfl⟩:=h
  exact⟨rfl,rfl,hv,Ay hx⟩
 ·cases h
theorem Ci{us:List Un}(hP:cS us){u:Un}(hu:u∈us){c:Ct}(hc:c∈cf us)(ho:fx u.id c=true):
  ∃i,i < u.shape.length/\nR u.shape i c=true/\∀j,j < u.shape.length->nR u.shape j c=true->j=i:=by
 have hid:=hP.Nh hu
 unfold fx at ho
 rw[Bool.or_eq_true,decide_eq_true_eq,decide_eq_true_eq]at ho
 have fin:∀i,i < u.shape.length->aP u.shape=true->c.p≠c.q->bE (dj u.shape i) (jK u.shape i) c.p=0->bE (dj u.shape i) (jK u.shape i) c.q=0->∃i,i < u.shape.length/\nR u.shape i c=true/\∀j,j < u.shape.length->nR u.shape j c=true->j=i:=by
  intro i hi hv hne h1 h2
  refine⟨i,hi,Ck.2 ⟨h1,h2⟩,fun j hj hon=>?_⟩
  obtain⟨h3,h4⟩:=Ck.1 hon
  exact Jl hv hj hi hne h3 h4 h1 h2
 rcases lP hc with⟨w,hw,e⟩ |⟨x,y,hxy,e⟩
 ·obtain⟨ea,eb,hv,i,hi,e1,e2⟩:=dX e
  rcases ho with ho |ho
  ·obtain rfl:=uniq hP hw hu (ea.symm.trans ho)
   exact fin i hi hv (by rw[e1,e2];exact jt hv hi) (by rw[e1];exact gI _ _) (by rw[e2];exact gH _ _)
  ·omega
 ·obtain⟨ea,eb, -,hs⟩:=dW e
  obtain⟨hx,hy⟩:=fH hxy
  rcases ho with ho |ho
  ·obtain rfl:=uniq hP hx hu (ea.symm.trans ho)
   obtain⟨i,hi,h1,h2⟩:=hs.ea
   exact fin i hi hs.va hs.ne h1 h2
  ·obtain rfl:=uniq hP hy hu (eb.symm.trans ho)
   obtain⟨i,hi,h1,h2⟩:=hs.eb
   exact fin i hi hs.vb hs.ne h1 h2
theorem Fo{us:List Un}(hP:cS us):(cf us).Pairwise fun c d=>¬(c.a=d.a/\c.b=d.b):=by
 have hp:=hP.pair
 unfold cf
 rw[List.pairwise_append]
 refine⟨?_,?_,?_⟩
 ·refine List.Pairwise.filterMap dm (R:=fun a b:Un=>a.id < b.id) (fun a b hab c hc d hd=>?_) hp
  obtain⟨e1,_⟩:=dX hc
  obtain⟨e2,_⟩:=dX hd
  omega
 ·have key:∀l:List Un,l.Pairwise (fun a b=>a.id < b.id)->(eS l).Pairwise fun x y=>¬(x.1.id=y.1.id/\x.2.id=y.2.id):=by
   intro l
   induction l with
   |nil=>intro _;exact List.Pairwise.nil
   |cons x r ih=>
    intro hl
    rw[List.pairwise_cons]at hl
    rw[eS,List.pairwise_append]
    refine⟨?_,ih hl.2,?_⟩
    ·rw[List.pairwise_map]
     exact hl.2.imp fun{a b} hab=>by
      rintro⟨_,h⟩
      have h:a.id=b.id:=h
      omega
    ·intro p hp q hq
     obtain⟨y,hy,rfl⟩:=List.mem_map.1 hp
     rintro⟨h,_⟩
     have h:x.id=q.1.id:=h
     have:=hl.1 q.1 (fH (u:=q.1) (v:=q.2) hq).1
     omega
  refine List.Pairwise.filterMap (fun p:Un×Un=>dp p.1 p.2) (R:=fun x y:Un×Un=>¬(x.1.id=y.1.id/\x.2.id=y.2.id)) (fun a b hab c hc d hd=>?_) (key us hp)
  obtain⟨e1,e2,_⟩:=dW hc
  obtain⟨e3,e4,_⟩:=dW hd
  rintro⟨h1,h2⟩
  exact hab ⟨by omega,by omega⟩
 ·intro c hc d hd
  obtain⟨w,hw,hc⟩:=List.mem_filterMap.1 hc
  obtain⟨⟨x,y⟩,hxy,hd⟩:=List.mem_filterMap.1 hd
  obtain⟨_,e1,_⟩:=dX hc
  obtain⟨_,e2,_⟩:=dW hd
  have:=hP.Nh (fH hxy).2
  have e2:d.b=y.id:=e2
  rintro⟨_,h⟩
  omega
theorem np{α:Type}{R:α->α->Prop}{p:α->Bool}(h:∀c d,p c=true->p d=true->¬R c d):∀{l:List α},l.Pairwise R->l.countP p<=1
 |[],_=>by simp
 |x::l,hl=>by
  rw[List.pairwise_cons]at hl
  rw[List.countP_cons]
  by_cases hx:p x=true
  ·have:l.countP p=0:=by
    rw[List.countP_eq_zero]
    intro y hy hp
    exact h x y hx hp (hl.1 y hy)
   rw[this,if_pos hx]
   exact Nat.le_refl _
  ·rw[if_neg hx]
   exact np h hl.2
def fA(id k:Int)(c:Ct):Bool:=fx id c && decide (c.a+c.b-id=k)
theorem oQ{id k:Int}{c:Ct}:fA id k c=true↔(c.a=id/\c.b=k)\/(c.a=k/\c.b=id):=by
 unfold fA fx
 rw[Bool.and_eq_true,Bool.or_eq_true,decide_eq_true_eq,decide_eq_true_eq,decide_eq_true_eq]
 omega
theorem Ej(id k:Int)(c:Ct):fA id k c=fA k id c:=by
 rw[Bool.eq_iff_iff,oQ,oQ]
 omega
theorem Ht{us:List Un}(hP:cS us){u:Un}(hu:u∈us)(k:Int):(cf us).countP (fA u.id k)<=1:=by
 have hlt:∀c∈cf us,c.b= -1\/c.a < c.b:=by
  intro c hc
  rcases lP hc with⟨w,hw,e⟩ |⟨x,y,hxy,e⟩
  ·exact .inl (dX e).2.1
  ·obtain⟨e1,e2,_⟩:=dW e
   have:=qk hP.pair hxy
   exact .inr (by omega)
 have hge:∀c∈cf us,0<=c.a:=by
  intro c hc
  rcases lP hc with⟨w,hw,e⟩ |⟨x,y,hxy,e⟩
  ·have:=hP.Nh hw
   have:=(dX e).1
   omega
  ·obtain⟨e1,e2,_⟩:=dW e
   have:=hP.Nh (fH hxy).1
   omega
 have h1:(cf us).Pairwise fun c d=>¬(c.a=d.a/\c.b=d.b)/\(c.b= -1\/c.a < c.b)/\(d.b= -1\/d.a < d.b)/\0<=c.a/\0<=d.a:=by
  refine List.Pairwise.imp_of_mem ?_ (Fo hP)
  intro c d hc hd h
  exact⟨h,hlt c hc,hlt d hd,hge c hc,hge d hd⟩
 refine np ?_ h1
 rintro c d hc hd ⟨h,h2,h3,h4,h5⟩
 rw[oQ]at hc hd
 have:=hP.Nh hu
 exact h ⟨by omega,by omega⟩
section
variable (us:List Un) (cts:List Ct) (u:Un)
def fU(i:Nat):List Int:=(cts.filter fun c=>fx u.id c && nR u.shape i c).map fun c=>c.a+c.b-u.id
def qt:List Int:=(us.filter fun w=>decide (w.back=u.front) && cH u.shape w.shape).map (·.id)
def vw:List Int:=(us.filter fun w=>decide (w.front=u.back) && cH u.shape w.shape).map (·.id)
def pw(i:Nat):List Int:=if i < u.shape.length then fU cts u i else if i=u.shape.length then qt us u else vw us u
def me(k:Int)(i:Nat):Nat:=(pw us cts u i).count k
end
theorem Bj{cts:List Ct}{u:Un}{i:Nat}{k:Int}:(fU cts u i).count k=cts.countP fun c=>fA u.id k c && nR u.shape i c:=by
 unfold fU
 rw[List.count,List.countP_map,List.countP_filter]
 refine List.countP_congr fun c _=>?_
 unfold fA
 simp only[Function.comp,Bool.and_eq_true,beq_iff_eq,decide_eq_true_eq]
 constructor
 ·rintro⟨h1,h2,h3⟩;exact⟨⟨h2,h1⟩,h3⟩
 ·rintro⟨⟨h1,h2⟩,h3⟩;exact⟨h2,h1,h3⟩
theorem HV{cts:List Ct}{u:Un}{i:Nat}:(fU cts u i).length=cts.countP fun c=>fx u.id c && nR u.shape i c:=by
 unfold fU
 rw[List.length_map,<-List.countP_eq_length_filter]
theorem BW{α:Type}{p:α->Bool}{q:Nat->α->Bool}{n:Nat}:∀{l:List α},(∀c∈l,p c=true->∃i,i < n/\q i c=true/\∀j,j < n->q j c=true->j=i)->cj (fun i=>l.countP fun c=>p c && q i c) n=l.countP p
 |[],_=>mA fun _ _=>rfl
 |x::l,h=>by
  have e:cj (fun i=>(x::l).countP fun c=>p c && q i c) n=cj (fun i=>l.countP fun c=>p c && q i c) n+cj (fun i=>if(p x && q i x)=true then 1 else 0) n:=by
   rw[<-xW]
   exact dL fun i _=>by rw[List.countP_cons]
  rw[e,BW fun c hc=>h c (List.mem_cons_of_mem _ hc),List.countP_cons]
  congr 1
  by_cases hx:p x=true
  ·obtain⟨j,hj,h1,h2⟩:=h x List.mem_cons_self hx
   rw[if_pos hx]
   refine sg hj (by rw[hx,h1];rfl) fun i hi hne=>?_
   rw[if_neg]
   intro hc
   rw[Bool.and_eq_true]at hc
   exact hne (h2 i hi hc.2)
  ·rw[if_neg hx]
   refine mA fun i _=>?_
   rw[if_neg]
   intro hc
   rw[Bool.and_eq_true]at hc
   exact hx hc.1
section
variable {us:List Un} {cts:List Ct} {u v:Un}
theorem DV(hP:cS us)(hu:u∈us)(hc:cts.Perm (cf us)):cj (fun i=>(fU cts u i).length) u.shape.length=cts.countP (fx u.id):=by
 rw[<-BW (q:=fun i c=>nR u.shape i c) (n:=u.shape.length) fun c hm hp=>Ci hP hu (hc.mem_iff.1 hm) hp]
 exact dL fun i _=>HV
theorem uR(hP:cS us)(hu:u∈us)(hc:cts.Perm (cf us))(k:Int):cj (fun i=>(fU cts u i).count k) u.shape.length=cts.countP (fA u.id k):=by
 rw[<-BW (q:=fun i c=>nR u.shape i c) (n:=u.shape.length) fun c hm hp=>Ci hP hu (hc.mem_iff.1 hm) (by unfold fA at hp;rw[Bool.and_eq_true]at hp;exact hp.1)]
 exact dL fun i _=>Bj
theorem EB(hP:cS us)(hu:u∈us)(hc:cts.Perm (cf us)){c:Ct}(hm:c∈cts)(ho:fx u.id c=true):cj (fun i=>(fU cts u i).count (c.a+c.b-u.id)) u.shape.length=1:=by
 rw[uR hP hu hc]
 have h1:cts.countP (fA u.id (c.a+c.b-u.id))<=1:=by rw[hc.countP_eq];exact Ht hP hu _
 have h2:0 < cts.countP (fA u.id (c.a+c.b-u.id)):=by
  rw[List.countP_pos_iff]
  refine⟨c,hm,?_⟩
  unfold fA
  rw[ho,decide_eq_true rfl];rfl
 omega
theorem El(hP:cS us):(us.map (·.id)).Nodup:=by
 have:=hP.pair
 rw[List.Nodup,List.pairwise_map]
 exact this.imp fun h=>by omega
theorem count_filter(hP:cS us)(hv:v∈us)(p:Un->Bool):((us.filter p).map (·.id)).count v.id=if p v=true then 1 else 0:=by
 have hle:((us.filter p).map (·.id)).count v.id<=1:=List.nodup_iff_count.1 ((El hP).sublist (List.filter_sublist.map _)) v.id
 by_cases h:p v=true
 ·rw[if_pos h]
  have:0 < ((us.filter p).map (·.id)).count v.id:=List.count_pos_iff.2 (List.mem_map.2 ⟨v,List.mem_filter.2 ⟨hv,h⟩,rfl⟩)
  omega
 ·rw[if_neg h,List.count_eq_zero]
  intro hm
  obtain⟨w,hw,e⟩:=List.mem_map.1 hm
  rw[List.mem_filter]at hw
  obtain rfl:=uniq hP hw.1 hv e
  exact h hw.2
theorem rT(hP:cS us)(hu:u∈us)(hv:v∈us)(hc:cts.Perm (cf us)):
  cj (me us cts u v.id) (u.shape.length+2)=cts.countP (fA u.id v.id)+(if(decide (v.back=u.front) && cH u.shape v.shape)=true then 1 else 0)+(if(decide (v.front=u.back) && cH u.shape v.shape)=true then 1 else 0):=by
 rw[cj,cj,<-uR hP hu hc]
 have e1:me us cts u v.id u.shape.length=(qt us u).count v.id:=by
  unfold me pw
  rw[if_neg (by omega),if_pos rfl]
 have e2:me us cts u v.id (u.shape.length+1)=(vw us u).count v.id:=by
  unfold me pw
  rw[if_neg (by omega),if_neg (by omega)]
 rw[e1,e2]
 unfold qt vw
 rw[count_filter hP hv,count_filter hP hv]
 congr 2
 exact dL fun i hi=>by unfold me pw;rw[if_pos hi]
theorem Bp(hP:cS us)(hu:u∈us)(hv:v∈us)(hc:cts.Perm (cf us))(h:0 < cts.countP (fA u.id v.id)):max u.back v.back < min u.front v.front:=by
 obtain⟨c,hm,h⟩:=List.countP_pos_iff.1 h
 rw[oQ]at h
 have hm:=hc.mem_iff.1 hm
 have i1:=hP.Nh hu
 have i2:=hP.Nh hv
 rcases lP hm with⟨w,hw,e⟩ |⟨x,y,hxy,e⟩
 ·have:=(dX e).2.1
  omega
 ·obtain⟨e1,e2,hcom,_⟩:=dW e
  obtain⟨hx,hy⟩:=fH hxy
  have hlt:=qk hP.pair hxy
  unfold iY at hcom
  simp only[Bool.and_eq_true,decide_eq_true_eq]at hcom
  rcases h with⟨h1,h2⟩ |⟨h1,h2⟩
  ·obtain rfl:=uniq hP hx hu (e1.symm.trans h1)
   obtain rfl:=uniq hP hy hv (e2.symm.trans h2)
   exact hcom.2
  ·obtain rfl:=uniq hP hx hv (e1.symm.trans h1)
   obtain rfl:=uniq hP hy hu (e2.symm.trans h2)
   omega
theorem pS{u:Un}(h:gX u=true):0<=u.back/\u.back < u.front/\u.front<=8:=by
 simp only[gX,Bool.and_eq_true,decide_eq_true_eq]at h
 omega
theorem nC(hP:cS us)(hu:u∈us)(hv:v∈us)(hc:cts.Perm (cf us)):cj (me us cts u v.id) (u.shape.length+2)<=1:=by
 rw[rT hP hu hv hc]
 have h1:cts.countP (fA u.id v.id)<=1:=by rw[hc.countP_eq];exact Ht hP hu _
 have h2:=Bp hP hu hv hc
 have h3:=pS (hP.val u hu)
 have h4:=pS (hP.val v hv)
 by_cases h0:0 < cts.countP (fA u.id v.id)
 ·have:=h2 h0
  rw[if_neg,if_neg]
  ·omega
  ·intro q;rw[Bool.and_eq_true,decide_eq_true_eq]at q;omega
  ·intro q;rw[Bool.and_eq_true,decide_eq_true_eq]at q;omega
 ·by_cases ha:(decide (v.back=u.front) && cH u.shape v.shape)=true
  ·have:¬((decide (v.front=u.back) && cH u.shape v.shape)=true):=by
    intro q
    rw[Bool.and_eq_true,decide_eq_true_eq]at q ha
    omega
   rw[if_pos ha,if_neg this]
   omega
  ·rw[if_neg ha]
   split <;>omega
theorem vO(hP:cS us)(hu:u∈us)(hv:v∈us)(hc:cts.Perm (cf us)):cj (me us cts u v.id) (u.shape.length+2)=cj (me us cts v u.id) (v.shape.length+2):=by
 rw[rT hP hu hv hc,rT hP hv hu hc]
 have e1:cts.countP (fA u.id v.id)=cts.countP (fA v.id u.id):=List.countP_congr fun c _=>by rw[Ej]
 have e2:(decide (v.back=u.front) && cH u.shape v.shape)=(decide (u.front=v.back) && cH v.shape u.shape):=by rw[nN];congr 1;rw[decide_eq_decide];exact eq_comm
 have e3:(decide (v.front=u.back) && cH u.shape v.shape)=(decide (u.back=v.front) && cH v.shape u.shape):=by rw[nN];congr 1;rw[decide_eq_decide];exact eq_comm
 rw[e1,e2,e3]
 omega
theorem KE(hP:cS us)(hu:u∈us)(hv:v∈us)(hc:cts.Perm (cf us)):iE (me us cts u v.id) (u.shape.length+2)=iE (me us cts v u.id) (v.shape.length+2):=by
 rw[wo (nC hP hu hv hc),wo (nC hP hv hu hc),vO hP hu hv hc]
theorem LC(hP:cS us)(hu:u∈us)(hv:v∈us)(hc:cts.Perm (cf us)):cts.countP (fA u.id v.id)<=cj (me us cts u v.id) (u.shape.length+2):=by
 rw[rT hP hu hv hc];omega
end
end Go.Proofs.YtmdfgncoekfgdaaGreatDoor
namespace Go.Proofs.YtmdfgncoekfgdaaGreatDoor
open Go Go.D
variable {X:aF} {m:M}
abbrev Ct.c'(x:Ct):List Value:=[.int .i64 x.a,.int .i64 x.b,.int .i64 x.p.x,.int .i64 x.p.y,.int .i64 x.q.x,.int .i64 x.q.y,.int .i64 x.back,.int .i64 x.front]
abbrev Ct.v(x:Ct):Value:=.agg (x.c').toArray
abbrev Ct.zc:List Value:=[.int .i64 0,.int .i64 0,.int .i64 0,.int .i64 0,.int .i64 0,.int .i64 0,.int .i64 0,.int .i64 0]
instance:aY Ct where
 ty:=115
 sz:=8
 agg:=true
 jN:=[]
 rep _ x cs:=cs=x.c'
 pos:=by decide
 one:=by intro h;cases h
 len:=by rintro _ _ _ rfl;rfl
 lO:=by rintro _ _ _ rfl;rfl
 bw:=by rintro _ _ _ _ rfl _;rfl
theorem Av:uJ TE 110 115 Ct:=⟨af.t110,af.t115,by kernel_rfl,⟨_,rfl⟩,rfl,by kernel_rfl,rfl,rfl⟩
theorem JO:BH TE 110 Ct:=⟨af.t110,af.t115,by kernel_rfl,rfl,rfl,by kernel_rfl,by decide,rfl⟩
structure Mk where
 id:Int
 un:Int
 side:Int
 kind:Int
 Z3:Bool
deriving DecidableEq
abbrev Mk.c(x:Mk):List Value:=[.int .i64 x.id,.int .i64 x.un,.int .i64 x.side,.int .i64 x.kind,.bool x.Z3]
abbrev Mk.v(x:Mk):Value:=.agg (x.c).toArray
instance:aY Mk where
 ty:=89
 sz:=5
 agg:=true
 jN:=[]
 rep _ x cs:=cs=x.c
 pos:=by decide
 one:=by intro h;cases h
 len:=by rintro _ _ _ rfl;rfl
 lO:=by rintro _ _ _ rfl;rfl
 bw:=by rintro _ _ _ _ rfl _;rfl
theorem kN:uJ TE 58 89 Mk:=⟨af.t58,af.t89,by kernel_rfl,⟨_,rfl⟩,rfl,by kernel_rfl,rfl,rfl⟩
theorem ON:BH TE 58 Mk:=⟨af.t58,af.t89,by kernel_rfl,rfl,rfl,by kernel_rfl,by decide,rfl⟩
structure Lf where
 side:Int
 size:Int
 depth:Int
 ts:List Int
 ms:List Int
structure LW where
 l:Lf
 tv:Value
 mv:Value
abbrev LW.c(x:LW):List Value:=[.int .i64 x.l.side,.int .i64 x.l.size,.int .i64 x.l.depth,x.tv,x.mv]
abbrev LW.v(x:LW):Value:=.agg (x.c).toArray
theorem LW.eE{x:LW}(h1:one x.tv=true)(h2:one x.mv=true):(x.c).all one=true:=by show(true && (true && (true && (one x.tv && (one x.mv && true)))))=true;rw[h1,h2];rfl
instance:aY LW where
 ty:=105
 sz:=5
 agg:=true
 jN:=[]
 rep _ x cs:=cs=x.c/\one x.tv=true/\one x.mv=true
 pos:=by decide
 one:=by intro h;cases h
 len:=by rintro _ _ _ ⟨rfl,_⟩;rfl
 lO:=by rintro _ x _ ⟨rfl,h1,h2⟩;exact LW.eE h1 h2
 bw:=by rintro _ _ _ _ h _;exact h
theorem pY:uJ TE 72 105 LW:=⟨af.t72,af.t105,by kernel_rfl,⟨_,rfl⟩,rfl,by kernel_rfl,rfl,rfl⟩
theorem OO:BH TE 72 LW:=⟨af.t72,af.t105,by kernel_rfl,rfl,rfl,by kernel_rfl,by decide,rfl⟩
structure De(m:M)(l:List LW)(v:Value):Prop where
 sl:Sl m l v
 ts:∀x∈l,Sl m x.l.ts x.tv
 ms:∀x∈l,Sl m x.l.ms x.mv
theorem De.aD{l:List LW}{v:Value}{m':M}(h:De m l v)(hx:Ext m m'):De m' l v:=⟨h.sl.aD hx,fun x hx'=>(h.ts x hx').aD hx,fun x hx'=>(h.ms x hx').aD hx⟩
end Go.Proofs.YtmdfgncoekfgdaaGreatDoor
namespace Go.D
open Go
section
variable {P:Program} {σ:Sg} {m:M} {w w':World}
theorem Ev.M7(h:dB P σ m w){g:Nat}{gr:Option (Nat×Nat×Nat)}{ob:Ob}(hk:∀B,B < w.heap.size->w'.heap[B]?=w.heap[B]?)(hle:w.heap.size<=w'.heap.size)(hg:w.heap.size<=g)(hg':g < w'.heap.size)
  (hh:Holds (σ.add m.n ⟨g,gr⟩) ⟨g,gr⟩ w' ob) (ho:w'.os=w.os) (ht:w'.tape=w.tape) (hu:w'.output=w.output):Ev P σ m w (σ.add m.n ⟨g,gr⟩) (m.push ob) w':=by
 have hn:=h.jh
 have hl:=Sg.qo (i:=⟨g,gr⟩) hn
 have hcase:∀b i,(σ.add m.n ⟨g,gr⟩) b=some i->(b=m.n/\i=⟨g,gr⟩)\/(b≠m.n/\σ b=some i):=by
  intro b i hb
  unfold Sg.add at hb
  by_cases hbn:b=m.n
  ·rw[if_pos hbn]at hb;exact .inl ⟨hbn,by injection hb with hb;exact hb.symm⟩
  ·rw[if_neg hbn]at hb;exact .inr ⟨hbn,hb⟩
 have hpn:(m.push ob).n=m.n+1:=rfl
 refine⟨hl,⟨?_,?_,?_,?_,fun g hg=>hl g _ (h.iG g hg)⟩,Nat.le_refl _,by omega,hle,?_,?_,fun B hB _=>hk B hB,ho,ht,hu⟩
 ·intro b i hb
  rcases hcase b i hb with⟨rfl,_⟩ |⟨_,hb⟩
  ·omega
  ·have:=h.mV b i hb;omega
 ·intro b i hb
  rw[M.eC]
  rcases hcase b i hb with⟨rfl,rfl⟩ |⟨hne,hb⟩
  ·rw[if_pos rfl];exact hh
  ·rw[if_neg hne];exact(h.obj b i hb).bw hl (hk _ (h.lt b i hb))
 ·intro b i hb
  rcases hcase b i hb with⟨_,rfl⟩ |⟨_,hb⟩
  ·exact hg'
  ·have:=h.lt b i hb;omega
 ·intro b b' i i' hb hb' hd hd' he
  rw[M.eC]at hd hd'
  rcases hcase b i hb with⟨rfl,rfl⟩ |⟨hne,hb⟩ <;>rcases hcase b' i' hb' with⟨rfl,rfl⟩ |⟨hne',hb'⟩
  ·rfl
  ·have:=h.lt b' i' hb';dsimp only at he;omega
  ·have:=h.lt b i hb;dsimp only at he;omega
  ·rw[if_neg hne]at hd;rw[if_neg hne']at hd';exact h.inj b b' i i' hb hb' hd hd' he
 ·intro b i hb hs
  rcases hcase b i hb with⟨rfl,rfl⟩ |⟨_,hb⟩
  ·exact⟨Nat.le_refl _,.inl hg⟩
  ·rw[hs]at hb;cases hb
 ·intro b _ hb
  rw[M.eC,if_neg (by omega)]
theorem Ev.kept(h:dB P σ m w)(hk:∀B,B < w.heap.size->w'.heap[B]?=w.heap[B]?)(hle:w.heap.size<=w'.heap.size)(ho:w'.os=w.os)(ht:w'.tape=w.tape)(hu:w'.output=w.output):Ev P σ m w σ m w':=
 ⟨fun _ _ x=>x,⟨h.mV,fun b i hb=>(h.obj b i hb).bw (fun _ _ x=>x) (hk _ (h.lt b i hb)),fun b i hb=>Nat.lt_of_lt_of_le (h.lt b i hb) hle,h.inj,h.iG⟩,Nat.le_refl _,Nat.le_refl _,hle,fun b i x y=>(by rw[x]at y;cases y),fun _ _ _=>rfl,fun B hB _=>hk B hB,ho,ht,hu⟩
def ins(x:Int):List Int->List Int
 |[]=> [x]
 |y::l=>bif x<=y then x::y::l else y::ins x l
def kx:List Int->List Int
 |[]=> []
 |x::l=>ins x (kx l)
theorem tz(x:Int):∀l:List Int,(ins x l).Perm (x::l)
 |[]=> .refl _
 |y::l=>by
  unfold ins
  by_cases h:x<=y
  ·simp[h]
  ·simp only[h,decide_false,cond_false]
   exact((tz x l).cons y).trans (List.Perm.swap x y l)
theorem fN:∀l:List Int,(kx l).Perm l
 |[]=> .refl _
 |x::l=>(tz x _).trans ((fN l).cons x)
theorem tx(x:Int):∀{l:List Int},l.Pairwise (fun a b=>a<=b)->(ins x l).Pairwise (fun a b=>a<=b)
 |[],_=>by simp[ins]
 |y::l,h=>by
  unfold ins
  rw[List.pairwise_cons]at h
  by_cases hxy:x<=y
  ·simp only[hxy,decide_true,cond_true,List.pairwise_cons]
   refine⟨fun z hz=>?_,h⟩
   rcases List.mem_cons.1 hz with rfl |hz
   ·exact hxy
   ·exact Int.le_trans hxy (h.1 z hz)
  ·simp only[hxy,decide_false,cond_false,List.pairwise_cons]
   refine⟨fun z hz=>?_,tx x h.2⟩
   rcases List.mem_cons.1 ((tz x l).mem_iff.1 hz)with rfl |hz
   ·omega
   ·exact h.1 z hz
theorem pA:∀l:List Int,(kx l).Pairwise (fun a b=>a<=b)
 |[]=> .nil
 |x::l=>tx x (pA l)
theorem rm{l l':List Int}(h:l'.Perm l):l'.mergeSort (fun x y=>decide (x<=y))=kx l:=by
 have tr:∀a b c:Int,decide (a<=b)=true->decide (b<=c)=true->decide (a<=c)=true:=fun a b c h1 h2=>by simp only[decide_eq_true_eq]at*;exact Int.le_trans h1 h2
 have to:∀a b:Int,(decide (a<=b) ||decide (b<=a))=true:=fun a b=>by simp only[Bool.or_eq_true,decide_eq_true_eq];exact Int.le_total a b
 refine List.Perm.eq_of_pairwise (le:=fun a b:Int=>a<=b) (fun a b _ _ h1 h2=>Int.le_antisymm h1 h2) ?_ (pA l) (((List.mergeSort_perm l' _).trans h).trans (fN l).symm)
 have:=List.pairwise_mergeSort tr to l'
 exact this.imp (fun h=>by simpa using h)
end
end Go.D
namespace Go.D
open Go
section
variable {P:Program} {σ:Sg} {m m':M} {w w':World}
theorem aT.MV{c c':List Value}{new:List Value}{off:Nat}(h:aT σ c c')(hn:aT σ new new)(hl:off+new.length<=c.length):
  aT σ (c.take off++(new++c.drop (off+new.length))) (c'.take off++(new++c'.drop (off+new.length))):=
 (h.take off).append (hn.append (h.drop _))
theorem Eb{a:Addr}{i:BI}{cs:List Value}{e:TypeId}{g:Option Nat}{F:List Value}(hs:dB P σ m w)(hi:σ a.block=some i)(hg:m.get a.block=.cells cs e g)(hF:(cs.drop a.off).take F.length=F)(hfl:F.all bL=true)(hle:a.off+F.length<=cs.length):
  Sort.Holds id w i.bX a.off F.toArray:=by
 obtain⟨row,hr1,hr2,hr3,hr4⟩:=hs.cells hi hg
 intro j hj
 have hj:j < F.length:=by simpa using hj
 have e1:cs[a.off+j]?=some F[j]:=by
  have:=congrArg (fun l=>l[j]?) hF
  simp only[List.getElem?_take,List.getElem?_drop]at this
  rw[if_pos hj]at this
  rw[this,List.getElem?_eq_getElem hj]
 obtain⟨u,hu1,hu2⟩:=hr3.get e1
 rw[List.getElem?_take_of_lt (by omega)]at hu1
 have hf:=hu2.aK (List.all_eq_true.1 hfl _ (List.getElem_mem hj))
 subst hf
 refine⟨?_,by simp[World.frozen?,hr1]⟩
 simp only[World.cell?,hr1]
 have:row[a.off+j]?=some F[j]:=by simpa using hu1
 simp only[Option.isSome_none,Bool.false_eq_true,if_false,this]
 rw[getElem!_pos _ j (by simpa using hj)]
 rfl
theorem Kw{a:Addr}{i:BI}{cs:List Value}{e:TypeId}{g:Option Nat}{F:List Value}(hs:dB P σ m w)(hi:σ a.block=some i)(hg:m.get a.block=.cells cs e g)(hfl:F.all bL=true)(hle:a.off+F.length<=cs.length)(k:Nat)(os:Array Obj):
  Ev P σ m w σ (m.set a.block (.cells (cs.take a.off++(F++cs.drop (a.off+F.length))) e g)) (Sort.grow (Sort.putRow id (Sort.ahead w k) i.bX a.off F.toArray) os):=by
 obtain⟨row,hr1,hr2,hr3,hr4⟩:=hs.cells hi hg
 have hput:∀B,(Sort.putRow id (Sort.ahead w k) i.bX a.off F.toArray).heap[B]?=if B=i.bX then some (.cells (Sort.putCells id a.off F.toArray row) e (0,0))else w.heap[B]?:=by
  intro B
  simp only[Sort.putRow,Sort.mapBlock,Array.getElem?_modify,Sort.ahead]
  by_cases hB:i.bX=B
  ·subst hB;simp only[if_true,hr1,Option.map_some,Sort.onCells]
  ·rw[if_neg hB,if_neg (fun q=>hB q.symm)]
 have hrow:(Sort.putCells id a.off F.toArray row).toList=row.toList.take a.off++(F++row.toList.drop (a.off+F.length)):=by
  apply List.ext_getElem?
  intro j
  simp only[Sort.putCells,Array.getElem?_toList,Array.getElem?_mapIdx,List.size_toArray]
  by_cases h1:j < a.off
  ·rw[List.getElem?_append_left (by simp;omega),List.getElem?_take_of_lt h1]
   have:¬(a.off<=j/\j < a.off+F.length):=by omega
   simp only[this,if_false]
   simp
  ·by_cases h2:j < a.off+F.length
   ·rw[List.getElem?_append_right (by simp;omega),List.getElem?_append_left (by simp;omega)]
    have hj:j < row.size:=by omega
    have hmin:min a.off row.toList.length=a.off:=by simp;omega
    simp only[List.length_take,hmin]
    have:a.off<=j/\j < a.off+F.length:=by omega
    rw[Array.getElem?_eq_getElem hj]
    simp only[Option.map_some,this,and_self,if_true]
    rw[List.getElem?_eq_getElem (by omega)]
    rw[getElem!_pos _ (j-a.off) (by simp;omega)]
    rfl
   ·rw[List.getElem?_append_right (by simp;omega),List.getElem?_append_right (by simp;omega)]
    have:¬(a.off<=j/\j < a.off+F.length):=by omega
    simp only[this,if_false,List.getElem?_drop,List.length_take]
    have:a.off+F.length+(j-min a.off row.toList.length-F.length)=j:=by simp;omega
    rw[this]
    simp
 have hEv:Ev P σ m w σ (m.set a.block (.cells (cs.take a.off++(F++cs.drop (a.off+F.length))) e g)) (Sort.putRow id (Sort.ahead w k) i.bX a.off F.toArray):=by
  refine Ev.write hs hi (by rw[hg];exact fun q=>by cases q) ?_ (fun B hB=>by rw[hput,if_neg hB]) (by simp[Sort.ahead]) rfl rfl rfl
  have hnewlen:(cs.take a.off++(F++cs.drop (a.off+F.length))).length=cs.length:=by
   simp only[List.length_append,List.length_take,List.length_drop];omega
  have hsz:(Sort.putCells id a.off F.toArray row).size=row.size:=by simp[Sort.putCells]
  refine⟨_,(by rw[hput,if_pos rfl]),by rw[hnewlen,hsz];exact hr2,?_,by rw[hnewlen,hsz];exact hr4⟩
  rw[hnewlen,hrow]
  have hsp:=aT.MV (σ:=σ) (off:=a.off) (new:=F) hr3 (aT.of_flat hfl) hle
  have hr2':cs.length<=row.toList.length:=by simpa using hr2
  have hA:(row.toList.take a.off).length=a.off:=by rw[List.length_take];omega
  have e2:(row.toList.take cs.length).take a.off++(F++(row.toList.take cs.length).drop (a.off+F.length))=(row.toList.take a.off++(F++row.toList.drop (a.off+F.length))).take cs.length:=by
   rw[List.take_append,List.take_append,hA]
   congr 1
   ·rw[List.take_take,List.take_take];congr 1;omega
   ·congr 1
    ·rw[List.take_of_length_le (by omega)]
    ·rw[List.drop_take]
     congr 1
     omega
  rw[<-e2]
  exact hsp
 exact hEv.trans (Ev.kept hEv.nG (fun B hB=>by simp only[Sort.grow];rw[Array.getElem?_append_left hB]) (by simp[Sort.grow]) rfl rfl rfl)
theorem LK.DX{b:Nat}{cs:List Value}{e:TypeId}{g:Option Nat}{o:Ob}(h:m.get b=.cells cs e g):LK m (m.set b o):=fun c r hc=>by
 have hb:b < m.n:=M.jB (by rw[h];simp)
 have hne:c≠b:=fun q=>by subst q;rw[h]at hc;cases hc
 exact⟨r,by rw[M.bH _ _ _ _ hb,if_neg hne];exact hc⟩
variable {α:Type}
def Fj(dec:List Value->Option α)(k:Nat):Nat->List Value->Option (List α)
 |0,_=>some []
 |n+1,cs=>match dec (cs.take k)with
  |some x=>match Fj dec k n (cs.drop k)with |some l=>some (x::l) |none=>none
  |none=>none
theorem vt{dec:List Value->Option α}{enc:α->List Value}{k:Nat}(hd:∀cs x,dec cs=some x->cs=enc x):∀(n:Nat) (cs:List Value) (l:List α),Fj dec k n cs=some l->l.length=n/\cs.take (n*k)=l.flatMap enc
 |0,cs,l,h=>by cases h;simp
 |n+1,cs,l,h=>by
  unfold Fj at h
  split at h
  ·rename_i x hx
   split at h
   ·rename_i l' hl
    cases h
    obtain⟨h1,h2⟩:=vt hd n _ _ hl
    refine⟨by simp[h1],?_⟩
    rw[List.flatMap_cons,<-hd _ _ hx,<-h2,Nat.add_mul,Nat.one_mul,Nat.add_comm,List.take_add]
   ·cases h
  ·cases h
theorem zP{dec:List Value->Option α}{enc:α->List Value}{k:Nat}(hd:∀x,dec (enc x)=some x)(hk:∀x,(enc x).length=k):∀(l:List α),Fj dec k l.length (l.flatMap enc)=some l
 |[]=>rfl
 |x::l=>by
  simp only[List.length_cons,Fj,List.flatMap_cons]
  rw[List.take_append_of_le_length (by rw[hk];exact Nat.le_refl _),List.take_of_length_le (by rw[hk];exact Nat.le_refl _),hd]
  rw[List.drop_append_of_le_length (by rw[hk];exact Nat.le_refl _),List.drop_of_length_le (by rw[hk];exact Nat.le_refl _),List.nil_append,zP hd hk l]
structure JQ(α:Type) where
 S:Nat
 k:Nat
 dec:List Value->Option α
 enc:α->List Value
 res:List α->List α
 ok:List Value->Bool
noncomputable def kL(N:JQ α):aF:=fun fn args m=>
 match fn with
 |.func f=>
  bif Nat.beq f N.S then
   match args with
   |.slice (some a) n _::more=>
    match m.get a.block with
    |.cells cs e g=>
     bif N.ok more && (a.spot.isNone && Nat.ble 1 (n*N.k) && Nat.ble (a.off+n*N.k) cs.length && Nat.ble n 1048576)then
      match Fj N.dec N.k n ((cs.drop a.off).take (n*N.k))with
      |some l=>some (.tuple #[],m.set a.block (.cells (cs.take a.off++((N.res l).flatMap N.enc++cs.drop (a.off+n*N.k))) e g))
      |none=>none
     else none
    |_=>none
   |.slice none 0 0::more=>bif N.ok more then some (.tuple #[],m)else none
   |_=>none
  else none
 |_=>none
structure Db(P:Program)(N:JQ α):Prop where
 Jg:∀args w,(callFunc N.S args).run P w=.ok (.enter N.S args) w
 dec:∀cs x,N.dec cs=some x->cs=N.enc x
 flat:∀x,(N.enc x).all bL=true
 len:∀x,(N.enc x).length=N.k
 res:∀l,(N.res l).length=l.length
 more:∀more,N.ok more=true->more.all bL=true
 go:∀(more:List Value) (bX off cap:Nat) (l:List α) (w:World),N.ok more=true->Sort.Holds id w bX off (l.flatMap N.enc).toArray->bX < w.heap.size->l.length<=1048576->
  Calls P N.S (.slice (some ⟨bX,off,none⟩) l.length cap::more).toArray w fun e w'=>e=.returned (.tuple #[])/\∃n os,w'=Sort.grow (Sort.putRow id (Sort.ahead w n) bX off ((N.res l).flatMap N.enc).toArray) os
 none:∀(more:List Value) (w:World),N.ok more=true->Calls P N.S (.slice none 0 0::more).toArray w fun e w'=>e=.returned (.tuple #[])/\w'=w
theorem aT.CN{l l':List Value}(h:aT σ l l')(hf:l.all bL=true):l'=l:=by
 apply List.ext_getElem?
 intro j
 cases hj:l[j]? with
 |none=>exact List.getElem?_eq_none (by rw[<-h.1];exact List.getElem?_eq_none_iff.1 hj)
 |some u=>
  obtain⟨u',hu,hr⟩:=h.get hj
  rw[hu,hr.aK (List.all_eq_true.1 hf u (List.mem_of_getElem? hj))]
theorem fQ{enc:α->List Value}{k:Nat}(h:∀x,(enc x).length=k):∀l:List α,(l.flatMap enc).length=l.length*k
 |[]=>by simp
 |x::l=>by rw[List.flatMap_cons,List.length_append,h,fQ h l,List.length_cons,Nat.add_mul,Nat.one_mul,Nat.add_comm]
theorem pD{enc:α->List Value}(h:∀x,(enc x).all bL=true)(l:List α):(l.flatMap enc).all bL=true:=by
 rw[List.all_eq_true]
 intro v hv
 obtain⟨x,_,hx⟩:=List.mem_flatMap.1 hv
 exact List.all_eq_true.1 (h x) v hx
theorem DS(N:JQ α):gW (kL N):=fun fn args m v m' h=>by
 unfold kL at h
 split at h
 ·rename_i f
  cases hf:Nat.beq f N.S with
  |false=>rw[hf]at h;cases h
  |true=>
   rw[hf,cond_true]at h
   split at h
   ·rename_i a n c more
    split at h
    ·rename_i cs e g hg
     cases hc:(N.ok more && (a.spot.isNone && Nat.ble 1 (n*N.k) && Nat.ble (a.off+n*N.k) cs.length && Nat.ble n 1048576))with
     |false=>rw[hc]at h;cases h
     |true=>
      rw[hc,cond_true]at h
      split at h
      ·cases h
       exact LK.DX hg
      ·cases h
    ·cases h
   ·rename_i more
    cases hc:N.ok more with
    |false=>rw[hc]at h;cases h
    |true=>rw[hc,cond_true]at h;cases h;exact LK.refl
   ·cases h
 ·cases h
theorem vQ{N:JQ α}(h:Db P N)(hS:Nat.beq uk N.S=false):cB P (kL N):=by
 refine⟨fun f args m v m' hx σ w args' hs hl=>?_,fun l args m v m' hx=>by simp[kL]at hx,DS N,fun a m v m' b hx=>by
  unfold kL at hx
  dsimp only at hx
  rw[show Nat.beq uk N.S=false from hS]at hx
  cases hx⟩
 unfold kL at hx
 dsimp only at hx
 cases hf:Nat.beq f N.S with
 |false=>rw[hf]at hx;cases hx
 |true=>
  obtain rfl:=Nat.eq_of_beq_eq_true hf
  rw[hf,cond_true]at hx
  refine⟨?_,h.Jg args' w⟩
  refine callsIn_wide.2 ?_
  split at hx
  ·rename_i a n cap more
   split at hx
   ·rename_i cs e g hg
    cases hc:(N.ok more && (a.spot.isNone && Nat.ble 1 (n*N.k) && Nat.ble (a.off+n*N.k) cs.length && Nat.ble n 1048576))with
    |false=>rw[hc]at hx;cases hx
    |true=>
     rw[hc,cond_true]at hx
     simp only[Bool.and_eq_true]at hc
     obtain⟨hok,⟨⟨c1,c2⟩,c3⟩,c4⟩:=hc
     have c2:=Nat.le_of_ble_eq_true c2
     have c3:=Nat.le_of_ble_eq_true c3
     have c4:=Nat.le_of_ble_eq_true c4
     split at hx
     ·rename_i l hz
      cases hx
      obtain⟨hlen,htk⟩:=vt (enc:=N.enc) h.dec _ _ _ hz
      rw[List.take_take,Nat.min_self]at htk
      have hfl:=fQ h.len l
      obtain⟨x',l1,hargs,hv,hl1⟩:=hl.cases
      have hmore:=hl1.CN (h.more more hok)
      subst hmore
      obtain⟨i,a',c',hi,rfl,hcase⟩:=hv.cW
      have hn0:n≠0:=by
       intro q;subst q;omega
      have ha':a'=⟨i.bX,a.off,none⟩:=by
       rcases hcase with⟨_,h2,_⟩ |⟨h2,_⟩
       ·exact h2
       ·omega
      subst ha'
      have eargs:args'=(Value.slice (some ⟨i.bX,a.off,none⟩) l.length c'::l1).toArray:=by
       apply Array.ext';rw[hargs,hlen]
      subst eargs
      have hF:(cs.drop a.off).take (l.flatMap N.enc).length=l.flatMap N.enc:=by rw[hfl,hlen];exact htk
      have hH:=Eb hs hi hg hF (pD h.flat l) (by rw[hfl,hlen];exact c3)
      refine(h.go l1 i.bX a.off c' l w hok hH (hs.lt _ _ hi) (by omega)).mono ?_
      rintro en w2 ⟨rfl,k,os,rfl⟩
      have hrl:((N.res l).flatMap N.enc).length=n*N.k:=by rw[fQ h.len,h.res,hlen]
      have hev:=Kw (F:=(N.res l).flatMap N.enc) hs hi hg (pD h.flat _) (by rw[hrl];exact c3) k os
      rw[hrl]at hev
      exact⟨_,σ,rfl,.undef,hev⟩
     ·cases hx
   ·cases hx
  ·rename_i more
   cases hc:N.ok more with
   |false=>rw[hc]at hx;cases hx
   |true=>
    rw[hc,cond_true]at hx
    cases hx
    obtain⟨x',l1,hargs,hv,hl1⟩:=hl.cases
    have hmore:=hl1.CN (h.more more hc)
    subst hmore
    obtain⟨_,_,rfl⟩:=hv.dH
    have eargs:args'=(Value.slice none 0 0::l1).toArray:=by apply Array.ext';rw[hargs]
    subst eargs
    refine(h.none l1 w hc).mono ?_
    rintro en w2 ⟨rfl,rfl⟩
    exact⟨_,σ,rfl,.undef,.refl hs⟩
  ·cases hx
end
end Go.D
namespace Go.Proofs.YtmdfgncoekfgdaaGreatDoor
open Go Go.D
variable {X:aF} {m:M}
def MZ(l:List Int):Int:=match l.find? (fun x=> !(decide (x=0)))with |some x=>x |none=>0
theorem yU{l:List Int}(h:∀(j:Nat) x,l[j]?=some x->x=0):MZ l=0:=by
 unfold MZ
 have:l.find? (fun x=> !(decide (x=0)))=none:=List.find?_eq_none.2 fun x hx=>by
  obtain⟨j,hj⟩:=List.mem_iff_getElem?.1 hx
  rw[h j x hj];decide
 rw[this]
theorem oT:∀{l:List Int} {i:Nat} {x:Int},l[i]?=some x->x≠0->(∀(j:Nat) y,j < i->l[j]?=some y->y=0)->MZ l=x
 |[],i,x,h,_,_=>by simp at h
 |a::l,0,x,h,hx,_=>by
  cases h
  unfold MZ
  rw[List.find?_cons_of_pos (by simpa using hx)]
 |a::l,i+1,x,h,hx,hz=>by
  have ha:=hz 0 a (by omega) rfl
  subst ha
  have:=oT (l:=l) (i:=i) (x:=x) (by simpa using h) hx fun j y hj hy=>hz (j+1) y (by omega) (by simpa using hy)
  unfold MZ at this⊢
  rw[List.find?_cons_of_neg (by simp)]
  exact this
theorem PR(hX:dF X){l:List Int}{v:Value}(hl:Sl m l v)(hb:l.length < 1000000):C X (.func 185) [v] m m.n (.int .i64 (MZ l)) m:=by
 refine Cl.flat (hX.no _ rfl) NJ rfl rfl ?_
 rw[SR];dsimp only[aN]
 rw[hl.len iS,au]
 refine Lp.intro (γ:=Nat) (fun i=>l.length-i) (fun i vs mm lo=>vs=[.int .i64 0,.int .i64 i]/\mm=m/\lo=m.n/\i<=l.length/\∀(j:Nat) y,j < i->l[j]?=some y->y=0) 0 ⟨rfl,rfl,rfl,Nat.zero_le _,fun j y hj=>by omega⟩ ?_
 rintro i vs mm lo ⟨rfl,rfl,rfl,hi,hz⟩
 rw[aA,aA,aM,aa,aj]
 refine ak (fun h=>?_) (fun h=>?_)
 ·have h:i < l.length:=by simpa using h
  obtain⟨x,hx⟩:∃x,l[i]?=some x:=⟨_,List.getElem?_eq_getElem h⟩
  obtain⟨p,cs,e1,e2,e3⟩:=hl.index iS (k:=.i64) hx
  obtain rfl:cs=[.int .i64 x]:=e3
  rw[e1,aa,e2,aa]
  show ah (an TE .neq 3 (.int .i64 x) (.int .i64 0)) _
  rw[cE,aa,aj]
  refine ak (fun hb=>?_) (fun hb=>?_)
  ·have hx0:x≠0:=by simpa using hb
   refine⟨?_,Nat.le_refl _⟩
   rw[oT hx hx0 hz];rfl
  ·have hx0:x=0:=by simpa using hb
   rw[aG,aa,wrap64 (by omega) (by omega)]
   refine⟨i+1,by omega,rfl,rfl,rfl,by omega,fun j y hj hy=>?_⟩
   by_cases e:j=i
   ·subst e;rw[hx]at hy;cases hy;exact hx0
   ·exact hz j y (by omega) hy
 ·have hi':i=l.length:=by
   have:¬(i:Int)< (l.length:Int):=by simpa using h
   omega
  refine⟨?_,Nat.le_refl _⟩
  rw[yU fun j y hy=>hz j y (by have:=(List.getElem?_eq_some_iff.1 hy).1;omega) hy]
  rfl
theorem Mh{x y:Int}:aE TE m 25 2 [(0,.int .i64 x),(1,.int .i64 y)]=some (.slice (some ⟨m.n,0,none⟩) 2 2,m.push (.cells [.int .i64 x,.int .i64 y] 3 none)):=by kernel_rfl
theorem yC{x y:Int}{b:Nat}{g:Option Nat}(h:m.get b=.cells [.int .i64 x,.int .i64 y] 3 g):Sl m [x,y] (.slice (some ⟨b,0,none⟩) 2 2):=
 .inr ⟨b,0,2,_,g,rfl,h,Nat.le_refl _,fun i z hi=>by
  match i with
  |0=>cases hi;rfl
  |1=>cases hi;rfl
  |i+2=>simp at hi⟩
theorem KD(p q:Pl):MZ [iz p.x q.x,iz p.y q.y]=oS p q:=by
 unfold oS
 by_cases h:iz p.x q.x=0
 ·rw[if_pos h]
  by_cases h2:iz p.y q.y=0
  ·rw[yU (by
    intro j x hj
    match j with
    |0=>cases hj;exact h
    |1=>cases hj;exact h2
    |j+2=>simp at hj),h2]
  ·exact oT (i:=1) rfl h2 (by
    intro j y hj hy
    match j with
    |0=>cases hy;exact h
    |j+1=>omega)
 ·rw[if_neg h]
  exact oT (i:=0) rfl h fun j y hj=>by omega
theorem CC{b:Nat}{p:Pl}{e:TypeId}{g:Option Nat}(h:m.get b=.cells p.c e g):ag TE m 3 (.pointer (some ⟨b,0+0,none⟩))=some (.int .i64 p.x):=by
 rw[bA,az h];rfl
theorem CB{b:Nat}{p:Pl}{e:TypeId}{g:Option Nat}(h:m.get b=.cells p.c e g):ag TE m 3 (.pointer (some ⟨b,0+1,none⟩))=some (.int .i64 p.y):=by
 rw[bA,az h];rfl
theorem oR(hX:dF X)(p q:Pl):C X (.func 331) [p.v,q.v] m m.n (.int .i64 (oS p q)) m:=by
 refine Cl.flat (hX.no _ rfl) Nq rfl rfl ?_
 rw[SA];dsimp only[aN]
 refine ar fun m1 hn1 hg1 hk1=>?_
 refine ar fun m2 hn2 hg2 hk2=>?_
 have g1:m2.get m.n=.cells p.c 98 none:=by rw[hk2 _ (by omega)];exact hg1
 have g2:m2.get m1.n=.cells q.c 98 none:=hg2
 unfold ptrTo
 rw[bC,aa,CC g1,aa,bC,aa,CC g2,aa]
 refine aC (lx hX _ _) ⟨Nat.le_refl _,?_⟩
 rw[bJ,aa,CB g1,aa,bJ,aa,CB g2,aa]
 refine aC (lx hX _ _) ?_
 rw[Mh,au]
 have hg:(m2.push (.cells [.int .i64 (iz p.x q.x),.int .i64 (iz p.y q.y)] 3 none)).get m2.n=.cells [.int .i64 (iz p.x q.x),.int .i64 (iz p.y q.y)] 3 none:=M.aV
 have hn:(m2.push (.cells [.int .i64 (iz p.x q.x),.int .i64 (iz p.y q.y)] 3 none)).n=m2.n+1:=rfl
 refine aC (PR hX (yC hg) (by show(2:Nat)< 1000000;decide)) ?_
 refine⟨?_,by omega⟩
 rw[KD];rfl
end Go.Proofs.YtmdfgncoekfgdaaGreatDoor
namespace Go.Proofs.YtmdfgncoekfgdaaGreatDoor
open Go Go.D
variable {X:aF} {m:M}
theorem KG(hX:dF X){p q:Pl}{v:Value}(hl:Sl m [p,q] v):C X (.func 368) [v,.func (.func 331) #[] #[]] m m.n (wm p q).v m:=by
 refine Cl.flat (hX.no _ rfl) Np rfl rfl ?_
 rw[Sz];dsimp only[aN]
 refine ar fun m1 hn1 hg1 hk1=>?_
 have hl1:=hl.aD (m':=m1) ⟨by omega,hk1⟩
 rw[hl1.len cF,au,aM,aa,aj]
 show pB (decide (((2:Nat):Int)< 1)) _ _
 rw[show decide (((2:Nat):Int)< 1)=false from rfl,aU]
 obtain⟨a,e1,e2⟩:=hl1.dK (k:=.i64) (i:=0) rfl
 have e1:ai TE 45 v (.int .i64 0)=some a:=e1
 rw[e1,aa,e2,aa]
 refine ar fun m6 hn6 hg6 hk6=>?_
 unfold ptrTo
 refine av cG hg6 rfl rfl rfl fun m7 hn7 hg7 hk7=>?_
 have hg7:m7.get m1.n=.cells p.c 98 none:=hg7
 have old7:∀c,c < m1.n->m7.get c=m1.get c:=fun c hc=>by rw[hk7 c (by omega),hk6 c hc]
 refine Lp.intro (γ:=Nat) (fun i=>2-i) (fun i vs mm lo=>vs=[.int .i64 i]/\(i=1/\mm.get m1.n=.cells p.c 98 none\/i=2/\mm.get m1.n=.cells (wm p q).c 98 none)/\mm.n=m7.n/\(∀c,c < m1.n->mm.get c=m1.get c)/\m.n<=lo) 1 ⟨rfl,.inl ⟨rfl,hg7⟩,rfl,old7,by omega⟩ ?_
 rintro i vs mm lo ⟨rfl,hi,hnm,hk,hlo⟩
 have hlm:Sl mm [p,q] v:=hl1.bw fun b c t g hb _=>by rw[hk b (M.aI hb),hb]
 rw[aA,hlm.len cF,au,aM,aa,aj]
 rcases hi with⟨rfl,hc⟩ |⟨rfl,hc⟩
 ·show pB (decide (((1:Nat):Int)< ((2:Nat):Int))) _ _
  rw[show decide (((1:Nat):Int)< ((2:Nat):Int))=true from rfl,bZ]
  obtain⟨a,e1,e2⟩:=hlm.dK (k:=.i64) (i:=1) rfl
  rw[e1,aa,e2,aa,bz hc,aa,bO]
  refine aC (oR hX q p) ?_
  rw[cQ,aa,aj]
  refine ak (fun hb=>?_) (fun hb=>?_)
  ·have hb:=of_decide_eq_true hb
   rw[aa,e2,aa]
   refine av cG hc rfl rfl rfl fun m29 hn29 hg29 hk29=>?_
   refine⟨2,by omega,rfl,.inr ⟨rfl,?_⟩,by omega,fun c hc=>by rw[hk29 c (by omega),hk c hc],by omega⟩
   rw[hg29,show wm p q=q by unfold wm;rw[if_pos hb]];rfl
  ·have hb:=of_decide_eq_false hb
   refine⟨2,by omega,rfl,.inr ⟨rfl,?_⟩,hnm,hk,by omega⟩
   rw[hc,show wm p q=p by unfold wm;rw[if_neg hb]]
 ·show pB (decide (((2:Nat):Int)< ((2:Nat):Int))) _ _
  rw[show decide (((2:Nat):Int)< ((2:Nat):Int))=false from rfl,aU,bz hc,aa]
  have g0:mm.get m.n=.cells [.int .i64 0,.int .i64 0] 98 none:=by rw[hk _ (by omega),hg1]
  refine av cG g0 rfl rfl rfl fun m34 hn34 hg34 hk34=>?_
  have hg34:m34.get m.n=.cells (wm p q).c 98 none:=hg34
  rw[bz hg34,aa]
  exact⟨rfl,by omega⟩
theorem KF(hX:dF X){p q:Pl}{v:Value}(hl:Sl m [p,q] v):C X (.func 369) [v,.func (.func 331) #[] #[]] m m.n (wk p q).v m:=by
 refine Cl.flat (hX.no _ rfl) No rfl rfl ?_
 rw[Sy];dsimp only[aN]
 refine ar fun m1 hn1 hg1 hk1=>?_
 have hl1:=hl.aD (m':=m1) ⟨by omega,hk1⟩
 rw[hl1.len cF,au,aM,aa,aj]
 show pB (decide (((2:Nat):Int)< 1)) _ _
 rw[show decide (((2:Nat):Int)< 1)=false from rfl,aU]
 obtain⟨a,e1,e2⟩:=hl1.dK (k:=.i64) (i:=0) rfl
 have e1:ai TE 45 v (.int .i64 0)=some a:=e1
 rw[e1,aa,e2,aa]
 refine ar fun m6 hn6 hg6 hk6=>?_
 unfold ptrTo
 refine av cG hg6 rfl rfl rfl fun m7 hn7 hg7 hk7=>?_
 have hg7:m7.get m1.n=.cells p.c 98 none:=hg7
 have old7:∀c,c < m1.n->m7.get c=m1.get c:=fun c hc=>by rw[hk7 c (by omega),hk6 c hc]
 refine Lp.intro (γ:=Nat) (fun i=>2-i) (fun i vs mm lo=>vs=[.int .i64 i]/\(i=1/\mm.get m1.n=.cells p.c 98 none\/i=2/\mm.get m1.n=.cells (wk p q).c 98 none)/\mm.n=m7.n/\(∀c,c < m1.n->mm.get c=m1.get c)/\m.n<=lo) 1 ⟨rfl,.inl ⟨rfl,hg7⟩,rfl,old7,by omega⟩ ?_
 rintro i vs mm lo ⟨rfl,hi,hnm,hk,hlo⟩
 have hlm:Sl mm [p,q] v:=hl1.bw fun b c t g hb _=>by rw[hk b (M.aI hb),hb]
 rw[aA,hlm.len cF,au,aM,aa,aj]
 rcases hi with⟨rfl,hc⟩ |⟨rfl,hc⟩
 ·show pB (decide (((1:Nat):Int)< ((2:Nat):Int))) _ _
  rw[show decide (((1:Nat):Int)< ((2:Nat):Int))=true from rfl,bZ]
  obtain⟨a,e1,e2⟩:=hlm.dK (k:=.i64) (i:=1) rfl
  rw[e1,aa,e2,aa,bz hc,aa,bO]
  refine aC (oR hX q p) ?_
  rw[aM,aa,aj]
  refine ak (fun hb=>?_) (fun hb=>?_)
  ·have hb:=of_decide_eq_true hb
   rw[aa,e2,aa]
   refine av cG hc rfl rfl rfl fun m29 hn29 hg29 hk29=>?_
   refine⟨2,by omega,rfl,.inr ⟨rfl,?_⟩,by omega,fun c hc=>by rw[hk29 c (by omega),hk c hc],by omega⟩
   rw[hg29,show wk p q=q by unfold wk;rw[if_pos hb]];rfl
  ·have hb:=of_decide_eq_false hb
   refine⟨2,by omega,rfl,.inr ⟨rfl,?_⟩,hnm,hk,by omega⟩
   rw[hc,show wk p q=p by unfold wk;rw[if_neg hb]]
 ·show pB (decide (((2:Nat):Int)< ((2:Nat):Int))) _ _
  rw[show decide (((2:Nat):Int)< ((2:Nat):Int))=false from rfl,aU,bz hc,aa]
  have g0:mm.get m.n=.cells [.int .i64 0,.int .i64 0] 98 none:=by rw[hk _ (by omega),hg1]
  refine av cG g0 rfl rfl rfl fun m34 hn34 hg34 hk34=>?_
  have hg34:m34.get m.n=.cells (wk p q).c 98 none:=hg34
  rw[bz hg34,aa]
  exact⟨rfl,by omega⟩
structure xF(X:aF)(sc:List Ct->List Ct):Prop where
 perm:∀l,(sc l).Perm l
 pl:∀(m:M) (b:Nat) (p q:Pl),m.get b=.cells (p.c++q.c) 98 none->C X (.func 367) [.slice (some ⟨b,0,none⟩) 2 2,.func (.func 331) #[] #[]] m b (.tuple #[]) (m.set b (.cells ((eZ p q).c++(tA p q).c) 98 none))
 ct:∀(m:M) (n1:Nat) (l:List Ct) (v:Value),n1<=m.n->Ow n1 m l v->l.length<=1000->∃m' b,C X (.func 183) [v,.func (.func 184) #[] #[]] m b (.tuple #[]) m'/\Ow n1 m' (sc l) v/\n1<=b/\m'.n=m.n/\∀c,(∀a n k,v=.slice (some a) n k->c≠a.block)->m'.get c=m.get c
 int:∀(m:M) (n1:Nat) (l:List Int) (v:Value),n1<=m.n->Ow n1 m l v->l.length<=1000->∃m' b,C X (.func 103) [v] m b (.tuple #[]) m'/\Ow n1 m' (kx l) v/\n1<=b/\m'.n=m.n/\∀c,(∀a n k,v=.slice (some a) n k->c≠a.block)->m'.get c=m.get c
theorem KB{p q:Pl}:aE TE m 45 2 [(0,p.v),(1,q.v)]=some (.slice (some ⟨m.n,0,none⟩) 2 2,m.push (.cells (p.c++q.c) 98 none)):=by kernel_rfl
theorem rI{p q:Pl}{b:Nat}{g:Option Nat}(h:m.get b=.cells (p.c++q.c) 98 g):Sl m [p,q] (.slice (some ⟨b,0,none⟩) 2 2):=
 .inr ⟨b,0,2,_,g,rfl,h,Nat.le_refl _,fun i z hi=>by
  match i with
  |0=>cases hi;rfl
  |1=>cases hi;rfl
  |i+2=>simp at hi⟩
theorem Fp{sc:List Ct->List Ct}(hX:dF X)(hS:xF X sc)(p q r s:Pl):C X (.func 330) [p.v,q.v,r.v,s.v] m m.n (.tuple #[(gG p q r s).v,(xI p q r s).v]) m:=by
 refine Cl.flat (hX.no _ rfl) Nr rfl rfl ?_
 rw[SB];dsimp only[aN]
 refine ar fun m1 hn1 hg1 hk1=>?_
 refine ar fun m2 hn2 hg2 hk2=>?_
 refine ar fun m3 hn3 hg3 hk3=>?_
 refine ar fun m4 hn4 hg4 hk4=>?_
 refine ar fun m5 hn5 hg5 hk5=>?_
 refine ar fun m6 hn6 hg6 hk6=>?_
 have g0:m6.get m.n=.cells p.c 98 none:=by rw[hk6 _ (by omega),hk5 _ (by omega),hk4 _ (by omega),hk3 _ (by omega),hk2 _ (by omega)];exact hg1
 have g1:m6.get m1.n=.cells q.c 98 none:=by rw[hk6 _ (by omega),hk5 _ (by omega),hk4 _ (by omega),hk3 _ (by omega)];exact hg2
 have g2:m6.get m2.n=.cells r.c 98 none:=by rw[hk6 _ (by omega),hk5 _ (by omega),hk4 _ (by omega)];exact hg3
 have g3:m6.get m3.n=.cells s.c 98 none:=by rw[hk6 _ (by omega),hk5 _ (by omega)];exact hg4
 have g4:m6.get m4.n=.cells [.int .i64 0,.int .i64 0] 98 none:=by rw[hk6 _ (by omega),hg5]
 have g5:m6.get m5.n=.cells [.int .i64 0,.int .i64 0] 98 none:=hg6
 unfold ptrTo
 rw[bz g0,aa,bz g1,aa,KB,au]
 obtain⟨m10,hm10⟩:∃x,x=m6.push (.cells (p.c++q.c) 98 none):=⟨_,rfl⟩
 rw[<-hm10]
 have hn10:m10.n=m6.n+1:=by rw[hm10];rfl
 have hg10:m10.get m6.n=.cells (p.c++q.c) 98 none:=by rw[hm10];exact M.aV
 have hk10:∀c,c < m6.n->m10.get c=m6.get c:=fun c hc=>by rw[hm10];exact M.bQ hc
 rw[bz (by rw[hk10 _ (by omega)];exact g2),aa,bz (by rw[hk10 _ (by omega)];exact g3),aa,KB,au]
 obtain⟨m14,hm14⟩:∃x,x=m10.push (.cells (r.c++s.c) 98 none):=⟨_,rfl⟩
 rw[<-hm14]
 have hn14:m14.n=m10.n+1:=by rw[hm14];rfl
 have hg14:m14.get m10.n=.cells (r.c++s.c) 98 none:=by rw[hm14];exact M.aV
 have hk14:∀c,c < m10.n->m14.get c=m10.get c:=fun c hc=>by rw[hm14];exact M.bQ hc
 have ga:m14.get m6.n=.cells (p.c++q.c) 98 none:=by rw[hk14 _ (by omega),hg10]
 refine aC (hS.pl m14 m6.n p q ga) ?_
 obtain⟨m16,hm16⟩:∃x,x=m14.set m6.n (.cells ((eZ p q).c++(tA p q).c) 98 none):=⟨_,rfl⟩
 rw[<-hm16]
 have hn16:m16.n=m14.n:=by rw[hm16];rfl
 have hg16:m16.get m6.n=.cells ((eZ p q).c++(tA p q).c) 98 none:=by rw[hm16];exact M.cA (by omega)
 have hk16:∀c,c≠m6.n->m16.get c=m14.get c:=fun c hc=>by rw[hm16];exact M.cp hc
 have gb:m16.get m10.n=.cells (r.c++s.c) 98 none:=by rw[hk16 _ (by omega),hg14]
 refine aC (hS.pl m16 m10.n r s gb) ?_
 obtain⟨m19,hm19⟩:∃x,x=m16.set m10.n (.cells ((eZ r s).c++(tA r s).c) 98 none):=⟨_,rfl⟩
 rw[<-hm19]
 have hn19:m19.n=m16.n:=by rw[hm19];rfl
 have hg19:m19.get m10.n=.cells ((eZ r s).c++(tA r s).c) 98 none:=by rw[hm19];exact M.cA (by omega)
 have hk19:∀c,c≠m10.n->m19.get c=m16.get c:=fun c hc=>by rw[hm19];exact M.cp hc
 have s1:=rI (m:=m19) (p:=eZ p q) (q:=tA p q) (b:=m6.n) (g:=none) (by rw[hk19 _ (by omega),hg16])
 have s2:=rI (m:=m19) (p:=eZ r s) (q:=tA r s) (b:=m10.n) (g:=none) hg19
 obtain⟨a1,x1,y1⟩:=s1.dK (k:=.i64) (i:=0) rfl
 obtain⟨a2,x2,y2⟩:=s2.dK (k:=.i64) (i:=0) rfl
 obtain⟨a3,x3,y3⟩:=s1.dK (k:=.i64) (i:=1) rfl
 obtain⟨a4,x4,y4⟩:=s2.dK (k:=.i64) (i:=1) rfl
 have x1:ai TE 45 (.slice (some ⟨m6.n,0,none⟩) 2 2) (.int .i64 0)=some a1:=x1
 have x2:ai TE 45 (.slice (some ⟨m10.n,0,none⟩) 2 2) (.int .i64 0)=some a2:=x2
 have x3:ai TE 45 (.slice (some ⟨m6.n,0,none⟩) 2 2) (.int .i64 1)=some a3:=x3
 have x4:ai TE 45 (.slice (some ⟨m10.n,0,none⟩) 2 2) (.int .i64 1)=some a4:=x4
 rw[x1,aa,y1,aa,x2,aa,y2,aa,KB,au]
 obtain⟨m26,hm26⟩:∃x,x=m19.push (.cells ((eZ p q).c++(eZ r s).c) 98 none):=⟨_,rfl⟩
 rw[<-hm26]
 have hx26:Ext m19 m26:=by rw[hm26];exact Ext.refl.push
 have hn26:m26.n=m19.n+1:=by rw[hm26];rfl
 have hg26:m26.get m19.n=.cells ((eZ p q).c++(eZ r s).c) 98 none:=by rw[hm26];exact M.aV
 refine aC (KG hX (rI hg26)) ⟨Nat.le_refl _,?_⟩
 have t1:=s1.aD hx26
 have t2:=s2.aD hx26
 obtain⟨a5,x5,y5⟩:=t1.dK (k:=.i64) (i:=1) rfl
 obtain⟨a6,x6,y6⟩:=t2.dK (k:=.i64) (i:=1) rfl
 have x5:ai TE 45 (.slice (some ⟨m6.n,0,none⟩) 2 2) (.int .i64 1)=some a5:=x5
 have x6:ai TE 45 (.slice (some ⟨m10.n,0,none⟩) 2 2) (.int .i64 1)=some a6:=x6
 rw[x5,aa,y5,aa,x6,aa,y6,aa,KB,au]
 obtain⟨m35,hm35⟩:∃x,x=m26.push (.cells ((tA p q).c++(tA r s).c) 98 none):=⟨_,rfl⟩
 rw[<-hm35]
 have hx35:Ext m26 m35:=by rw[hm35];exact Ext.refl.push
 have hn35:m35.n=m26.n+1:=by rw[hm35];rfl
 have hg35:m35.get m26.n=.cells ((tA p q).c++(tA r s).c) 98 none:=by rw[hm35];exact M.aV
 refine aC (KF hX (rI hg35)) ?_
 have eO:∀c,c < m6.n->m35.get c=m6.get c:=fun c hc=>by
  rw[hx35.get c (by omega),hx26.get c (by omega),hk19 c (by omega),hk16 c (by omega),hk14 c (by omega),hk10 c hc]
 have k4:=(eO m4.n (by omega)).trans g4
 have k5:=(eO m5.n (by omega)).trans g5
 refine av cG k4 rfl rfl rfl fun m39 hn39 hg39 hk39=>?_
 have hg39:m39.get m4.n=.cells (gG p q r s).c 98 none:=hg39
 refine av cG ((hk39 m5.n (by omega)).trans k5) rfl rfl rfl fun m41 hn41 hg41 hk41=>?_
 have hg41:m41.get m5.n=.cells (xI p q r s).c 98 none:=hg41
 rw[bz (by rw[hk41 _ (by omega)];exact hg39),aa,bz hg41,aa]
 exact⟨rfl,by omega⟩
end Go.Proofs.YtmdfgncoekfgdaaGreatDoor
namespace Go.Proofs.YtmdfgncoekfgdaaGreatDoor
open Go Go.D
variable {X:aF} {m:M}
def zZ(l:List Pl):Nat->Int
 |0=>0
 |n+1=>BQ (zZ l n+bE (dj l 0) (dj l n) (jK l n))
def mj(l:List Pl):Int:=if aP l then zZ l l.length else 0
theorem Da(hX:dF X){l:List Pl}{v:Value}(hl:Sl m l v)(hb:l.length < 1000000):C X (.func 101) [v] m m.n (.int .i64 (mj l)) m:=by
 refine Cl.flat (hX.no _ rfl) Oh rfl rfl ?_
 rw[Tu];dsimp only[aN]
 refine ar fun m1 hn1 hg1 hk1=>?_
 have hx1:Ext m m1:=⟨by omega,hk1⟩
 rw[hl.cells]at hg1
 unfold ptrTo
 have ld:∀mm:M,mm.get m.n=.cells [v] 45 none->ag TE mm 45 (.pointer (some ⟨m.n,0,none⟩))=some v:=fun mm h=>by rw[mO,az h];rfl
 rw[ld m1 hg1,aa]
 refine aC (fw hX (hl.aD hx1) (by omega)) ?_
 rw[bD,aa,aj]
 refine ak (fun h=>?_) (fun h=>?_)
 ·have h:aP l=false:=by simpa using h
  refine⟨?_,by omega⟩
  unfold mj;rw[h];rfl
 have hv:aP l=true:=by simpa using h
 have h38:=cC hv
 have hsm:=dI hv
 refine ar fun m7 hn7 hg7 hk7=>?_
 refine av nB hg7 rfl rfl rfl fun m8 hn8 hg8 hk8=>?_
 have hx8:Ext m1 m8:=⟨by omega,fun c hc=>by rw[hk8 c (by omega),hk7 c hc]⟩
 rw[ld m8 (hx8.cells hg1),aa]
 obtain⟨m12,hc,hx12,hn12,hg12⟩:=ma (m:=m8) hX hl.cells
 refine aC hc ?_
 rw[bO]
 have g0:m12.get m.n=.cells [v] 45 none:=hx12.cells (hx8.cells hg1)
 have ga:m12.get m1.n=.cells [.int .i64 0] 3 none:=by rw[hx12.get _ (by omega)];exact hg8
 have hall:Ext m m12:=(hx1.trans hx8).trans hx12
 refine⟨_,gk l,_,fun i mm=>m12.n<=mm.n/\(∀c,c < m12.n->c≠m1.n->mm.get c=m12.get c)/\mm.get m1.n=.cells [.int .i64 (zZ l i)] 3 none,fun _ _=>False,m.n,⟨_,rfl⟩,kI hX (by omega) (v:=v) (b:=m8.n),by omega,?_,?_,?_,⟨Nat.le_refl _,fun _ _ _=>rfl,ga⟩,?_,?_,?_⟩
 ·rintro i mm ⟨h1,h2,h3⟩
  refine⟨by rw[h2 _ (by omega) (by omega),hg12],?_⟩
  refine hl.bw fun b c t g hb ht=>?_
  have:=M.aI hb
  rw[h2 b (by omega) (by omega),hall.get b this,hb]
 ·rintro i mm mm2 ⟨h1,h2,h3⟩ hk
  exact⟨by have:=hk.n;omega,fun c hc hne=>by rw[hk.get c (by omega) (by omega),h2 c hc hne],by rw[hk.get _ (by omega) (by omega),h3]⟩
 ·rintro e mm mm2 h;exact h.elim
 ·rintro i args m15 hn15 hx ⟨h1,h2,h3⟩
  obtain⟨pa,pb,hpa,hpb,rfl⟩:=kH hx
  have hil:i < l.length:=(List.getElem?_eq_some_iff.1 hpa).1
  rw[aA,aA]
  show vM [] _
  unfold vM
  refine ar fun m21 hn21 hg21 hk21=>?_
  refine av cG hg21 rfl rfl rfl fun m22 hn22 hg22 hk22=>?_
  refine ar fun m24 hn24 hg24 hk24=>?_
  refine av cG hg24 rfl rfl rfl fun m25 hn25 hg25 hk25=>?_
  have eO:∀c,c < m15.n->m25.get c=m15.get c:=fun c hc=>by rw[hk25 c (by omega),hk24 c (by omega),hk22 c (by omega),hk21 c hc]
  refine⟨fun c _ hc=>eO c hc,fun m27 hn27 hk27=>?_⟩
  dsimp only
  have r1:m27.get m1.n=.cells [.int .i64 (zZ l i)] 3 none:=by rw[hk27 _ (by omega),eO _ (by omega),h3]
  have r2:m27.get m15.n=.cells pa.c 98 none:=by rw[hk27 _ (by omega),hk25 _ (by omega),hk24 _ (by omega),hg22];rfl
  have r3:m27.get m22.n=.cells pb.c 98 none:=by rw[hk27 _ (by omega),hg25];rfl
  have r0:m27.get m.n=.cells [v] 45 none:=by rw[hk27 _ (by omega),eO _ (by omega),h2 _ (by omega) (by omega),g0]
  have hs27:Sl m27 l v:=hl.bw fun b c t g hb ht=>by
   have:=M.aI hb
   rw[hk27 b (by omega),eO b (by omega),h2 b (by omega) (by omega),hall.get b this,hb]
  rw[bA,az r1]
  simp only[List.getElem?_cons_zero,aa]
  obtain⟨p0,hp0⟩:∃p,l[0]?=some p:=⟨_,List.getElem?_eq_getElem (by omega)⟩
  obtain⟨a,e1,e2⟩:=hs27.dK (k:=.i64) (i:=0) hp0
  have e1:ai TE 45 v (.int .i64 0)=some a:=e1
  rw[ld m27 r0,aa,e1,aa,e2,aa,bz r2,aa,bz r3,aa]
  refine aC (my hX (hsm _ (List.mem_of_getElem? hp0)) (hsm _ (List.mem_of_getElem? hpa)) (hsm _ (List.mem_of_getElem? hpb))) ⟨Nat.le_refl _,?_⟩
  rw[aG,aa]
  refine av nB r1 rfl rfl rfl fun um hn38 hg38 hk38=>?_
  refine⟨by omega,fun c h1c h2c _=>hk38 c (by omega),?_⟩
  refine⟨by omega,fun c hc hne=>?_,?_⟩
  ·rw[hk38 c (by omega),hk27 c (by omega),eO c (by omega),h2 c hc hne]
  ·have e3:jK l i=pb:=oA hpb
   rw[hg38,zZ,oA hp0,oA hpa,e3];rfl
 ·rintro mm eZ ⟨h1,h2,h3⟩ hlo
  rw[bA,az h3]
  simp only[List.getElem?_cons_zero,aa]
  refine⟨?_,by omega⟩
  rw[jo]
  unfold mj;rw[if_pos hv];rfl
 ·rintro e mm eZ _ h;exact h.elim
end Go.Proofs.YtmdfgncoekfgdaaGreatDoor
namespace Go.Proofs.YtmdfgncoekfgdaaGreatDoor
open Go Go.D
variable {X:aF} {m:M}
theorem Ol{p q:Pl}:an TE .eql 98 p.v q.v=some (.bool (decide (p=q))):=by
 have e:an TE .eql 98 p.v q.v=(eq? TE 98 p.v q.v).map (fun b=> .bool b):=by kernel_rfl
 rw[e,Mm];rfl
abbrev qK(p q:Pl):List Value:=[.int .i64 p.x,.int .i64 p.y,.int .i64 q.x,.int .i64 q.y]
abbrev yH:List Value:=[.int .i64 0,.int .i64 0,.int .i64 0,.int .i64 0]
def nd:Option (Pl×Pl)->List Value
 |some x=>qK x.1 x.2
 |none=>yH
theorem om{p q:Pl}:aW TE 113 [(0,p.v),(1,q.v)]=some (.agg (qK p q).toArray):=by kernel_rfl
theorem qX:aW TE 113 []=some (.agg yH.toArray):=by kernel_rfl
theorem ib{α:Type}{f:Nat->Option α}:∀{n:Nat},(∀j,j < n->f j=none)->(List.range n).findSome? f=none:=by
 intro n h
 rw[List.findSome?_eq_none_iff]
 exact fun x hx=>h x (List.mem_range.1 hx)
theorem jX{α:Type}{f:Nat->Option α}{x:α}:∀{n k:Nat},k < n->(∀j,j < k->f j=none)->f k=some x->(List.range n).findSome? f=some x
 |n+1,k,hk,h,hx=>by
  rw[List.range_succ,List.findSome?_append]
  by_cases e:k < n
  ·rw[jX e h hx];rfl
  ·have:k=n:=by omega
   subst this
   rw[ib h]
   simp[hx]
theorem sw{m1 m2:Nat}{mm:M}{o:Option (Pl×Pl)}{b:Bool}(h1:mm.get m1=.cells (nd o) 113 none)(h2:mm.get m2=.cells [.bool b] 4 none){P:Value->Value->Prop}(hP:P (.agg (nd o).toArray) (.bool b)):
  ah (ag TE mm 113 (.pointer (some ⟨m1,0,none⟩))) fun v=>ah (ag TE mm 4 (.pointer (some ⟨m2,0,none⟩))) fun w=>P v w:=by
 have hl:(nd o).length=4:=by cases o <;>rfl
 rw[zl,aH h1 (by rw[hl];exact Nat.le_refl _)]
 have e:((nd o).drop 0).take 4=nd o:=by rw[List.drop_zero,List.take_of_length_le (by rw[hl];exact Nat.le_refl _)]
 rw[e]
 show ah (some (Value.agg (nd o).toArray)) _
 rw[aa,sZ,az h2]
 exact hP
theorem vK{P:Prop}:vM [] P=P:=rfl
set_option maxRecDepth 100000 in
theorem Kv{sc:List Ct->List Ct}(hX:dF X)(hS:xF X sc){a b:List Pl}{va vb:Value}(ha:Sl m a va)(hb:Sl m b vb)(la:a.length < 1000000)(lb:b.length < 1000000):
  C X (.func 287) [va,vb] m m.n (.tuple #[.agg (nd (gE a b)).toArray,.bool (gE a b).isSome]) m:=by
 refine Cl.flat (hX.no _ rfl) Nv rfl (by cases gE a b <;>rfl) ?_
 rw[SE];dsimp only[aN]
 refine ar fun m1 hn1 hg1 hk1=>?_
 refine ar fun m2 hn2 hg2 hk2=>?_
 refine ar fun m3 hn3 hg3 hk3=>?_
 rw[hb.cells]at hg1
 unfold ptrTo
 have hx3:Ext m m3:=⟨by omega,fun c hc=>by rw[hk3 c (by omega),hk2 c (by omega),hk1 c hc]⟩
 have g0:m3.get m.n=.cells [vb] 45 none:=by rw[hk3 _ (by omega),hk2 _ (by omega),hg1]
 have g1:m3.get m1.n=.cells yH 113 none:=by rw[hk3 _ (by omega),hg2]
 have g2:m3.get m2.n=.cells [.bool false] 4 none:=hg3
 have ld:∀mm:M,mm.get m.n=.cells [vb] 45 none->ag TE mm 45 (.pointer (some ⟨m.n,0,none⟩))=some vb:=fun mm h=>by rw[mO,az h];rfl
 have ha3:=ha.aD hx3
 have hb3:=hb.aD hx3
 refine cq (fun vs m' lo=>vs=[.bool (!(aP a && aP b && !cH a b))]/\m'=m3/\m.n<=lo) (fun R hR=>?_) ?_
 ·refine aC (fw hX ha3 (by omega)) ?_
  rw[bD,aa,aj]
  refine ak (fun h=>?_) (fun h=>?_)
  ·have h:aP a=false:=by simpa using h
   exact hR _ _ _ ⟨by rw[h];rfl,rfl,by omega⟩
  have h:aP a=true:=by simpa using h
  rw[ld m3 g0,aa]
  refine aC (fw hX hb3 (by omega)) ?_
  rw[bD,aa,aj]
  refine ak (fun h'=>?_) (fun h'=>?_)
  ·have h':aP b=false:=by simpa using h'
   exact hR _ _ _ ⟨by rw[h,h'];rfl,rfl,by omega⟩
  have h':aP b=true:=by simpa using h'
  rw[ld m3 g0,aa]
  refine aC (lN hX ha3 hb3 la lb) ?_
  exact hR _ _ _ ⟨by rw[h,h',Bool.true_and,Bool.true_and,Bool.not_not],rfl,by omega⟩
 rintro _ m6 lo7 ⟨rfl,rfl,hlo7⟩
 rw[aA,aj]
 refine ak (fun h=>?_) (fun h=>?_)
 ·have h:(aP a && aP b && !cH a b)=false:=by
   cases h':(aP a && aP b && !cH a b)with
   |false=>rfl
   |true=>rw[h']at h;cases h
  have e:gE a b=none:=by unfold gE;rw[if_neg (by rw[h];decide)]
  rw[qX,aa]
  refine av vN g1 rfl rfl rfl fun m24 hn24 hg24 hk24=>?_
  refine av DP (by rw[hk24 _ (by omega)];exact g2) rfl rfl rfl fun m26 hn26 hg26 hk26=>?_
  refine sw (o:=none) (b:=false) (by rw[hk26 _ (by omega)];exact hg24) hg26 ⟨by rw[e];rfl,by omega⟩
 have hv:(aP a && aP b && !cH a b)=true:=by
  cases h':(aP a && aP b && !cH a b)with
  |true=>rfl
  |false=>rw[h']at h;cases h
 have hv':=hv
 simp only[Bool.and_eq_true]at hv'
 obtain⟨⟨va',vb'⟩, -⟩:=hv'
 have e:gE a b=oG a b:=by unfold gE;rw[if_pos hv]
 have sa:=dI va'
 have sb:=dI vb'
 obtain⟨m31,hc,hx31,hn31,hg31⟩:=ma (m:=m6) hX ha.cells
 refine aC hc ?_
 rw[bO]
 have k0:m31.get m.n=.cells [vb] 45 none:=hx31.cells g0
 have k1:m31.get m1.n=.cells yH 113 none:=hx31.cells g1
 have k2:m31.get m2.n=.cells [.bool false] 4 none:=hx31.cells g2
 have hx:Ext m m31:=hx3.trans hx31
 have hxn:=hx31.n
 refine⟨fun _=>False,gk a,_,fun i mm=>m31.n<=mm.n/\(∀c,c < m31.n->mm.get c=m31.get c)/\∀j,j < i->uU a b j=none,
  fun e mm=>e=.ret/\∃x,oG a b=some x/\mm.get m1.n=.cells (qK x.1 x.2) 113 none/\mm.get m2.n=.cells [.bool true] 4 none,m.n,⟨_,rfl⟩,kI hX (v:=va) (b:=m6.n) (by omega),by omega,?_,?_,?_,⟨Nat.le_refl _,fun _ _=>rfl,fun j hj=>by omega⟩,?_,?_,?_⟩
 ·rintro i mm ⟨h1,h2,h3⟩
  refine⟨by rw[h2 _ (by omega),hg31],?_⟩
  exact ha.bw fun b c t g hb ht=>by
   have:=M.aI hb
   rw[h2 b (by omega),hx.get b this,hb]
 ·rintro i mm mm2 ⟨h1,h2,h3⟩ hk
  exact⟨by have:=hk.n;omega,fun c hc=>by rw[hk.get c (by omega) (by omega),h2 c hc],h3⟩
 ·rintro e mm mm2 ⟨h,x,h1,h2,h3⟩ hk
  have l1:=M.aI h2
  have l2:=M.aI h3
  exact⟨h,x,h1,by rw[hk.get _ l1 (by omega),h2],by rw[hk.get _ l2 (by omega),h3]⟩
 ·
  rintro i args m34 hn34 hxi ⟨h1,h2,h3⟩
  obtain⟨pa,pb,hpa,hpb,rfl⟩:=kH hxi
  have hia:i < a.length:=(List.getElem?_eq_some_iff.1 hpa).1
  have ea:dj a i=pa:=oA hpa
  have eb:jK a i=pb:=oA hpb
  rw[aA,aA,vK]
  refine ar fun m40 hn40 hg40 hk40=>?_
  refine av cG hg40 rfl rfl rfl fun m41 hn41 hg41 hk41=>?_
  refine ar fun m43 hn43 hg43 hk43=>?_
  refine av cG hg43 rfl rfl rfl fun m44 hn44 hg44 hk44=>?_
  have old44:∀c,c < m34.n->m44.get c=m34.get c:=fun c hc=>by rw[hk44 c (by omega),hk43 c (by omega),hk41 c (by omega),hk40 c hc]
  refine⟨fun c _ hc=>old44 c hc,fun m46 hn46 hk46=>?_⟩
  dsimp only
  have o46:∀c,c < m31.n->m46.get c=m31.get c:=fun c hc=>by rw[hk46 c (by omega),old44 c (by omega),h2 c hc]
  have ra:m46.get m34.n=.cells pa.c 98 none:=by rw[hk46 _ (by omega),hk44 _ (by omega),hk43 _ (by omega),hg41];rfl
  have rb:m46.get m41.n=.cells pb.c 98 none:=by rw[hk46 _ (by omega),hg44];rfl
  rw[ld m46 (by rw[o46 _ (by omega)];exact k0),aa]
  obtain⟨m49,hc49,hx49,hn49,hg49⟩:=ma (m:=m46) hX hb.cells
  refine aC hc49 ?_
  rw[bO]
  have hxn49:=hx49.n
  have o49:∀c,c < m31.n->m49.get c=m31.get c:=fun c hc=>by rw[hx49.get c (by omega),o46 c hc]
  refine⟨fun _=>False,gk b,_,fun k mm=>m49.n<=mm.n/\(∀c,c < m49.n->mm.get c=m49.get c)/\∀j,j < k->lK pa pb (dj b j) (jK b j)=none,
   fun e mm=>m49.n<=mm.n/\e=.ret/\∃x,oG a b=some x/\mm.get m1.n=.cells (qK x.1 x.2) 113 none/\mm.get m2.n=.cells [.bool true] 4 none/\mm.get m31.n=m46.get m31.n,m.n,⟨_,rfl⟩,kI hX (v:=vb) (b:=m46.n) (by omega),by omega,?_,?_,?_,⟨Nat.le_refl _,fun _ _=>rfl,fun j hj=>by omega⟩,?_,?_,?_⟩
  ·rintro k mm ⟨q1,q2,q3⟩
   refine⟨by rw[q2 _ (by omega),hg49],?_⟩
   exact hb.bw fun b c t g hb ht=>by
    have:=M.aI hb
    rw[q2 b (by omega),o49 b (by omega),hx.get b this,hb]
  ·rintro k mm mm2 ⟨q1,q2,q3⟩ hk
   exact⟨by have:=hk.n;omega,fun c hc=>by rw[hk.get c (by omega) (by omega),q2 c hc],q3⟩
  ·rintro e mm mm2 ⟨q0,h,x,q1,q2,q3,q4⟩ hk
   exact⟨by have:=hk.n;omega,h,x,q1,by rw[hk.get _ (by omega) (by omega),q2],by rw[hk.get _ (by omega) (by omega),q3],by rw[hk.get _ (by omega) (by omega),q4]⟩
  ·
   rintro k args m52 hn52 hxk ⟨q1,q2,q3⟩
   obtain⟨pr,ps,hpr,hps,rfl⟩:=kH hxk
   have hkb:k < b.length:=(List.getElem?_eq_some_iff.1 hpr).1
   have er:dj b k=pr:=oA hpr
   have es:jK b k=ps:=oA hps
   have da:=sa _ (List.mem_of_getElem? hpa)
   have db:=sa _ (List.mem_of_getElem? hpb)
   have dr:=sb _ (List.mem_of_getElem? hpr)
   have ds:=sb _ (List.mem_of_getElem? hps)
   rw[aA,aA,vK]
   refine ar fun m58 hn58 hg58 hk58=>?_
   refine av cG hg58 rfl rfl rfl fun m59 hn59 hg59 hk59=>?_
   refine ar fun m61 hn61 hg61 hk61=>?_
   refine av cG hg61 rfl rfl rfl fun m62 hn62 hg62 hk62=>?_
   have old62:∀c,c < m52.n->m62.get c=m52.get c:=fun c hc=>by rw[hk62 c (by omega),hk61 c (by omega),hk59 c (by omega),hk58 c hc]
   refine⟨fun c _ hc=>old62 c hc,fun m64 hn64 hk64=>?_⟩
   dsimp only
   have o64:∀c,c < m49.n->m64.get c=m49.get c:=fun c hc=>by rw[hk64 c (by omega),old62 c (by omega),q2 c hc]
   have ta:m64.get m34.n=.cells pa.c 98 none:=by rw[o64 _ (by omega),hx49.get _ (by omega),ra]
   have tb:m64.get m41.n=.cells pb.c 98 none:=by rw[o64 _ (by omega),hx49.get _ (by omega),rb]
   have tr:m64.get m52.n=.cells pr.c 98 none:=by rw[hk64 _ (by omega),hk62 _ (by omega),hk61 _ (by omega),hg59];rfl
   have ts:m64.get m59.n=.cells ps.c 98 none:=by rw[hk64 _ (by omega),hg62];rfl
   have skip:lK pa pb pr ps=none->∀(mm:M) (lo:Nat),m64.n<=mm.n->(∀c,c < m64.n->mm.get c=m64.get c)->m.n<=lo->
     m.n<=lo/\(∀c,m49.n<=c->c < m52.n->(c=m49.n\/False)->mm.get c=m64.get c)/\(m49.n<=mm.n/\(∀c,c < m49.n->mm.get c=m49.get c)/\∀j,j < k+1->lK pa pb (dj b j) (jK b j)=none):=by
    intro hno mm lo hnm hkm hlo
    refine⟨hlo,fun c _ hc _=>hkm c (by omega),by omega,fun c hc=>by rw[hkm c (by omega),o64 c hc],fun j hj=>?_⟩
    by_cases e:j=k
    ·rw[e,er,es];exact hno
    ·exact q3 j (by omega)
   refine cq (fun vs m' lo=>vs=[.bool (decide (bE pa pb pr≠0\/bE pa pb ps≠0))]/\m'=m64/\m.n<=lo) (fun R hR=>?_) ?_
   ·rw[bz ta,aa,bz tb,aa,bz tr,aa]
    refine aC (my hX da db dr) ?_
    rw[cE,aa,aj]
    refine ak (fun h=>?_) (fun h=>?_)
    ·have h:bE pa pb pr≠0:=by simpa using h
     exact hR _ _ _ ⟨by rw[decide_eq_true (Or.inl h)],rfl,by omega⟩
    ·have h:bE pa pb pr=0:=by simpa using h
     rw[bz ta,aa,bz tb,aa,bz ts,aa]
     refine aC (my hX da db ds) ?_
     rw[cE,aa]
     refine hR _ _ _ ⟨?_,rfl,by omega⟩
     congr 2
     rw[Bool.eq_iff_iff]
     simp[h]
   rintro _ m67 lo68 ⟨rfl,rfl,hlo68⟩
   rw[aA,aj]
   refine ak (fun h=>?_) (fun h=>?_)
   ·have h:=of_decide_eq_true h
    exact skip (by unfold lK;rw[if_pos h]) m67 lo68 (Nat.le_refl _) (fun _ _=>rfl) hlo68
   have hturn:=of_decide_eq_false h
   rw[bz ta,aa,bz tb,aa,bz tr,aa,bz ts,aa]
   refine aC (Fp hX hS pa pb pr ps) ?_
   rw[aR,aR]
   simp only[List.getElem?_cons_zero,List.getElem?_cons_succ,aa]
   refine ar fun m94 hn94 hg94 hk94=>?_
   refine ar fun m95 hn95 hg95 hk95=>?_
   refine av cG ((hk95 m67.n (by omega)).trans hg94) rfl rfl rfl fun m96 hn96 hg96 hk96=>?_
   refine av cG ((hk96 m94.n (by omega)).trans hg95) rfl rfl rfl fun m98 hn98 hg98 hk98=>?_
   have tf:m98.get m67.n=.cells (gG pa pb pr ps).c 98 none:=by rw[hk98 _ (by omega)];exact hg96
   have tt:m98.get m94.n=.cells (xI pa pb pr ps).c 98 none:=hg98
   have o98:∀c,c < m67.n->m98.get c=m67.get c:=fun c hc=>by rw[hk98 c (by omega),hk96 c (by omega),hk95 c (by omega),hk94 c hc]
   refine cq (fun vs m' lo=>vs=[.bool (decide (gG pa pb pr ps=xI pa pb pr ps\/0 < oS (gG pa pb pr ps) (xI pa pb pr ps)))]/\m'=m98/\m.n<=lo) (fun R hR=>?_) ?_
   ·rw[bz tf,aa,bz tt,aa,Ol,aa,aj]
    refine ak (fun h=>?_) (fun h=>?_)
    ·have h:=of_decide_eq_true h
     exact hR _ _ _ ⟨by rw[decide_eq_true (Or.inl h)],rfl,by omega⟩
    ·have h:=of_decide_eq_false h
     refine aC (oR hX _ _) ?_
     rw[cQ,aa]
     refine hR _ _ _ ⟨?_,rfl,by omega⟩
     congr 2
     rw[decide_eq_decide]
     exact⟨fun q=> .inr q,fun q=>q.resolve_left h⟩
   rintro _ m102 lo103 ⟨rfl,rfl,hlo103⟩
   rw[aA,aj]
   refine ak (fun h=>?_) (fun h=>?_)
   ·have h:=of_decide_eq_true h
    exact skip (by unfold lK;rw[if_neg hturn,if_pos h]) m102 lo103 (by omega) (fun c hc=>o98 c hc) hlo103
   have hft:=of_decide_eq_false h
   rw[bz (by rw[o98 _ (by omega)];exact ta),aa,bz (by rw[o98 _ (by omega)];exact tb),aa]
   refine aC (oR hX _ _) ?_
   rw[cQ,aa,aj]
   have hl1:m102.get m1.n=.cells yH 113 none:=by rw[o98 _ (by omega),o64 _ (by omega),o49 _ (by omega),k1]
   have hl2:m102.get m2.n=.cells [.bool false] 4 none:=by rw[o98 _ (by omega),o64 _ (by omega),o49 _ (by omega),k2]
   have fin:∀(x:Pl×Pl) (mm:M) (F:Nat->Nat->Nat),lK pa pb pr ps=some x->mm.n=m102.n->(∀c,c < m67.n->mm.get c=m102.get c)->m.n<=F m1.n m2.n->
     aO (aB TE mm 113 (.pointer (some ⟨m1.n,0,none⟩)) (.agg (qK x.1 x.2).toArray)) fun m130 b131=>aO (aB TE m130 4 (.pointer (some ⟨m2.n,0,none⟩)) (.bool true)) fun m132 b133=>
      m.n<=F b131 b133/\(∀c,m49.n<=c->c < m52.n->(c=m49.n\/False)->m132.get c=m67.get c)/\(m49.n<=m132.n/\True/\∃x,oG a b=some x/\m132.get m1.n=.cells (qK x.1 x.2) 113 none/\m132.get m2.n=.cells [.bool true] 4 none/\m132.get m31.n=m46.get m31.n):=by
    intro x mm F hx1 hnm hkm hlo
    refine av vN ((hkm m1.n (by omega)).trans hl1) rfl rfl rfl fun m130 hn130 hg130 hk130=>?_
    refine av DP ((hk130 m2.n (by omega)).trans ((hkm m2.n (by omega)).trans hl2)) rfl rfl rfl fun m132 hn132 hg132 hk132=>?_
    refine⟨hlo,fun c hc1 hc2 _=>by rw[hk132 c (by omega),hk130 c (by omega),hkm c (by omega),o98 c (by omega)],by omega,trivial,x,?_,by rw[hk132 _ (by omega)];exact hg130,hg132,?_⟩
    ·unfold oG
     refine jX hia h3 ?_
     unfold uU
     rw[ea,eb]
     refine jX hkb (fun j hj=>q3 j hj) ?_
     rw[er,es]
     exact hx1
    ·rw[hk132 _ (by omega),hk130 _ (by omega),hkm _ (by omega),o98 _ (by omega),o64 _ (by omega),hx49.get _ (by omega)]
   refine ak (fun h=>?_) (fun h=>?_)
   ·have h:=of_decide_eq_true h
    rw[bz tt,aa,bz tf,aa]
    refine av cG tf rfl rfl rfl fun m123 hn123 hg123 hk123=>?_
    refine av cG ((hk123 m94.n (by omega)).trans tt) rfl rfl rfl fun m125 hn125 hg125 hk125=>?_
    rw[bz (p:=xI pa pb pr ps) (by rw[hk125 _ (by omega)];exact hg123),aa,bz (p:=gG pa pb pr ps) hg125,aa,om,aa]
    exact fin (xI pa pb pr ps,gG pa pb pr ps) m125 (fun a b=>min (min (min (min (min lo103 m102.n) m67.n) m94.n) a) b) (by unfold lK;rw[if_neg hturn,if_neg hft,if_pos h]) (by omega) (fun c hc=>by rw[hk125 c (by omega),hk123 c (by omega)]) (by omega)
   ·have h:=of_decide_eq_false h
    rw[bz tf,aa,bz tt,aa,om,aa]
    exact fin (gG pa pb pr ps,xI pa pb pr ps) m102 (fun a b=>min (min (min lo103 m102.n) a) b) (by unfold lK;rw[if_neg hturn,if_neg hft,if_neg h]) rfl (fun _ _=>rfl) (by omega)
  ·rintro mm eZ ⟨q1,q2,q3⟩ hlo
   refine⟨by omega,fun c hc1 hc2 hc3=>?_,by omega,fun c hc=>by rw[q2 c (by omega),o49 c hc],fun j hj=>?_⟩
   ·rcases hc3 with rfl |h
    ·rw[q2 _ (by omega),hx49.get _ (by omega)]
    ·exact h.elim
   ·by_cases e:j=i
    ·subst e
     unfold uU
     rw[ea,eb]
     rw[jo]at q3
     exact ib q3
    ·exact h3 j (by omega)
  ·rintro e mm eZ hne ⟨q0,rfl,x,q1,q2,q3,q4⟩ hlo
   refine⟨_,List.mem_singleton.2 rfl,rfl,?_⟩
   dsimp only
   refine⟨by omega,fun c hc1 hc2 hc3=>?_,rfl,x,q1,q2,q3⟩
   rcases hc3 with rfl |h
   ·exact q4
   ·exact h.elim
 ·rintro mm eZ ⟨h1,h2,h3⟩ hlo
  rw[jo]at h3
  have e':gE a b=none:=by rw[e];unfold oG;exact ib h3
  rw[qX,aa]
  refine av vN ((h2 m1.n (by omega)).trans k1) rfl rfl rfl fun m151 hn151 hg151 hk151=>?_
  refine av DP ((hk151 m2.n (by omega)).trans ((h2 m2.n (by omega)).trans k2)) rfl rfl rfl fun m153 hn153 hg153 hk153=>?_
  refine sw (o:=none) (b:=false) (by rw[hk153 _ (by omega)];exact hg151) hg153 ⟨by rw[e'];rfl,by omega⟩
 ·rintro e2 mm eZ hne ⟨rfl,x,q1,q2,q3⟩ hlo
  refine⟨_,List.mem_singleton.2 rfl,rfl,?_⟩
  dsimp only
  have e':gE a b=some x:=by rw[e];exact q1
  refine sw (o:=some x) (b:=true) q2 q3 ⟨by rw[e'];rfl,by omega⟩
end Go.Proofs.YtmdfgncoekfgdaaGreatDoor
namespace Go.Proofs.YtmdfgncoekfgdaaGreatDoor
open Go Go.D
set_option maxRecDepth 100000 in
theorem SS{W:Words}{x0 x1:Value}{m:M}{R:List Value->M->Nat->Prop}:dN TE W Tryz.f182 [x0,x1] m R=
(W.bW (M.push m (.cells (cells x0) 87 none)) fun a=>W.bW (M.push a (.cells (cells x1) 87 none)) fun b=>W.bW (M.push b (.cells [(.int .i64 0),(.int .i64 0),(.int .i64 0),(.int .i64 0),(.int .i64 0),(.int .i64 0),(.int .i64 0),(.int .i64 0)] 115 none)) fun c=>W.ah (ag TE c 87 (ptrTo m.n)) fun d=>W.ah (ag TE c 87 (ptrTo a.n)) fun f=>W.bB (.func 190) [d,f] c fun g h i=>W.ah (cx g 0) fun j=>W.ah (cx g 1) fun k=>W.ah (cx g 2) fun l=>W.ah (iO .not l) fun n=>aX n
(W.ah (aW TE 115 []) fun o=>W.aO (aB TE h 115 (ptrTo b.n) o) fun p q=>ah (ag TE p 115 (ptrTo b.n)) fun r=>R [r,(.bool false)] p (min (min m.n i) q))
(W.ah (ae TE 87 (ptrTo m.n) 3) fun s=>W.ah (ag TE h 45 s) fun t=>W.ah (ae TE 87 (ptrTo a.n) 3) fun u=>W.ah (ag TE h 45 u) fun v=>W.bB (.func 287) [t,v] h fun w y z=>W.ah (cx w 0) fun A=>W.ah (cx w 1) fun B=>W.bW (M.push y (.cells [(.int .i64 0),(.int .i64 0),(.int .i64 0),(.int .i64 0)] 113 none)) fun C=>W.aO (aB TE C 113 (ptrTo y.n) A) fun D E=>W.ah (iO .not B) fun F=>aX F
(W.ah (aW TE 115 []) fun G=>W.aO (aB TE D 115 (ptrTo b.n) G) fun H I=>ah (ag TE H 115 (ptrTo b.n)) fun J=>R [J,(.bool false)] H (min (min (min (min m.n i) z) E) I))
(W.ah (ae TE 87 (ptrTo m.n) 0) fun K=>W.ah (ag TE D 3 K) fun L=>W.ah (ae TE 87 (ptrTo a.n) 0) fun N=>W.ah (ag TE D 3 N) fun O=>W.ah (ag TE D 113 (ptrTo y.n)) fun P=>W.ah (aW TE 115 [(0,L),(1,O),(2,P),(3,j),(4,k)]) fun Q=>W.aO (aB TE D 115 (ptrTo b.n) Q) fun S T=>ah (ag TE S 115 (ptrTo b.n)) fun U=>R [U,(.bool true)] S (min (min (min (min m.n i) z) E) T)))):=by kernel_rfl
set_option maxRecDepth 100000 in
theorem SU{W:Words}{x0:Value}{m:M}{R:List Value->M->Nat->Prop}:dN TE W Tryz.f181 [x0] m R=
(W.bW (M.push m (.cells (cells x0) 87 none)) fun a=>W.bW (M.push a (.cells [(.int .i64 0),(.int .i64 0),(.int .i64 0),(.int .i64 0),(.int .i64 0),(.int .i64 0),(.int .i64 0),(.int .i64 0)] 115 none)) fun b=>W.ah (ag TE b 87 (ptrTo m.n)) fun c=>W.bB (.func 120) [c] b fun d f g=>W.ah (iO .not d) fun h=>aX h
(W.ah (aW TE 115 []) fun i=>W.aO (aB TE f 115 (ptrTo a.n) i) fun j k=>ah (ag TE j 115 (ptrTo a.n)) fun l=>R [l,(.bool false)] j (min (min m.n g) k))
(W.ah (ae TE 87 (ptrTo m.n) 3) fun n=>W.ah (ag TE f 45 n) fun o=>W.aO (aq TE f .len [45] [o]) fun p _=>W.Lp (fun q r s t=>W.un r fun u v=>W.un v fun w y=>W.ah (an TE .lss 3 w p) fun z=>aX z
(W.ah (ai TE 45 o w) fun A=>W.ah (ag TE s 98 A) fun B=>W.bW (M.push s (.cells [(.int .i64 0),(.int .i64 0)] 98 none)) fun C=>W.aO (aB TE C 98 (ptrTo s.n) B) fun D E=>W.ah (ae TE 87 (ptrTo m.n) 3) fun F=>W.ah (ag TE D 45 F) fun G=>W.ah (an TE .add 3 w (.int .i64 1)) fun H=>W.ah (ae TE 87 (ptrTo m.n) 3) fun I=>W.ah (ag TE D 45 I) fun J=>W.aO (aq TE D .len [45] [J]) fun K _=>W.ah (an TE .rem 3 H K) fun L=>W.ah (ai TE 45 G L) fun N=>W.ah (ag TE D 98 N) fun O=>W.bW (M.push D (.cells [(.int .i64 0),(.int .i64 0)] 98 none)) fun P=>W.aO (aB TE P 98 (ptrTo D.n) O) fun Q S=>W.jn (fun T=>W.ah (ae TE 98 (ptrTo s.n) 1) fun U=>W.ah (ag TE Q 3 U) fun V=>W.ah (an TE .eql 3 V (.int .i64 0)) fun X=>aX X
(W.ah (ae TE 98 (ptrTo D.n) 1) fun Y=>W.ah (ag TE Q 3 Y) fun Z=>W.ah (an TE .eql 3 Z (.int .i64 0)) fun a0=>T [a0] Q (min (min t E) S))
(T [(.bool false)] Q (min (min t E) S)))
(fun a1 a2 a3=>W.un a1 fun a4 a5=>aX a4
(W.ah (ae TE 87 (ptrTo m.n) 0) fun a6=>W.ah (ag TE a2 3 a6) fun a7=>W.ah (ag TE a2 98 (ptrTo s.n)) fun a8=>W.ah (ag TE a2 98 (ptrTo D.n)) fun a9=>W.ah (aW TE 113 [(0,a8),(1,a9)]) fun b0=>W.ah (ae TE 87 (ptrTo m.n) 4) fun b1=>W.ah (ag TE a2 3 b1) fun b2=>W.ah (ae TE 87 (ptrTo m.n) 5) fun b3=>W.ah (ag TE a2 3 b3) fun b4=>W.ah (aW TE 115 [(0,a7),(1,(.int .i64 (-1))),(2,b0),(3,b2),(4,b4)]) fun b5=>W.aO (aB TE a2 115 (ptrTo a.n) b5) fun b6 b7=>ah (ag TE b6 115 (ptrTo a.n)) fun b8=>R [b8,(.bool true)] b6 (min a3 b7))
(W.ah (an TE .add 3 w (.int .i64 1)) fun b9=>q [u,b9] a2 a3)))
(W.ah (aW TE 115 []) fun c0=>W.aO (aB TE s 115 (ptrTo a.n) c0) fun c1 c2=>ah (ag TE c1 115 (ptrTo a.n)) fun c3=>R [c3,(.bool false)] c1 (min t c2))) [(.bool false),(.int .i64 0)] f (min m.n g))):=by kernel_rfl
set_option maxRecDepth 100000 in
theorem F46{W:Words}{x0:Value}{m:M}{R:List Value->M->Nat->Prop}:dN TE W Tryz.f46 [x0] m R=
(W.bW (M.push m (.cells (cells x0) 87 none)) fun a=>W.ah (ag TE a 87 (ptrTo m.n)) fun b=>W.bB (.func 120) [b] a fun c d f=>W.ah (iO .not c) fun g=>aX g
(R [(.slice none 0 0)] d (min m.n f))
(W.bW (M.push d (.cells [(.slice none 0 0)] 102 none)) fun h=>W.ah (ae TE 87 (ptrTo m.n) 3) fun i=>W.ah (ag TE h 45 i) fun j=>W.aO (aq TE h .len [45] [j]) fun k _=>W.Lp (fun l n o p=>W.un n fun q r=>W.ah (an TE .lss 3 q k) fun s=>aX s
(W.aO (aE TE o 25 1 [(0,q)]) fun t u=>W.bB (.func 121) [t,(ptrTo d.n),(ptrTo m.n)] u fun v w y=>W.ah (an TE .add 3 q (.int .i64 1)) fun z=>l [z] w (min p y))
(W.aO (aE TE o 25 2 [(0,(.int .i64 (-1))),(1,(.int .i64 (-2)))]) fun A B=>W.bB (.func 121) [A,(ptrTo d.n),(ptrTo m.n)] B fun C D E=>W.ah (ag TE D 102 (ptrTo d.n)) fun F=>R [F] D (min p E))) [(.int .i64 0)] h (min m.n f))):=by kernel_rfl
set_option maxRecDepth 100000 in
theorem Tn{W:Words}{x0 x1 x2:Value}{m:M}{R:List Value->M->Nat->Prop}:dN TE W Tryz.f121 [x0,x1,x2] m R=
(W.aO (aq TE m .len [25] [x0]) fun a _=>W.Lp (fun b c d f=>W.un c fun g h=>W.ah (an TE .lss 3 g a) fun i=>aX i
(W.ah (ai TE 25 x0 g) fun j=>W.ah (ag TE d 3 j) fun k=>W.ah (ag TE d 102 x1) fun l=>W.ah (ae TE 87 x2 0) fun n=>W.ah (ag TE d 3 n) fun o=>W.ah (aW TE 107 [(0,o),(1,k)]) fun p=>W.aO (aE TE d 102 1 [(0,p)]) fun q r=>W.aO (aq TE (M.wl r r.n) .append [102,102] [l,q]) fun s t=>W.aO (aB TE t 102 x1 s) fun u v=>W.ah (an TE .add 3 g (.int .i64 1)) fun w=>b [w] u (min (min f (M.low t)) v))
(R [] d f)) [(.int .i64 0)] m m.n):=by kernel_rfl
set_option maxRecDepth 100000 in
theorem F47{W:Words}{x0:Value}{m:M}{R:List Value->M->Nat->Prop}:dN TE W Tryz.f47 [x0] m R=
(W.bW (M.push m (.cells (cells x0) 87 none)) fun a=>W.ah (ae TE 87 (ptrTo m.n) 3) fun b=>W.ah (ag TE a 45 b) fun c=>W.bB (.func 101) [c] a fun d f g=>(M.n a<=g)/\(W.ah (ag TE f 87 (ptrTo m.n)) fun h=>W.bB (.func 122) [h] f fun i j k=>W.ah (an TE .mul 3 d i) fun l=>R [l] j (min (min m.n g) k))):=by kernel_rfl
set_option maxRecDepth 100000 in
theorem Tm{W:Words}{x0:Value}{m:M}{R:List Value->M->Nat->Prop}:dN TE W Tryz.f122 [x0] m R=
(W.bW (M.push m (.cells (cells x0) 87 none)) fun a=>W.ah (ag TE a 87 (ptrTo m.n)) fun b=>W.bB (.func 120) [b] a fun c d f=>W.ah (iO .not c) fun g=>aX g
(R [(.int .i64 0)] d (min m.n f))
(W.ah (ae TE 87 (ptrTo m.n) 5) fun h=>W.ah (ag TE d 3 h) fun i=>W.ah (ae TE 87 (ptrTo m.n) 4) fun j=>W.ah (ag TE d 3 j) fun k=>W.ah (an TE .sub 3 i k) fun l=>R [l] d (min m.n f))):=by kernel_rfl
set_option maxRecDepth 100000 in
theorem Tl{W:Words}{x0:Value}{m:M}{R:List Value->M->Nat->Prop}:dN TE W Tryz.f123 [x0] m R=
(W.bW (M.push m (.cells (cells x0) 31 none)) fun a=>W.bW (M.push a (.cells [(.slice none 0 0)] 110 none)) fun b=>W.ah (ae TE 31 (ptrTo m.n) 0) fun c=>W.ah (ag TE b 29 c) fun d=>W.aO (aq TE b .len [29] [d]) fun f _=>W.Lp (fun g h i j=>W.un h fun k l=>W.ah (an TE .lss 3 k f) fun n=>aX n
(W.ah (ai TE 29 d k) fun o=>W.ah (ag TE i 87 o) fun p=>W.bW (M.push i (.cells [(.int .i64 0),(.int .i64 0),(.int .i64 0),(.slice none 0 0),(.int .i64 0),(.int .i64 0)] 87 none)) fun q=>W.aO (aB TE q 87 (ptrTo i.n) p) fun r s=>W.ah (ag TE r 87 (ptrTo i.n)) fun t=>W.bB (.func 181) [t] r fun u v w=>W.ah (cx u 0) fun y=>W.ah (cx u 1) fun z=>W.bW (M.push v (.cells [(.int .i64 0),(.int .i64 0),(.int .i64 0),(.int .i64 0),(.int .i64 0),(.int .i64 0),(.int .i64 0),(.int .i64 0)] 115 none)) fun A=>W.aO (aB TE A 115 (ptrTo v.n) y) fun B C=>aX z
(W.ah (ag TE B 110 (ptrTo a.n)) fun D=>W.ah (ag TE B 115 (ptrTo v.n)) fun E=>W.aO (aE TE B 110 1 [(0,E)]) fun F G=>W.aO (aq TE (M.wl G G.n) .append [110,110] [D,F]) fun H I=>W.aO (aB TE I 110 (ptrTo a.n) H) fun J K=>W.ah (an TE .add 3 k (.int .i64 1)) fun L=>g [L] J (min (min (min (min (min j s) w) C) (M.low I)) K))
(W.ah (an TE .add 3 k (.int .i64 1)) fun N=>g [N] B (min (min (min j s) w) C)))
(W.ah (ag TE i 31 (ptrTo m.n)) fun O=>W.bB (.func 128) [O] i fun P Q S=>ku P fun T U V=>W.RF T U.toList V.toList Q (min j S) (fun X Y Z=>W.un X fun a0 a1=>W.un a1 fun a2 a3=>W.vM a3 (W.bW (M.push Y (.cells [(.int .i64 0),(.int .i64 0),(.int .i64 0),(.slice none 0 0),(.int .i64 0),(.int .i64 0)] 87 none)) fun a4=>W.aO (aB TE a4 87 (ptrTo Y.n) a0) fun a5 a6=>W.bW (M.push a5 (.cells [(.int .i64 0),(.int .i64 0),(.int .i64 0),(.slice none 0 0),(.int .i64 0),(.int .i64 0)] 87 none)) fun a7=>W.aO (aB TE a7 87 (ptrTo a5.n) a2) fun a8 a9=>W.HA Q.n Y a8 fun b0=>W.ah (ag TE b0 87 (ptrTo Y.n)) fun b1=>W.ah (ag TE b0 87 (ptrTo a5.n)) fun b2=>W.bB (.func 182) [b1,b2] b0 fun b3 b4 b5=>W.ah (cx b3 0) fun b6=>W.ah (cx b3 1) fun b7=>W.bW (M.push b4 (.cells [(.int .i64 0),(.int .i64 0),(.int .i64 0),(.int .i64 0),(.int .i64 0),(.int .i64 0),(.int .i64 0),(.int .i64 0)] 115 none)) fun b8=>W.aO (aB TE b8 115 (ptrTo b4.n) b6) fun b9 c0=>aX b7
(W.ah (ag TE b9 110 (ptrTo a.n)) fun c1=>W.ah (ag TE b9 115 (ptrTo b4.n)) fun c2=>W.aO (aE TE b9 110 1 [(0,c2)]) fun c3 c4=>W.aO (aq TE (M.wl c4 c4.n) .append [110,110] [c1,c3]) fun c5 c6=>W.aO (aB TE c6 110 (ptrTo a.n) c5) fun c7 c8=>Z b0 .normal c7 (min (min (min (min (min (min (min Y.n a6) a9) Q.n) b5) c0) (M.low c6)) c8))
(Z b0 .normal b9 (min (min (min (min (min Y.n a6) a9) Q.n) b5) c0)))) (fun c9 d0=>W.ah (ag TE c9 110 (ptrTo a.n)) fun d1=>W.bB (.func 183) [d1,(.func (.func 184) #[] #[])] c9 fun d2 d3 d4=>W.ah (ag TE d3 110 (ptrTo a.n)) fun d5=>R [d5] d3 (min d0 d4)) [])) [(.int .i64 0)] b m.n):=by kernel_rfl
set_option maxRecDepth 100000 in
theorem F49{W:Words}{x0:Value}{m:M}{R:List Value->M->Nat->Prop}:dN TE W Tryz.f49 [x0] m R=
(W.bW (M.push m (.cells (cells x0) 31 none)) fun a=>W.ah (ag TE a 31 (ptrTo m.n)) fun b=>W.bB (.func 59) [b] a fun c d f=>W.ah (iO .not c) fun g=>aX g
(R [(.slice none 0 0)] d (min m.n f))
(W.ah (ag TE d 31 (ptrTo m.n)) fun h=>W.bB (.func 123) [h] d fun i j k=>R [i] j (min (min m.n f) k))):=by kernel_rfl
end Go.Proofs.YtmdfgncoekfgdaaGreatDoor
