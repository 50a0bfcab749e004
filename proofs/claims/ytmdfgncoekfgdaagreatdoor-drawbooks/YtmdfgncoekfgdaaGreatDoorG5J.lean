/- The program logic over D, its fourth part: the formula suffices. -/
import Derived.Test.YtmdfgncoekfgdaaGreatDoorG4J
namespace Go.D
open Go
section
variable {E:Env} {X:aF}
theorem Jv{br:Bool}{pt:Option (List (Bool×Nat))}{K:KT}{c P:Prop}{b:Nat}:QL br pt K c b P↔(br=true->c\/∃ts,pt=some ts/\jJ K b ts)/\P:=by
 cases br with
 |true=>
  cases pt with
  |none=>exact⟨fun h=>⟨fun _=> .inl h.1,h.2⟩,fun h=>⟨(h.1 rfl).elim id (fun⟨_,h,_⟩=>by cases h),h.2⟩⟩
  |some ts=>exact⟨fun h=>⟨fun _=>h.1.imp id (fun x=>⟨ts,rfl,x⟩),h.2⟩,fun h=>⟨(h.1 rfl).imp id (fun⟨_,h,x⟩=>by cases h;exact x),h.2⟩⟩
 |false=>exact⟨fun h=>⟨(fun e=>by cases e),h⟩,fun h=>h.2⟩
theorem Ju{br:Bool}{pt:Option (List (Bool×Nat))}{K:KT}{c P:Prop}{bo:Option Nat}{b:Nat}:QK br pt K c bo b P↔(br=true->c\/∃ts,pt=some ts/\jJ K b ts/\bo=some b)/\P:=by
 cases br with
 |true=>
  cases pt with
  |none=>exact⟨fun h=>⟨fun _=> .inl h.1,h.2⟩,fun h=>⟨(h.1 rfl).elim id (fun⟨_,h,_⟩=>by cases h),h.2⟩⟩
  |some ts=>exact⟨fun h=>⟨fun _=>h.1.imp id (fun x=>⟨ts,rfl,x.2,x.1⟩),h.2⟩,fun h=>⟨(h.1 rfl).imp id (fun⟨_,h,x⟩=>by cases h;exact⟨x.2,x.1⟩),h.2⟩⟩
 |false=>exact⟨fun h=>⟨(fun e=>by cases e),h⟩,fun h=>h.2⟩
theorem uG{c:Call}{K:KT}{T:Tr Value}{m:M}{args:List Value}{b:Nat}(hk:Kn K T)(hs:Ca c=true)(ha:wO K c.args.toList=some args)(hb:CX m args=some b):eI m T (.call c)=some b:=by
 unfold Ca at hs
 split at hs
 ·rename_i g x hc hx
  have hg:=Nat.eq_of_beq_eq_true hs
  rw[hx]at ha
  unfold wO at ha
  split at ha
  ·rename_i v hv
   have ha:some [v]=some args:=ha
   cases ha
   unfold CX at hb
   split at hb
   ·rename_i a he
    cases he
    unfold eI
    dsimp only
    rw[hc,hx]
    dsimp only
    rw[aS hk hv]
    have h2:Nat.beq g uk=true:=hs
    show(bif Nat.beq g uk && true && true then ny m a else none)=some b
    rw[h2]
    exact hb
   ·cases hb
  ·cases ha
 ·cases hs
def LI(ops:Array Oper)(j i:Nat)(o:Oper)(ts:List (Bool×Nat)):Prop:=
 (∃t,o.op=.alloc t)\/(∃t y,o.op=.box t y)\/(∃t s,o.op=.load t (.tmp s)/\uV ops j i s=true/\o.guard=none/\(true,s)∈ts)\/
  kT o.op=true\/∃s,lenOf o.op=some s/\uV ops j i s=true/\(false,s)∈ts
theorem LI.more{ops:Array Oper}{j i:Nat}{o:Oper}{ts:List (Bool×Nat)}{x:Bool×Nat}(h:LI ops j i o ts):LI ops j i o (x::ts):=by
 rcases h with h |h |⟨t,s,h1,h2,h3,h4⟩ |h |⟨s,h1,h2,h3⟩
 ·exact .inl h
 ·exact .inr (.inl h)
 ·exact .inr (.inr (.inl ⟨t,s,h1,h2,h3,List.mem_cons_of_mem _ h4⟩))
 ·exact .inr (.inr (.inr (.inl h)))
 ·exact .inr (.inr (.inr (.inr ⟨s,h1,h2,List.mem_cons_of_mem _ h3⟩)))
theorem eR{bf:Array Nat}{ops:Array Oper}{j:Nat}:∀(l:List (Oper×Nat)) (ts:List (Bool×Nat)),
  l.foldr (Hm bf ops j) (some [])=some ts->∀o i,(o,i)∈l->(i==j ||ed o.op ||(bf.getD j 0).testBit i ||(bf.getD i 0).testBit j)=true\/
    (Nat.blt i j=true/\LI ops j i o ts)
 |[],ts,_,o,i,hm=>by cases hm
 |(o',i')::l,ts,h,o,i,hm=>by
  rw[List.foldr_cons]at h
  unfold Hm at h
  dsimp only at h
  cases hc:(i'==j ||ed o'.op ||(bf.getD j 0).testBit i' ||(bf.getD i' 0).testBit j)with
  |true=>
   rw[hc]at h
   simp only[cond_true]at h
   rcases List.mem_cons.1 hm with e |hm
   ·cases e;exact .inl hc
   ·exact eR l ts h o i hm
  |false=>
   rw[hc]at h
   simp only[cond_false]at h
   cases hb:Nat.blt i' j with
   |false=>rw[hb]at h;cases h
   |true=>
    rw[hb]at h
    simp only[cond_true]at h
    split at h
    ·rename_i t hop
     rcases List.mem_cons.1 hm with e |hm
     ·cases e;exact .inr ⟨hb,.inl ⟨t,hop⟩⟩
     ·exact eR l ts h o i hm
    ·rename_i t y hop
     rcases List.mem_cons.1 hm with e |hm
     ·cases e;exact .inr ⟨hb,.inr (.inl ⟨t,y,hop⟩)⟩
     ·exact eR l ts h o i hm
    ·rename_i t s hop
     cases hs:(uV ops j i' s && o'.guard.isNone)with
     |false=>rw[hs]at h;cases h
     |true=>
      rw[hs]at h
      simp only[cond_true,Option.map_eq_some_iff]at h
      obtain⟨ts',h,rfl⟩:=h
      simp only[Bool.and_eq_true,Option.isNone_iff_eq_none]at hs
      rcases List.mem_cons.1 hm with e |hm
      ·cases e;exact .inr ⟨hb,.inr (.inr (.inl ⟨t,s,hop,hs.1,hs.2,List.mem_cons_self⟩))⟩
      ·exact(eR l ts' h o i hm).imp id (fun⟨q1,q2⟩=>⟨q1,q2.more⟩)
    ·cases hmm:kT o'.op with
     |true=>
      rw[hmm,cond_true]at h
      rcases List.mem_cons.1 hm with e |hm
      ·cases e;exact .inr ⟨hb,.inr (.inr (.inr (.inl hmm)))⟩
      ·exact eR l ts h o i hm
     |false=>
      rw[hmm,cond_false]at h
      split at h
      ·rename_i s hop
       cases hs:uV ops j i' s with
       |false=>rw[hs]at h;cases h
       |true=>
        rw[hs]at h
        simp only[cond_true,Option.map_eq_some_iff]at h
        obtain⟨ts',h,rfl⟩:=h
        rcases List.mem_cons.1 hm with e |hm
        ·cases e;exact .inr ⟨hb,.inr (.inr (.inr (.inr ⟨s,hop,hs,List.mem_cons_self⟩)))⟩
        ·exact(eR l ts' h o i hm).imp id (fun⟨q1,q2⟩=>⟨q1,q2.more⟩)
      ·cases h
theorem oB{K:KT}{b:Nat}:∀{ts:List (Bool×Nat)} {c:Bool} {t:Nat},jJ K b ts->(c,t)∈ts->bif c then dT (K.get t) b else nU (K.get t)
 |(c',t')::ts,c,t,h,hm=>by
  rcases List.mem_cons.1 hm with e |hm
  ·cases e;cases c' <;>exact h.1
  ·have h2:jJ K b ts:=by cases c' <;>exact h.2
   exact oB h2 hm
theorem Ee{ops:Array Oper}{j b:Nat}{K:KT}{T:Tr Value}{ts:List (Bool×Nat)}(h:AE ops j=some ts)(ha:jJ K b ts)(hk:Kn K T):kd ops j b T=true:=by
 unfold AE at h
 unfold kd
 refine List.all_eq_true.2 fun x hx=>?_
 obtain⟨o,i⟩:=x
 dsimp only
 rcases eR _ _ h o i hx with h1 |⟨h1,h2⟩
 ·rw[h1];rfl
 ·rcases h2 with⟨t,h2⟩ |⟨t,y,h2⟩ |⟨t,s,h2,h3,h4,h5⟩ |h2 |⟨s,h2,h3,h5⟩
  ·rw[h1,h2];simp
  ·rw[h1,h2];simp
  ·have h3:(ops.toList.zipIdx.all fun(q,k)=> !(Nat.ble i k && Nat.blt k j && q.dst==some s))=true:=h3
   have hav:dT (K.get s) b:=oB ha h5
   unfold dT at hav
   split at hav
   ·rename_i a hg
    have e:gR T s=.pointer (some a):=by simp only[gR,hk s _ hg,Option.getD_some,KV.val]
    have hne:(a.block==b)=false:=by simpa using hav
    rw[h1,h2]
    dsimp only
    rw[h3,h4,e]
    dsimp only
    rw[hne]
    simp
   ·exact hav.elim
  ·have:∃c,o.op=.call c:=by
    cases ho:o.op <;>rw[ho]at h2 <;>first |exact⟨_,rfl⟩ |cases h2
   obtain⟨c,hc⟩:=this
   rw[h1,hc]
   rw[hc]at h2
   dsimp only
   rw[h2]
   simp
  ·have:∃c,o.op=.call c:=by
    cases ho:o.op <;>rw[ho]at h2 <;>first |exact⟨_,rfl⟩ |cases h2
   obtain⟨c,hc⟩:=this
   have h3:(ops.toList.zipIdx.all fun(q,k)=> !(Nat.ble i k && Nat.blt k j && q.dst==some s))=true:=h3
   have hav:nU (K.get s):=oB ha h5
   rw[h1,hc]
   rw[hc]at h2
   dsimp only
   rw[h2]
   dsimp only
   rw[h3]
   have hnm:∀r,gR T s≠.map r:=by
    intro r hr
    unfold nU at hav
    cases hg:K.get s with
    |none=>rw[hg]at hav;exact hav.elim
    |some k=>
     have e2:gR T s=k.val:=by simp only[gR,hk s _ hg,Option.getD_some]
     rw[hg]at hav
     cases k with
     |u=>rw[hr]at e2;cases e2
     |v x=>
      rw[hr]at e2
      have e2:Value.map r=x:=e2
      subst e2
      exact hav.elim
   cases hq:gR T s <;>first |exact absurd hq (hnm _) |simp
theorem qD{o:Op}{br:Bool}{pt:Option (List (Bool×Nat))}{K:KT}{T:Tr Value}{m:M}{lo:Nat}{P:Value->M->Nat->Prop}{v:Value}{m1:M}{f:M->Option (Value×M)}
  (hop:∀n m,cJ o E (bV E X n) T m=f m) (hl:bj m f) (h1:f (m.wl m.n)=some (v,m1)) (hP:Lz br (m.n<=m1.low) (P v m1 (min lo m1.low))):Mt E X o br pt K T m lo P:=by
 obtain⟨hc,hP⟩:=rU.1 hP
 refine⟨v,m1,m1.low,hP,hl.FE _ h1,fun hb=> .inl (hc hb),0,fun n _ l hl'=>?_⟩
 rw[hop,hl.eq l hl',h1]
 rfl
theorem Dj{o:Op}{br:Bool}{pt:Option (List (Bool×Nat))}{K:KT}{T:Tr Value}{m:M}{lo:Nat}{P:Value->M->Nat->Prop}(h:R8 E (aN E X) o br pt K m lo P)(hk:Kn K T)(hlo:lo<=m.n):Mt E X o br pt K T m lo P:=by
 cases o <;>dsimp only[R8]at h
 case move x=>
  obtain⟨x',hx,h⟩:=aQ.1 h
  exact .bw hlo h fun n l=>by simp only[cJ,we,aS hk hx]
 case assign x=>
  obtain⟨x',hx,h⟩:=aQ.1 h
  exact .bw hlo h fun n l=>by simp only[cJ,we,aS hk hx]
 case pick c a b=>
  obtain⟨c',hc,h⟩:=aQ.1 h
  obtain⟨q,rfl,h⟩:=wK.1 h
  cases q with
  |true=>
   obtain⟨x',hx,h⟩:=aQ.1 h
   exact .bw hlo h fun n l=>by simp only[cJ,nP,aS hk hc,aS hk hx,cond_true]
  |false=>
   obtain⟨x',hx,h⟩:=aQ.1 h
   exact .bw hlo h fun n l=>by simp only[cJ,nP,aS hk hc,aS hk hx,cond_false]
 case alloc t=>
  obtain⟨z,hz,h⟩:=aQ.1 h
  exact .push hlo h (Nat.le_succ _) fun n l=>by simp only[cJ,oY,hz];rfl
 case box t x=>
  obtain⟨x',hx,h⟩:=aQ.1 h
  exact .push hlo h (Nat.le_succ _) fun n l=>by simp only[cJ,Hw,aS hk hx];rfl
 case build t ps=>
  obtain⟨ps',hp,h⟩:=aQ.1 h
  obtain⟨v,hv,h⟩:=aQ.1 h
  exact .bw hlo h fun n l=>by simp only[cJ,oX,nZ hk hp,hv]
 case buildSlice t k ps=>
  obtain⟨ps',hp,h⟩:=aQ.1 h
  obtain⟨v,m1,hv,h⟩:=jS.1 h
  exact .push hlo h (mi hv 0).2 fun n l=>by simp only[cJ,kS,nZ hk hp,(mi hv l).1]
 case insert t x k y=>
  obtain⟨x',hx,h⟩:=aQ.1 h
  obtain⟨k',hk',h⟩:=aQ.1 h
  obtain⟨y',hy,h⟩:=aQ.1 h
  obtain⟨m1,b,hv,hQ⟩:=jS.1 h
  obtain⟨hc,hP⟩:=rU.1 hQ
  unfold rN at hv
  split at hv
  ·rename_i r
   split at hv
   ·rename_i m2 hu
    cases hv
    refine⟨undef,m1,b,hP,by rw[(ia hu 0).2];exact Nat.le_refl _,fun hb=> .inl (hc hb),0,fun n _ l hl=>?_⟩
    simp only[cJ,dY,aS hk hx,aS hk hk',aS hk hy,(ia hu l).1]
   ·cases hv
  ·cases hv
 case load t a=>
  obtain⟨a',ha,h⟩:=aQ.1 h
  obtain⟨v,hv,hP⟩:=aQ.1 h
  unfold ag at hv
  split at hv
  ·exact .bw hlo hP fun n l=>by simp only[cJ,sQ,aS hk ha,tg,hv]
  ·cases hv
 case store t a x=>
  obtain⟨a',ha,h⟩:=aQ.1 h
  obtain⟨x',hx,h⟩:=aQ.1 h
  obtain⟨m1,b,hv,hQ⟩:=jS.1 h
  obtain⟨hc,hP⟩:=Jv.1 hQ
  unfold aB at hv
  split at hv
  ·rename_i ad _
   split at hv
   ·rename_i m2 hu
    cases hv
    refine⟨undef,m1,ad.block,hP,by rw[(qH hu 0).2];exact Nat.le_refl _,fun hb=>(hc hb).imp id (fun⟨ts,h1,h2⟩=>⟨ts,h1,h2,by simp only[eI,aS hk ha]⟩),0,fun n _ l hl=>?_⟩
    simp only[cJ,kQ,aS hk ha,aS hk hx,(qH hu l).1]
   ·cases hv
  ·cases hv
 case nilCheck x=>
  obtain⟨x',hx,h⟩:=aQ.1 h
  obtain⟨v,hv,h⟩:=aQ.1 h
  unfold wj at hv
  split at hv
  ·cases hv;exact .bw hlo h fun n l=>by simp only[cJ,fI,aS hk hx]
  ·cases hv;exact .bw hlo h fun n l=>by simp only[cJ,fI,aS hk hx]
  ·cases hv
 case binOp op t x y _=>
  obtain⟨x',hx,h⟩:=aQ.1 h
  obtain⟨y',hy,h⟩:=aQ.1 h
  obtain⟨v,hv,h⟩:=aQ.1 h
  exact .bw hlo h fun n l=>by simp only[cJ,yX,aS hk hx,aS hk hy,hv]
 case unOp op t x=>
  obtain⟨x',hx,h⟩:=aQ.1 h
  obtain⟨v,hv,h⟩:=aQ.1 h
  exact .bw hlo h fun n l=>by simp only[cJ,Hv,aS hk hx,hv]
 case convert s d x=>
  obtain⟨x',hx,h⟩:=aQ.1 h
  obtain⟨v,hv,h⟩:=aQ.1 h
  exact .bw hlo h fun n l=>by simp only[cJ,AJ,aS hk hx,Ou,hv]
 case makeFunc f a b=>
  obtain⟨a',ha,h⟩:=aQ.1 h
  obtain⟨b',hb,h⟩:=aQ.1 h
  split at h
  ·exact .bw hlo h fun n l=>by simp only[cJ,gJ,jD hk ha,jD hk hb]
  ·exact h.elim
 case makeMap t r=>
  cases r with
  |none=>exact .push (m1:=m.push (.map [] 0)) hlo h (Nat.le_succ _) fun n l=>by simp only[cJ,mI];rfl
  |some r=>exact h.elim
 case makeSlice t x y=>
  obtain⟨x',hx,h⟩:=aQ.1 h
  obtain⟨y',hy,h⟩:=aQ.1 h
  obtain⟨v,m1,hv,h⟩:=jS.1 h
  exact .push hlo h (nh hv 0).2 fun n l=>by simp only[cJ,qL,aS hk hx,aS hk hy,(nh hv l).1]
 case slice t x a b c=>
  obtain⟨x',hx,h⟩:=aQ.1 h
  obtain⟨a',ha,h⟩:=aQ.1 h
  obtain⟨b',hb,h⟩:=aQ.1 h
  obtain⟨c',hc,h⟩:=aQ.1 h
  obtain⟨v,hv,h⟩:=aQ.1 h
  exact .bw hlo h fun n l=>by simp only[cJ,vZ,aS hk hx,qw hk ha,qw hk hb,qw hk hc,DU,hv]
 case fieldAddr s x f=>
  obtain⟨x',hx,h⟩:=aQ.1 h
  obtain⟨v,hv,h⟩:=aQ.1 h
  exact .bw hlo h fun n l=>by simp only[cJ,im,aS hk hx,hv]
 case field t x f=>
  obtain⟨x',hx,h⟩:=aQ.1 h
  obtain⟨v,hv,h⟩:=aQ.1 h
  exact .bw hlo h fun n l=>by simp only[cJ,oW,aS hk hx,hv]
 case indexAddr t x i=>
  obtain⟨x',hx,h⟩:=aQ.1 h
  obtain⟨i',hi,h⟩:=aQ.1 h
  obtain⟨v,hv,h⟩:=aQ.1 h
  exact .bw hlo h fun n l=>by simp only[cJ,il,aS hk hx,aS hk hi,hv]
 case index t x i=>
  obtain⟨x',hx,h⟩:=aQ.1 h
  obtain⟨i',hi,h⟩:=aQ.1 h
  obtain⟨v,hv,h⟩:=aQ.1 h
  exact .bw hlo h fun n l=>by simp only[cJ,oV,aS hk hx,aS hk hi,hv]
 case lookup t x i ok=>
  obtain⟨x',hx,h⟩:=aQ.1 h
  obtain⟨i',hi,h⟩:=aQ.1 h
  obtain⟨v,hv,h⟩:=aQ.1 h
  exact .bw hlo h fun n l=>by simp only[cJ,sP,aS hk hx,aS hk hi,AQ,hv]
 case mapUpdate t x k y=>
  obtain⟨x',hx,h⟩:=aQ.1 h
  obtain⟨k',hk',h⟩:=aQ.1 h
  obtain⟨y',hy,h⟩:=aQ.1 h
  obtain⟨m1,b,hv,hQ⟩:=jS.1 h
  obtain⟨hc,hP⟩:=rU.1 hQ
  unfold rN at hv
  split at hv
  ·rename_i r
   split at hv
   ·rename_i m2 hu
    cases hv
    refine⟨undef,m1,b,hP,by rw[(ia hu 0).2];exact Nat.le_refl _,fun hb=> .inl (hc hb),0,fun n _ l hl=>?_⟩
    simp only[cJ,dY,aS hk hx,aS hk hk',aS hk hy,(ia hu l).1]
   ·cases hv
  ·cases hv
 case mapEntry t x k=>
  obtain⟨x',hx,h⟩:=aQ.1 h
  obtain⟨k',hk',h⟩:=aQ.1 h
  obtain⟨v,m1,hv,h⟩:=jS.1 h
  exact qD (f:=fun m=>dw E m t x' k') (fun n m=>by simp only[cJ,nQ,aS hk hx,aS hk hk']) uA hv h
 case entryStore t x s y=>
  obtain⟨x',hx,h⟩:=aQ.1 h
  obtain⟨s',hs',h⟩:=aQ.1 h
  obtain⟨y',hy,h⟩:=aQ.1 h
  obtain⟨m1,hv,h⟩:=aQ.1 h
  refine qD (v:=undef) (m1:=m1) (f:=fun m=>(cz m x' s' y').map fun m=>(undef,m)) (fun n m=>?_) rz (by rw[hv];rfl) h
  simp only[cJ,iU,aS hk hx,aS hk hs',aS hk hy]
  cases cz m x' s' y' <;>rfl
 case extract x i=>
  obtain⟨x',hx,h⟩:=aQ.1 h
  obtain⟨v,hv,hP⟩:=aQ.1 h
  unfold cx at hv
  split at hv
  ·exact .bw hlo hP fun n l=>by simp only[cJ,jg,aS hk hx,hv]
  ·cases hv
 case call c=>
  split at h
  ·rename_i f hf
   obtain⟨f',h1,h⟩:=aQ.1 h
   obtain⟨g,fi,ca,rfl,h⟩:=yY.1 h
   obtain⟨args,h2,v,m1,b,⟨hnle,_,n0,hc⟩,h⟩:=aQ.1 h
   have hh:(br=true->m.n<=b\/∃ts,pt=some ts/\jJ K b ts/\eI m T (.call c)=some b)/\P v m1 (min lo b):=by
    cases hs:Ca c with
    |false=>
     rw[hs,cond_false]at h
     obtain⟨hbr,hP⟩:=rU.1 h
     exact⟨fun hb=> .inl (hbr hb),hP⟩
    |true=>
     rw[hs,cond_true]at h
     obtain⟨hbr,hP⟩:=Ju.1 h
     refine⟨fun hb=>(hbr hb).imp id fun⟨ts,x1,x2,x3⟩=>⟨ts,x1,x2,?_⟩,hP⟩
     have hz:CX m args=some b:=x3
     exact uG hk hs h2 hz
   obtain⟨hbr,hP⟩:=hh
   refine⟨v,m1,b,hP,hnle,hbr,n0,fun n hn l hl=>?_⟩
   simp only[cJ,kR,hf,aS hk h1,jD hk h2,hc n hn l hl]
  ·rename_i b hb
   obtain⟨args,h2,h⟩:=aQ.1 h
   have hop:∀n m,cJ (.call c) E (bV E X n) T m=aq E m b c.argTypes.toList args:=fun n m=>by simp only[cJ,kR,hb,jD hk h2]
   have bw:(b=.len\/b=.cap\/b=.min\/b=.max)->(aO (aq E m b c.argTypes.toList args) fun v _=>P v m lo)->Mt E X (.call c) br pt K T m lo P:=fun hbk h=>by
    obtain⟨v,m1,hv,h⟩:=jS.1 h
    exact .bw hlo h fun n l=>by rw[hop];exact uE hbk hv l
   have gen:(aO (aq E (m.wl m.n) b c.argTypes.toList args) fun v m1=>Lz br (m.n<=m1.low) (P v m1 (min lo m1.low)))->Mt E X (.call c) br pt K T m lo P:=fun h=>by
    obtain⟨v,m1,hv,h⟩:=jS.1 h
    exact qD hop xA hv h
   unfold PA at h
   split at h
   ·exact bw (.inl rfl) h
   ·exact bw (.inr (.inl rfl)) h
   ·exact bw (.inr (.inr (.inl rfl))) h
   ·exact bw (.inr (.inr (.inr rfl))) h
   ·exact gen h
  ·exact h.elim
 all_goals exact h.elim
theorem rG{ops:Array Oper}{T:Tr Value}{o:Oper}{b:Bool}(h:cg ops T o=b){m:M}:cg ops (Fr.T ⟨T,m⟩) o=b:=h
theorem xO{ops:Array Oper}{K:KT}{T:Tr Value}{o:Oper}{P S:KT->Prop}(h:FK ops K o P S)(hk:Kn K T):∃K',Kn K' T/\((cg ops T o=true/\P K')\/(cg ops T o=false/\S K')):=by
 unfold FK at h
 unfold cg
 split at h
 ·rename_i hg
  rw[hg];exact⟨K,hk,.inl ⟨rfl,h⟩⟩
 ·rename_i j want hg
  rw[hg]
  dsimp only
  split at h
  ·rename_i d hd
   rw[hd]
   dsimp only
   split at h
   ·rename_i v hv
    obtain⟨b,rfl,h⟩:=wK.1 h
    have e:gR T d=.bool b:=by simp only[gR,hk d _ hv,Option.getD_some,KV.val]
    rw[e]
    have hk':=hk.again hv
    cases b with
    |true=>
     cases want with
     |true=>exact⟨_,hk',.inl ⟨rfl,h⟩⟩
     |false=>exact⟨_,hk',.inr ⟨rfl,h⟩⟩
    |false=>
     cases want with
     |true=>exact⟨_,hk',.inr ⟨rfl,h⟩⟩
     |false=>exact⟨_,hk',.inl ⟨rfl,h⟩⟩
   ·rename_i hv
    have e:gR T d=undef:=by simp only[gR,hk d _ hv,Option.getD_some,KV.val]
    rw[e]
    exact⟨K,hk,.inr ⟨rfl,h⟩⟩
   ·exact h.elim
  ·rename_i hd
   rw[hd]
   exact⟨K,hk,.inr ⟨rfl,h⟩⟩
theorem nA{d:Bool}{ops:Array Oper}:∀(l:List Oper) (j:Nat) (s:St) (P:St->Prop),FL E (aN E X) d ops l j s P->∀T,Kn s.K T->s.lo<=s.m.n->
  ∃s' T',P s'/\Kn s'.K T'/\s.m.n<=s'.m.n/\s'.lo<=s'.m.n/\∃n0,∀n,n0<=n->
   (bif d then eY E (bV E X n) ops l j ⟨T,s.m.wl s.lo⟩else uw E (bV E X n) ops l ⟨T,s.m.wl s.lo⟩)=some ⟨T',s'.m.wl s'.lo⟩
 |[],j,s,P,h,T,hk,hlo=>⟨s,T,h,hk,Nat.le_refl _,hlo,0,fun n _=>by cases d <;>rfl⟩
 |o::rest,j,s,P,h,T,hk,hlo=>by
  unfold FL at h
  obtain⟨K1,hk,⟨hw,h⟩ |⟨hw,h⟩⟩:=xO h hk
  ·obtain⟨v,m1,w,hrest,hnle,hbr,n1,hop⟩:=Dj h hk hlo
   obtain⟨s',T',hP,hk',hnle',hlo',n2,hr⟩:=nA rest (j+1) _ P hrest (put T o.dst v) (hk.put _ (.v v)) (by show min s.lo w<=m1.n;omega)
   dsimp only at hnle' hr
   refine⟨s',T',hP,hk',by omega,hlo',max n1 n2,fun n hn=>?_⟩
   have e2:=hr n (by omega)
   cases d with
   |false=>
    rw[cond_false]at e2⊢
    rw[kr,rG hw]
    dsimp only[cond_true]
    rw[hop n (by omega) s.lo hlo]
    exact e2
   |true=>
    rw[cond_true]at e2⊢
    rw[eX,rG hw]
    dsimp only[cond_true]
    have e1':cJ o.op E (bV E X n) T {s.m.wl s.lo with low:=(s.m.wl s.lo).n}=some (v,m1.wl (min s.m.n w)):=hop n (by omega) s.m.n (Nat.le_refl _)
    rw[e1']
    dsimp only
    have hcond:(Nat.ble (s.m.wl s.lo).n (m1.wl (min s.m.n w)).low ||(dC ops j ||sE ops j (s.m.wl s.lo) T o.op))=true:=by
     cases hb:dC ops j with
     |true=>rw[Bool.true_or,Bool.or_true]
     |false=>
      rcases hbr (by rw[hb];rfl)with this |⟨ts,h1,h2,h3⟩
      ·have:Nat.ble (s.m.wl s.lo).n (m1.wl (min s.m.n w)).low=true:=Nat.ble_eq_true_of_le (by show s.m.n<=min s.m.n w;omega)
       rw[this];rfl
      ·rw[hb]at h1
       have:sE ops j (s.m.wl s.lo) T o.op=true:=by
        unfold sE
        have h3:eI (s.m.wl s.lo) T o.op=some w:=h3
        rw[h3]
        exact Ee h1 h2 hk
       rw[this]
       simp
    rw[hcond]
    have e3:m1.wl (min s.lo w)={m1.wl (min s.m.n w)with low:=min (s.m.wl s.lo).low (m1.wl (min s.m.n w)).low}:=by
     show m1.wl (min s.lo w)=m1.wl (min s.lo (min s.m.n w))
     congr 1
     omega
    rw[e3]at e2
    exact e2
  ·obtain⟨s',T',hP,hk',hnle',hlo',n2,hr⟩:=nA rest (j+1) _ P h (put T o.dst undef) (hk.put _ .u) hlo
   refine⟨s',T',hP,hk',hnle',hlo',n2,fun n hn=>?_⟩
   have e2:=hr n hn
   cases d with
   |false=>
    rw[cond_false]at e2⊢
    rw[kr,rG hw]
    exact e2
   |true=>
    rw[cond_true]at e2⊢
    rw[eX,rG hw]
    exact e2
theorem V.mono{c:Code}{s:St}{Q R:Ex->St->Prop}(h:V E X c s Q)(hq:∀e s,Q e s->R e s):V E X c s R:=fun T hk hlo=>by
 obtain⟨e,s',T',h1,h2⟩:=h T hk hlo
 exact⟨e,s',T',hq _ _ h1,h2⟩
theorem V.seq{a b:Code}{s:St}{Q:Ex->St->Prop}(h:V E X a s fun e s=>e.Md (V E X b s Q) (Q e s)):V E X (.seq a b) s Q:=fun T hk hlo=>by
 obtain⟨e,s1,T1,h1,hk1,hn1,hlo1,n1,hr1⟩:=h T hk hlo
 cases e with
 |normal=>
  obtain⟨e,s2,T2,h2,hk2,hn2,hlo2,n2,hr2⟩:=h1 T1 hk1 hlo1
  exact⟨e,s2,T2,h2,hk2,by omega,hlo2,max n1 n2,fun n hn=>by simp only[bh,hr1 n (by omega),hr2 n (by omega)]⟩
 |exit id=>exact⟨_,s1,T1,h1,hk1,hn1,hlo1,n1,fun n hn=>by simp only[bh,hr1 n hn]⟩
 |ret=>exact⟨_,s1,T1,h1,hk1,hn1,hlo1,n1,fun n hn=>by simp only[bh,hr1 n hn]⟩
theorem V.PW{c:Code}{s:St}{Q:Ex->St->Prop}{γ:Type}(μ:γ->Nat)(A:γ->Tr Value->M->Nat->Prop)(g0:γ)
  (h0:∀T,Kn s.K T->A g0 T s.m s.lo)
  (hstep:∀g T m lo,A g T m lo->lo<=m.n->∃e s' T',(e.Md (∃g',μ g' < μ g/\A g' T' s'.m s'.lo) (Q e s'))/\Kn s'.K T'/\m.n<=s'.m.n/\s'.lo<=s'.m.n/\∃n0,∀n,n0<=n->
   bh E (bV E X n) n c ⟨T,m.wl lo⟩=some (e,⟨T',s'.m.wl s'.lo⟩)):
  V E X (.loop c) s Q:=by
 have key:∀k g,μ g<=k->∀T m lo,A g T m lo->lo<=m.n->∃e s' T',Q e s'/\Kn s'.K T'/\m.n<=s'.m.n/\s'.lo<=s'.m.n/\∃n0,∀n,n0<=n->∀j,k+1<=j->
   iv (bh E (bV E X n) n c) j ⟨T,m.wl lo⟩=some (e,⟨T',s'.m.wl s'.lo⟩):=by
  intro k
  induction k with
  |zero=>
   intro g hg T m lo hA hlo
   obtain⟨e,s1,T1,hQ,hk1,hn1,hlo1,n1,hr⟩:=hstep g T m lo hA hlo
   cases e with
   |normal=>obtain⟨g',hlt,_⟩:=hQ;omega
   |exit id=>exact⟨_,s1,T1,hQ,hk1,hn1,hlo1,n1,fun n hn j hj=>by
     obtain⟨j,rfl⟩:∃j',j=j'+1:=⟨j-1,by omega⟩
     simp only[iv,hr n hn]⟩
   |ret=>exact⟨_,s1,T1,hQ,hk1,hn1,hlo1,n1,fun n hn j hj=>by
     obtain⟨j,rfl⟩:∃j',j=j'+1:=⟨j-1,by omega⟩
     simp only[iv,hr n hn]⟩
  |succ k ih=>
   intro g hg T m lo hA hlo
   obtain⟨e,s1,T1,hQ,hk1,hn1,hlo1,n1,hr⟩:=hstep g T m lo hA hlo
   cases e with
   |normal=>
    obtain⟨g',hlt,hA'⟩:=hQ
    obtain⟨e,s2,T2,hQ2,hk2,hn2,hlo2,n2,hr2⟩:=ih g' (by omega) T1 s1.m s1.lo hA' hlo1
    refine⟨e,s2,T2,hQ2,hk2,Nat.le_trans hn1 hn2,hlo2,max n1 n2,fun n hn j hj=>?_⟩
    obtain⟨j,rfl⟩:∃j',j=j'+1:=⟨j-1,by omega⟩
    simp only[iv,hr n (by omega),hr2 n (by omega) j (by omega)]
   |exit id=>exact⟨_,s1,T1,hQ,hk1,hn1,hlo1,n1,fun n hn j hj=>by
     obtain⟨j,rfl⟩:∃j',j=j'+1:=⟨j-1,by omega⟩
     simp only[iv,hr n hn]⟩
   |ret=>exact⟨_,s1,T1,hQ,hk1,hn1,hlo1,n1,fun n hn j hj=>by
     obtain⟨j,rfl⟩:∃j',j=j'+1:=⟨j-1,by omega⟩
     simp only[iv,hr n hn]⟩
 intro T hk hlo
 obtain⟨e,s',T',hQ,hk',hn,hlo',n0,hr⟩:=key (μ g0) g0 (Nat.le_refl _) T s.m s.lo (h0 T hk) hlo
 exact⟨e,s',T',hQ,hk',hn,hlo',max n0 (μ g0+1),fun n hn=>by simp only[bh,hr n (by omega) n (by omega)]⟩
theorem mE(T:Tr Value)(dst:Option Tmp)(v:Value)(t:Nat)(h:∀d,dst=some d->d≠t):(put T dst v).get t=T.get t:=by
 cases dst with
 |none=>rfl
 |some d=>simp only[put,Tr.bH];rw[if_neg (fun e=>h d rfl e.symm)]
theorem nO{call:aF}{ops:Array Oper}{t:Nat}:∀(l:List Oper) (fr fr':Fr),uw E call ops l fr=some fr'->(∀o∈l,∀d,o.dst=some d->d≠t)->fr'.T.get t=fr.T.get t
 |[],fr,fr',h,_=>by cases h;rfl
 |o::rest,fr,fr',h,hd=>by
  have hr:=fun o' ho'=>hd o' (List.mem_cons_of_mem _ ho')
  have h0:=hd o List.mem_cons_self
  rw[kr]at h
  cases hw:cg ops fr.T o with
  |true=>
   rw[hw,cond_true]at h
   split at h
   ·rw[nO rest _ _ h hr];exact mE _ _ _ _ h0
   ·cases h
  |false=>
   rw[hw,cond_false]at h
   rw[nO rest _ _ h hr];exact mE _ _ _ _ h0
theorem mb{call:aF}{ops:Array Oper}{t:Nat}:∀(l:List Oper) (j:Nat) (fr fr':Fr),eY E call ops l j fr=some fr'->(∀o∈l,∀d,o.dst=some d->d≠t)->fr'.T.get t=fr.T.get t
 |[],j,fr,fr',h,_=>by cases h;rfl
 |o::rest,j,fr,fr',h,hd=>by
  have hr:=fun o' ho'=>hd o' (List.mem_cons_of_mem _ ho')
  have h0:=hd o List.mem_cons_self
  rw[eX]at h
  cases hw:cg ops fr.T o with
  |true=>
   rw[hw,cond_true]at h
   split at h
   ·rename_i v m _
    cases hb:(Nat.ble fr.m.n m.low ||(dC ops j ||sE ops j fr.m fr.T o.op))with
    |true=>
     rw[hb,cond_true]at h
     rw[mb rest _ _ _ h hr];exact mE _ _ _ _ h0
    |false=>rw[hb,cond_false]at h;cases h
   ·cases h
  |false=>
   rw[hw,cond_false]at h
   rw[mb rest _ _ _ h hr];exact mE _ _ _ _ h0
theorem qM{body:Fr->Option (Ex×Fr)}{t:Nat}(hb:∀fr e fr',body fr=some (e,fr')->fr'.T.get t=fr.T.get t):∀(n:Nat) (fr:Fr) (e:Ex) (fr':Fr),iv body n fr=some (e,fr')->fr'.T.get t=fr.T.get t
 |0,_,_,_,h=>by cases h
 |n+1,fr,e,fr',h=>by
  unfold iv at h
  split at h
  ·rename_i fr1 h1
   rw[qM hb n _ _ _ h,hb _ _ _ h1]
  ·exact hb _ _ _ h
theorem dh{call:aF}{n t:Nat}:∀(c:Code) (fr:Fr) (e:Ex) (fr':Fr),bh E call n c fr=some (e,fr')->t∉assigned c->fr'.T.get t=fr.T.get t
 |.skip,fr,e,fr',h,_=>by cases h;rfl
 |.label _,fr,e,fr',h,_=>by cases h;rfl
 |.exit id,fr,e,fr',h,_=>by cases h;rfl
 |.ret,fr,e,fr',h,_=>by cases h;rfl
 |.goto _,fr,e,fr',h,_=>by cases h
 |.refuse _,fr,e,fr',h,_=>by cases h
 |.scope c,fr,e,fr',h,ht=>by
  simp only[bh]at h
  exact dh c _ _ _ h ht
 |.region id ops d,fr,e,fr',h,ht=>by
  have hd:∀o∈ops.toList,∀d,o.dst=some d->d≠t:=fun o ho d hd he=>ht (List.mem_filterMap.2 ⟨o,ho,by rw[hd,he]⟩)
  cases d with
  |true=>
   simp only[bh,cond_true]at h
   cases hq:eY E call ops ops.toList 0 fr with
   |none=>rw[hq]at h;cases h
   |some fr1=>rw[hq]at h;cases h;exact mb _ _ _ _ hq hd
  |false=>
   simp only[bh,cond_false]at h
   cases hq:uw E call ops ops.toList fr with
   |none=>rw[hq]at h;cases h
   |some fr1=>rw[hq]at h;cases h;exact nO _ _ _ hq hd
 |.seq a b,fr,e,fr',h,ht=>by
  simp only[assigned,List.mem_append,not_or]at ht
  simp only[bh]at h
  split at h
  ·rename_i fr1 h1
   rw[dh b _ _ _ h ht.2,dh a _ _ _ h1 ht.1]
  ·exact dh a _ _ _ h ht.1
 |.cond c x y,fr,e,fr',h,ht=>by
  simp only[assigned,List.mem_append,not_or]at ht
  simp only[bh]at h
  split at h
  ·rename_i b _
   cases b with
   |true=>exact dh x _ _ _ h ht.1
   |false=>exact dh y _ _ _ h ht.2
  ·cases h
 |.block id c,fr,e,fr',h,ht=>by
  simp only[bh]at h
  split at h
  ·rename_i id' fr1 h1
   have:=dh c _ _ _ h1 ht
   cases hb:Nat.beq id' id with
   |true=>rw[hb]at h;cases h;exact this
   |false=>rw[hb]at h;cases h;exact this
  ·exact dh c _ _ _ h ht
 |.loop c,fr,e,fr',h,ht=>by
  simp only[bh]at h
  exact qM (fun fr e fr' h=>dh c fr e fr' h ht) _ _ _ _ h
 |.rangeFunc g ps a b,fr,e,fr',h,ht=>by
  simp only[bh]at h
  split at h
  ·split at h
   ·split at h
    ·split at h
     ·cases h
     ·cases h;rfl
    ·cases h
   ·cases h
  ·cases h
theorem jC:∀(ts:List Nat) (K:KT) {t:Nat} {k:KV},(forget K ts).get t=some k->t∉ts/\K.get t=some k
 |[],K,t,k,h=>⟨by simp,h⟩
 |a::ts,K,t,k,h=>by
  obtain⟨h1,h2⟩:=jC ts (K.del a) h
  rw[KT.Le]at h2
  split at h2
  ·cases h2
  ·rename_i hne
   exact⟨by simp only[List.mem_cons,not_or];exact⟨hne,h1⟩,h2⟩
end
end Go.D
namespace Go.D
open Go
section
variable {E:Env} {X:aF}
def TV(T:Tr Value):List Nat->List Value->Prop
 |[],_=>True
 |t::ts,vs=>match vs with
  |v::r=>T.get t=some v/\TV T ts r
  |[]=>False
theorem oz{T:Tr Value}:∀(ts:List Nat) (vs:List Value) (K:KT) (f:KT->Prop),Kn K T->TV T ts vs->zX (aN E X) ts vs K f->∃K',Kn K' T/\f K'
 |[],_,K,f,hk,_,h=>⟨K,hk,h⟩
 |t::ts,vs,K,f,hk,hv,h=>by
  unfold zX at h
  obtain⟨v,r,rfl,h⟩:=FQ.1 h
  exact oz ts r _ f (hk.set hv.1) hv.2 h
theorem mr{K:KT}{T:Tr Value}(hk:Kn K T):∀(ts:List Nat) (vs:List Value),pR K ts=some vs->TV T ts vs
 |[],_,_=>trivial
 |t::ts,vs,h=>by
  unfold pR at h
  split at h
  ·rename_i v hv
   split at h
   ·rename_i vs' hvs
    cases h
    exact⟨hk _ _ hv,mr hk ts vs' hvs⟩
   ·cases h
  ·cases h
theorem uT{T:Tr Value}:∀(ps:List Tmp) (args:List Value) (K:KT) (f:KT->Prop) (T:Tr Value),Kn K T->CY (aN E X) ps args K f->args.length=ps.length/\∃K1,Kn K1 (qb T (ps.zip args))/\f K1
 |[],args,K,f,T,hk,h=>by
  cases args with
  |nil=>exact⟨rfl,K,hk,h⟩
  |cons v r=>exact(h:False).elim
 |p::ps,args,K,f,T,hk,h=>by
  obtain⟨v,r,rfl,h⟩:=FQ.1 h
  obtain⟨h1,h2⟩:=uT (T:=T) ps r _ f (T.set p v) (hk.put (some p) (.v v)) h
  exact⟨by simp[h1],h2⟩
theorem V.rangeFunc{gv:Operand}{ps:Array Tmp}{a b:Code}{s:St}{Q:Ex->St->Prop}{rda rdb:List Nat}{gf:Fn}{fi ca:Array Value}(ha:∀s Q,uj E (aN E X) a rda s Q->V E X a s Q)(hb:∀s Q,uj E (aN E X) b rdb s Q->V E X b s Q)
  (hf:jM s.K gv=some (.func gf fi ca))
  (h:RF E X gf fi.toList ca.toList s.m s.lo
   (fun args m1 Qb=>CY (aN E X) ps.toList args s.K fun K1=>uj E (aN E X) a rda ⟨K1,m1,m1.n⟩ fun e s1=>e.Md (HA s.m.n m1 s1.m fun m2=>uj E (aN E X) b rdb ⟨s1.K,m2,min s1.lo s.m.n⟩ fun e2 s2=>Qb m2 e2 s2.m s2.lo) False)
   (fun m lo=>Q .normal ⟨s.K,m,lo⟩) ((leaves b).map fun e=>(e,fun m lo=>Q e ⟨s.K,m,lo⟩))):V E X (.rangeFunc gv ps a b) s Q:=fun T hk hlo=>by
 obtain⟨fr,xs,Dt,I,J,B,⟨fk,rfl⟩,hG,hB,hD,hI,hJ,h0,hstep,hdone,hstop⟩:=h
 have hy:(s.m.push (.loop ⟨T,ps,a,b,.ready,none,E.G⟩)).get s.m.n=.loop ⟨T,ps,a,b,.ready,none,E.G⟩:=by rw[M.eC,if_pos rfl]
 have hpush:Ky s.m.n s.m (s.m.push (.loop ⟨T,ps,a,b,.ready,none,E.G⟩)):=⟨Nat.le_succ _,fun c hc _=>by rw[M.eC,if_neg (by omega)]⟩
 have hsetKy:∀(m:M) (r:uh),s.m.n < m.n->Ky s.m.n m (m.set s.m.n (.loop r)):=fun m r hm=>⟨Nat.le_refl _,fun c _ hne=>by rw[M.bH _ _ _ _ hm,if_neg hne]⟩
 obtain⟨vG,mG,bG,hCl,hBG,hend⟩:=hG s.m.n (s.m.n+1) B (fun i m=>I i m/\m.get s.m.n=.loop ⟨T,ps,a,b,.ready,none,E.G⟩)
  (fun m=>∃e:Ex,e≠Ex.normal/\J e m/\m.get s.m.n=.loop ⟨T,ps,a,b,.done,some e,E.G⟩) (s.m.push (.loop ⟨T,ps,a,b,.ready,none,E.G⟩))
  (fun i m1 h=>hD i m1 h.1)
  (fun i m1 m2 h he=>⟨hI i m1 m2 h.1 ⟨he.n,fun c hc _=>he.get c hc⟩,by rw[he.get _ (M.jB (by rw[h.2];simp)),h.2]⟩)
  (fun m1 m2 ⟨e,h1,h2,h3⟩ he=>⟨e,h1,hJ e m1 m2 h2 ⟨he.n,fun c hc _=>he.get c hc⟩,by rw[he.get _ (M.jB (by rw[h3];simp)),h3]⟩)
  (Nat.lt_succ_self _) (Nat.le_refl _) (by omega)
  (fun i args mm hmm hx ⟨hi,hrec⟩=>by
   obtain⟨hlen,K1,hk1,hv⟩:=uT (T:=T) _ _ _ _ T hk (hstep i args mm hmm hx hi)
   obtain⟨e1,s1,T1,hq1,hkn1,hn1,hlo1,n1,hr1⟩:=ha _ _ hv _ hk1 (Nat.le_refl _)
   cases e1 with
   |exit id=>exact hq1.elim
   |ret=>exact hq1.elim
   |normal=>
    obtain⟨hsame,hP⟩:=hq1
    have hrec1:s1.m.get s.m.n=.loop ⟨T,ps,a,b,.ready,none,E.G⟩:=by rw[hsame _ (Nat.le_refl _) (by omega),hrec]
    have hlt1:s.m.n < s1.m.n:=M.jB (by rw[hrec1];simp)
    have hvb:=hP (s1.m.set s.m.n (.loop ⟨T,ps,a,b,.busy,none,E.G⟩)) rfl (fun c hc=>by rw[M.bH _ _ _ _ hlt1,if_neg hc])
    obtain⟨e2,s2,T2,⟨hB2,hfr2,hon⟩,hkn2,hn2,hlo2,n2,hr2⟩:=hb _ _ hvb T1 hkn1 (by show min s1.lo s.m.n<=s1.m.n;omega)
    have hrec2:s2.m.get s.m.n=.loop ⟨T,ps,a,b,.busy,none,E.G⟩:=by rw[hfr2 _ (Nat.le_refl _) (by omega) (.inl rfl),M.bH _ _ _ _ hlt1,if_pos rfl]
    have hlt2:s.m.n < s2.m.n:=M.jB (by rw[hrec2];simp)
    have hn2:s1.m.n<=s2.m.n:=hn2
    have hn1:mm.n<=s1.m.n:=hn1
    have hround:∀(st:LoopState) (pe:Option Ex) (v:Value),(match e2 with
       |.normal=>(v,st,pe)=(.bool true,.ready,none)
       |e=>(v,st,pe)=(.bool false,.done,some e))->
      Cl E X (.yield s.m.n) args mm (min s2.lo s.m.n) v (s2.m.set s.m.n (.loop ⟨T,ps,a,b,st,pe,E.G⟩)):=by
     intro st pe v hv
     refine⟨by show mm.n<=s2.m.n;omega,by omega,max n1 n2+1,fun n hn l hl=>?_⟩
     obtain⟨k,rfl⟩:∃k,n=k+1:=⟨n-1,by omega⟩
     have e1:=hr1 k (by omega)
     have e2':=hr2 k (by omega)
     have hbeq:(Nat.beq args.length ps.size && Nat.beq E.G E.G)=true:=by
      have:args.length=ps.size:=by simpa using hlen
      rw[this,Nat.beq_refl,Nat.beq_refl];rfl
     simp only[bV,qe]
     rw[M.cm,hrec]
     dsimp only
     rw[hbeq]
     simp only[cond_true]
     have e1:bh E (bV E X k) k a {T:=qb T (ps.toList.zip args),m:={mm.wl l with low:=(mm.wl l).n}}=some (.normal,⟨T1,s1.m.wl s1.lo⟩):=e1
     rw[e1]
     dsimp only
     rw[M.cm,hrec1]
     dsimp only
     have e2':bh E (bV E X k) k b {T:=T1,m:=(s1.m.wl s1.lo).set s.m.n (.loop ⟨T,ps,a,b,.busy,none,E.G⟩)}=some (e2,⟨T2,s2.m.wl s2.lo⟩):=e2'
     rw[e2']
     dsimp only
     rw[M.cm,hrec2]
     dsimp only
     cases e2 with
     |normal=>cases hv;rfl
     |exit id=>cases hv;rfl
     |ret=>cases hv;rfl
    have hframe:∀(r:uh) c,s.m.n+1<=c->c < mm.n->fr (mm.get c)->(s2.m.set s.m.n (.loop r)).get c=mm.get c:=fun r c h1 h2 h3=>by
     rw[M.bH _ _ _ _ hlt2,if_neg (by omega),hfr2 c (by omega) h2 (.inr (by rw[M.bH _ _ _ _ hlt1,if_neg (by omega),hsame c (by omega) h2];exact h3)),M.bH _ _ _ _ hlt1,if_neg (by omega),hsame c (by omega) h2]
    cases e2 with
    |normal=>
     refine⟨.bool true,_,_,hround .ready none _ rfl,by omega,Nat.min_le_right _ _,hframe _,.inl ⟨rfl,hI _ _ _ hon (hsetKy _ _ hlt2),?_⟩⟩
     rw[M.bH _ _ _ _ hlt2,if_pos rfl]
    |exit id=>
     refine⟨.bool false,_,_,hround .done (some (.exit id)) _ rfl,by omega,Nat.min_le_right _ _,hframe _,.inr ⟨rfl,.exit id,by simp,hJ _ _ _ hon (hsetKy _ _ hlt2),?_⟩⟩
     rw[M.bH _ _ _ _ hlt2,if_pos rfl]
    |ret=>
     refine⟨.bool false,_,_,hround .done (some .ret) _ rfl,by omega,Nat.min_le_right _ _,hframe _,.inr ⟨rfl,.ret,by simp,hJ _ _ _ hon (hsetKy _ _ hlt2),?_⟩⟩
     rw[M.bH _ _ _ _ hlt2,if_pos rfl])
  ⟨hI 0 _ _ h0 hpush,hy⟩
 obtain⟨hnG,_,n0,cD⟩:=hCl
 have hnG:s.m.n+1<=mG.n:=hnG
 have hex:∀(r:uh),mG.get s.m.n=.loop r->r.st≠.busy->∀n,n0<=n->bh E (bV E X n) n (.rangeFunc gv ps a b) ⟨T,s.m.wl s.lo⟩=
   some (r.oN.getD .normal,⟨T,(mG.set s.m.n (.loop {r with st:=.exhausted})).wl (min (min s.lo bG) s.m.n)⟩):=by
  intro r hr hst n hn
  have hc:bV E X n (.func fk) (fi.toList++(.func (.yield (s.m.wl s.lo).n) #[] #[]::ca.toList)) ((s.m.wl s.lo).push (.loop ⟨T,ps,a,b,.ready,none,E.G⟩))=some (vG,mG.wl (min s.lo bG)):=cD n hn s.lo (by show s.lo<=s.m.n+1;omega)
  simp only[bh]
  rw[aS hk hf]
  dsimp only
  rw[hc]
  dsimp only
  have hr':(mG.wl (min s.lo bG)).get (s.m.wl s.lo).n=.loop r:=hr
  rw[hr']
  dsimp only
  cases hs:r.st with
  |busy=>exact absurd hs hst
  |ready=>rfl
  |done=>rfl
  |exhausted=>rfl
 rcases hend with⟨hi,hr⟩ |⟨e,hne,hj,hr⟩
 ·refine⟨.normal,⟨s.K,mG.set s.m.n (.loop ⟨T,ps,a,b,.exhausted,none,E.G⟩),min (min s.lo bG) s.m.n⟩,T,hdone _ _ (hI _ _ _ hi (hsetKy _ _ hnG)) (by omega),hk,by show s.m.n<=mG.n;omega,by show min (min s.lo bG) s.m.n<=mG.n;omega,n0,hex _ hr (by simp)⟩
 ·have hQe:Q e ⟨s.K,mG.set s.m.n (.loop ⟨T,ps,a,b,.exhausted,some e,E.G⟩),min (min s.lo bG) s.m.n⟩:=by
   obtain⟨p,hp,he,hq⟩:=hstop _ _ (min (min s.lo bG) s.m.n) hne (hJ _ _ _ hj (hsetKy _ ⟨T,ps,a,b,.exhausted,some e,E.G⟩ hnG)) (by omega)
   obtain⟨e',_,rfl⟩:=List.mem_map.1 hp
   cases he
   exact hq
  refine⟨e,⟨s.K,mG.set s.m.n (.loop ⟨T,ps,a,b,.exhausted,some e,E.G⟩),min (min s.lo bG) s.m.n⟩,T,hQe,hk,by show s.m.n<=mG.n;omega,by show min (min s.lo bG) s.m.n<=mG.n;omega,n0,hex _ hr (by simp)⟩
theorem dv:∀(c:Code) (rd:List Nat) (s:St) (Q:Ex->St->Prop),uj E (aN E X) c rd s Q->V E X c s Q
 |.skip,_,s,Q,h=>fun T hk hlo=>⟨_,s,T,h,hk,Nat.le_refl _,hlo,0,fun n _=>rfl⟩
 |.label _,_,s,Q,h=>fun T hk hlo=>⟨_,s,T,h,hk,Nat.le_refl _,hlo,0,fun n _=>rfl⟩
 |.exit id,_,s,Q,h=>fun T hk hlo=>⟨_,s,T,h,hk,Nat.le_refl _,hlo,0,fun n _=>rfl⟩
 |.ret,_,s,Q,h=>fun T hk hlo=>⟨_,s,T,h,hk,Nat.le_refl _,hlo,0,fun n _=>rfl⟩
 |.region id ops d,_,s,Q,h=>fun T hk hlo=>by
  obtain⟨s',T',hP,hk',hn,hlo',n0,hr⟩:=nA ops.toList 0 s _ h T hk hlo
  exact⟨_,s',T',hP,hk',hn,hlo',n0,fun n hn=>by simp only[bh,hr n hn,Option.map_some]⟩
 |.seq a b,rd,s,Q,h=>by
  unfold uj at h
  cases hp:parts a with
  |false=>
   rw[hp,cond_false]at h
   exact V.seq ((dv a _ s _ h).mono fun e s' hq=>by
    cases e with
    |normal=>exact dv b rd s' Q hq
    |exit id=>exact hq
    |ret=>exact hq)
  |true=>
   rw[hp,cond_true]at h
   have ha:=dv a _ s _ h
   intro T hk hlo
   obtain⟨e,s1,T1,h1,hk1,hn1,hlo1,n1,hr1⟩:=ha T hk hlo
   cases e with
   |normal=>
    obtain⟨vs,hvs,h1⟩:=aQ.1 h1
    have hkf:Kn (forget s.K (assigned a)) T1:=by
     intro t k ht
     have:=dh a _ _ _ (hr1 n1 (Nat.le_refl _)) (jC _ _ ht).1
     dsimp only at this
     rw[this]
     exact hk t k (jC _ _ ht).2
    obtain⟨K',hk',hvc⟩:=oz _ _ _ _ hkf (mr hk1 _ _ hvs) h1
    obtain⟨e,s2,T2,h2,hk2,hn2,hlo2,n2,hr2⟩:=dv b rd _ Q hvc T1 hk' hlo1
    exact⟨e,s2,T2,h2,hk2,Nat.le_trans hn1 hn2,hlo2,max n1 n2,fun n hn=>by simp only[bh,hr1 n (by omega),hr2 n (by omega)]⟩
   |exit id=>exact⟨_,s1,T1,h1,hk1,hn1,hlo1,n1,fun n hn=>by simp only[bh,hr1 n hn]⟩
   |ret=>exact⟨_,s1,T1,h1,hk1,hn1,hlo1,n1,fun n hn=>by simp only[bh,hr1 n hn]⟩
 |.cond c x y,rd,s,Q,h=>fun T hk hlo=>by
  obtain⟨_,hb,h⟩:=aQ.1 h
  obtain⟨b,rfl,h⟩:=wK.1 h
  cases b with
  |true=>
   obtain⟨e,s',T',hP,hk',hn,hlo',n0,hr⟩:=dv x rd s Q h T hk hlo
   exact⟨e,s',T',hP,hk',hn,hlo',n0,fun n hn=>by simp only[bh,aS hk hb,hr n hn,cond_true]⟩
  |false=>
   obtain⟨e,s',T',hP,hk',hn,hlo',n0,hr⟩:=dv y rd s Q h T hk hlo
   exact⟨e,s',T',hP,hk',hn,hlo',n0,fun n hn=>by simp only[bh,aS hk hb,hr n hn,cond_false]⟩
 |.block id c,rd,s,Q,h=>fun T hk hlo=>by
  obtain⟨e,s',T',hP,hk',hn,hlo',n0,hr⟩:=dv c rd s _ h T hk hlo
  refine⟨_,s',T',hP,hk',hn,hlo',n0,fun n hn=>?_⟩
  have e1:=hr n hn
  cases e with
  |normal=>simp only[bh,e1,Ex.CV]
  |ret=>simp only[bh,e1,Ex.CV]
  |exit id'=>simp only[bh,e1,Ex.CV];cases Nat.beq id' id <;>rfl
 |.loop c,rd,s,Q,h=>by
  unfold uj at h
  obtain⟨vs0,hv0,γ,μ,I,⟨g0,hg0⟩,hI⟩:=aQ.1 h
  refine V.PW μ (fun g T m lo=>∃vs,I g vs m lo/\TV T (carried s.K (assigned c) []) vs/\Kn (forget s.K (assigned c)) T) g0 (fun T hk=>⟨vs0,hg0,mr hk _ _ hv0,fun t k ht=>hk t k (jC _ _ ht).2⟩) ?_
  rintro g T m lo ⟨vs,hIv,htv,hkf⟩ hlo
  obtain⟨K',hk',hvc⟩:=oz _ _ _ _ hkf htv (hI g vs m lo hIv)
  obtain⟨e,s',T',hQ,hk2,hn,hlo',n0,hr⟩:=dv c _ _ _ hvc T hk' hlo
  refine⟨e,s',T',?_,hk2,hn,hlo',n0,hr⟩
  cases e with
  |normal=>
   obtain⟨vs',hvs',g',hlt,hI'⟩:=aQ.1 hQ
   refine⟨g',hlt,vs',hI',mr hk2 _ _ hvs',?_⟩
   intro t k ht
   have:=dh c _ _ _ (hr n0 (Nat.le_refl _)) (jC _ _ ht).1
   dsimp only at this
   rw[this]
   exact hkf t k ht
  |exit id=>exact hQ
  |ret=>exact hQ
 |.scope c,rd,s,Q,h=>fun T hk hlo=>by
  obtain⟨e,s',T',hP,hk',hn,hlo',n0,hr⟩:=dv c rd s Q h T hk hlo
  exact⟨e,s',T',hP,hk',hn,hlo',n0,fun n hn=>by simp only[bh,hr n hn]⟩
 |.rangeFunc f ps a b,_,s,Q,h=>by
  obtain⟨_,hf,h⟩:=aQ.1 h
  obtain⟨gf,fi,ca,rfl,h⟩:=yY.1 h
  exact V.rangeFunc (fun s Q h=>dv a _ s Q h) (fun s Q h=>dv b _ s Q h) hf h
 |.goto l,_,s,Q,h=>h.elim
 |.refuse y,_,s,Q,h=>h.elim
theorem vp:∀(vs:List Value) (i:Nat),Kn (Be vs i) (enter vs i)
 |[],_=>fun _ _ h=>by cases h
 |v::vs,i=>by
  have:=(vp vs (i+1)).put (some i) (.v v)
  exact this
theorem kO{K:KT}{T:Tr Value}(h:Kn K T){m:M}:∀{rs:List ResultVar} {f:List Value->Prop},Ed E K m rs f->∃vs,f vs/\∀l,eQ E T (m.wl l) rs=some vs
 |[],f,hr=>⟨[],hr,fun _=>rfl⟩
 |.tmp t::rs,f,hr=>by
  obtain⟨v,hv,hr⟩:=aQ.1 hr
  obtain⟨vs,hf,hrs⟩:=kO h hr
  refine⟨_,hf,fun l=>?_⟩
  split at hv
  ·rename_i k hk
   cases hv
   simp only[eQ,jc,gR,h t k hk,Option.getD_some,hrs]
  ·cases hv
 |.cell a t::rs,f,hr=>by
  obtain⟨p,hp,hr⟩:=aQ.1 hr
  obtain⟨v,hv,hr⟩:=aQ.1 hr
  obtain⟨vs,hf,hrs⟩:=kO h hr
  refine⟨_,hf,fun l=>?_⟩
  split at hp
  ·rename_i k hk
   cases hp
   unfold ag at hv
   split at hv
   ·rename_i p' a' hk'
    have e:gR T a=.pointer (some a'):=by simp only[gR,h a _ hk,Option.getD_some,hk']
    simp only[eQ,jc,e,tg,hv,hrs]
   ·cases hv
  ·cases hp
theorem sC{T:Tr Value}{m:M}{fn:Func}{vs:List Value}(h:eQ E T m fn.results.toList=some vs):result? E fn T m=some (bs vs):=by
 unfold result?
 rw[h]
 match vs with
 |[]=>rfl
 |[v]=>rfl
 |_::_::_=>rfl
def OS(X:aF)(f:Nat):Prop:=∀args m,X (.func f) args m=none
theorem Cl.body{f:Nat}{fn:Func}{args:List Value}{m:M}{R:List Value->M->Nat->Prop}(hX:OS X f)(hf:E.fn.get f=some fn)(hl:Nat.ble args.length fn.ntmps=true)
  (h:dN E (aN E X) fn args m R):
  ∃vs m' lo,R vs m' lo/\m.n<=m'.n/\∃n0,∀n,n0<=n->∀l,l<=m.n->
   bV E X n (.func f) args (m.wl l)=some (bif bY (bs vs) && Nat.ble m.n lo then(bs vs,m.wl l)else(bs vs,m'.wl (min l lo))):=by
 unfold dN at h
 split at h
 ·rename_i body hb
  obtain⟨e,s',T',hpost,hk',hn,hlo',n0,hr⟩:=dv _ _ _ _ h (enter args 0) (vp _ _) (Nat.le_refl _)
  have hend:(∀id,e≠.exit id)/\Ed E s'.K s'.m fn.results.toList fun vs=>R vs s'.m s'.lo:=by
   cases e with
   |exit id=>exact hpost.elim
   |normal=>exact⟨fun _ h=>(by cases h),hpost⟩
   |ret=>exact⟨fun _ h=>(by cases h),hpost⟩
  obtain⟨hne,hres⟩:=hend
  obtain⟨vs,hR,hres⟩:=kO hk' hres
  refine⟨vs,s'.m,s'.lo,hR,hn,n0+1,fun n hn' l hl'=>?_⟩
  obtain⟨n,rfl⟩:∃k,n=k+1:=⟨n-1,by omega⟩
  have e1':bh E (bV E X n) n body {T:=enter args 0,m:={m.wl l with low:=(m.wl l).n}}=some (e,⟨T',s'.m.wl s'.lo⟩):=hr n (by omega)
  have hr2:=sC (fn:=fn) (hres s'.lo)
  have hX':X (.func f) args (m.wl l)=none:=hX _ _
  have fin:(bif bY (bs vs) && Nat.ble (m.wl l).n (s'.m.wl s'.lo).low then some (bs vs,m.wl l)else some (bs vs,{s'.m.wl s'.lo with low:=min (m.wl l).low (s'.m.wl s'.lo).low}))=
    some (bif bY (bs vs) && Nat.ble m.n s'.lo then(bs vs,m.wl l)else(bs vs,s'.m.wl (min l s'.lo))):=by
   cases hc:(bY (bs vs) && Nat.ble m.n s'.lo)with
   |true=>
    have:(bY (bs vs) && Nat.ble (m.wl l).n (s'.m.wl s'.lo).low)=true:=hc
    rw[this];rfl
   |false=>
    have:(bY (bs vs) && Nat.ble (m.wl l).n (s'.m.wl s'.lo).low)=false:=hc
    rw[this];rfl
  cases e with
  |exit id=>exact(hne id rfl).elim
  |normal=>
   simp only[bV,hX',hf,hb,hl,cond_true,e1',hr2]
   exact fin
  |ret=>
   simp only[bV,hX',hf,hb,hl,cond_true,e1',hr2]
   exact fin
 ·exact h.elim
theorem Cl.Cn{f:Nat}{args:List Value}{vs:List Value}{m m':M}{lo:Nat}(hn:m.n<=m'.n)(hc:bY (bs vs)=false\/lo < m.n)
  (h:∃n0,∀n,n0<=n->∀l,l<=m.n->bV E X n (.func f) args (m.wl l)=some (bif bY (bs vs) && Nat.ble m.n lo then(bs vs,m.wl l)else(bs vs,m'.wl (min l lo)))):Cl E X (.func f) args m (min m.n lo) (bs vs) m':=by
 obtain⟨n0,h⟩:=h
 refine⟨hn,Nat.min_le_left _ _,n0,fun n hn l hl=>?_⟩
 have:(bY (bs vs) && Nat.ble m.n lo)=false:=by
  rcases hc with hv |hv
  ·rw[hv];rfl
  ·have:Nat.ble m.n lo=false:=by
    cases hc:Nat.ble m.n lo with
    |false=>rfl
    |true=>have:=Nat.le_of_ble_eq_true hc;omega
   rw[this,Bool.and_false]
 have e:min l (min m.n lo)=min l lo:=by omega
 rw[h n hn l hl,this,e]
 rfl
theorem Cl.of_flat{f:Nat}{args:List Value}{vs:List Value}{m m':M}{lo:Nat}(hv:bY (bs vs)=true)(hlo:m.n<=lo)
  (h:∃n0,∀n,n0<=n->∀l,l<=m.n->bV E X n (.func f) args (m.wl l)=some (bif bY (bs vs) && Nat.ble m.n lo then(bs vs,m.wl l)else(bs vs,m'.wl (min l lo)))):Cl E X (.func f) args m m.n (bs vs) m:=by
 obtain⟨n0,h⟩:=h
 refine⟨Nat.le_refl _,Nat.le_refl _,n0,fun n hn l hl=>?_⟩
 have:Nat.ble m.n lo=true:=Nat.ble_eq_true_of_le hlo
 rw[h n hn l hl,hv,this,Nat.min_eq_left hl]
 rfl
theorem Cl.flat{f:Nat}{fn:Func}{args:List Value}{m:M}{v:Value}(hX:OS X f)(hf:E.fn.get f=some fn)(hl:Nat.ble args.length fn.ntmps=true)(hv:bY v=true)
  (h:dN E (aN E X) fn args m fun vs m' lo=>bs vs=v/\m.n<=lo):Cl E X (.func f) args m m.n v m:=by
 obtain⟨vs,s,lo,⟨rfl,hlo⟩,_,hr⟩:=Cl.body hX hf hl h
 exact .of_flat hv hlo hr
theorem Cl.heap{f:Nat}{fn:Func}{args:List Value}{m:M}{R:Value->M->Nat->Prop}(hX:OS X f)(hf:E.fn.get f=some fn)(hl:Nat.ble args.length fn.ntmps=true)
  (h:dN E (aN E X) fn args m fun vs m' lo=>(bY (bs vs)=false\/lo < m.n)/\R (bs vs) m' (min m.n lo)):
  ∃v m' b,Cl E X (.func f) args m b v m'/\R v m' b:=by
 obtain⟨vs,s,lo,⟨hv,hR⟩,hn,hr⟩:=Cl.body hX hf hl h
 exact⟨_,_,_,.Cn hn hv hr,hR⟩
theorem Cl.gen{f:Nat}{fn:Func}{args:List Value}{m:M}{R:Value->M->Nat->Prop}(hX:OS X f)(hf:E.fn.get f=some fn)(hl:Nat.ble args.length fn.ntmps=true)
  (h:dN E (aN E X) fn args m fun vs m' lo=>(bY (bs vs)=true/\m.n<=lo/\R (bs vs) m m.n)\/((bY (bs vs)=false\/lo < m.n)/\R (bs vs) m' (min m.n lo))):
  ∃v m' b,Cl E X (.func f) args m b v m'/\R v m' b:=by
 obtain⟨vs,s,lo,h,hn,hr⟩:=Cl.body hX hf hl h
 rcases h with⟨hv,hlo,hR⟩ |⟨hv,hR⟩
 ·exact⟨_,_,_,.of_flat hv hlo hr,hR⟩
 ·exact⟨_,_,_,.Cn hn hv hr,hR⟩
theorem Cl.known{f:Fn}{args:List Value}{m m':M}{v:Value}(hX:∀l,X f args (m.wl l)=some (v,m'.wl l))(hn:m.n<=m'.n)(hf:∃k,f=.func k):Cl E X f args m m.n v m':=by
 obtain⟨k,rfl⟩:=hf
 refine⟨hn,Nat.le_refl _,1,fun n hn l hl=>?_⟩
 obtain⟨n,rfl⟩:∃j,n=j+1:=⟨n-1,by omega⟩
 simp only[bV,hX,Nat.min_eq_left hl]
theorem Cl.HZ{k:Nat}{args:List Value}{m m':M}{b:Nat}{v:Value}(hX:∀l,l<=m.n->X (.func k) args (m.wl l)=some (v,m'.wl (min l b)))(hn:m.n<=m'.n)(hb:b<=m.n):Cl E X (.func k) args m b v m':=by
 refine⟨hn,hb,1,fun n hn l hl=>?_⟩
 obtain⟨n,rfl⟩:∃j,n=j+1:=⟨n-1,by omega⟩
 simp only[bV,hX l hl]
theorem aC{f:Fn}{args:List Value}{m m1:M}{v:Value}{b:Nat}{P:Value->M->Nat->Prop}(h:Cl E X f args m b v m1)(hP:P v m1 b):bB E X f args m P:=⟨v,m1,b,h,hP⟩
end
end Go.D
namespace Go.D
open Go
section
variable {E:Env} {X:aF} {k:IntKind} {t:TypeId} {a b:Int}
theorem dk:an E .leq t (.int k a) (.int k b)=some (.bool (decide (a<=b))):=by simp[an,gn]
theorem aM:an E .lss t (.int k a) (.int k b)=some (.bool (decide (a < b))):=by simp[an,gn]
theorem cR:an E .geq t (.int k a) (.int k b)=some (.bool (decide (b<=a))):=by simp[an,gn]
theorem cQ:an E .gtr t (.int k a) (.int k b)=some (.bool (decide (b < a))):=by simp[an,gn]
theorem bI:an E .eql t (.int k a) (.int k b)=some (.bool (decide (a=b))):=by simp[an,gn];rfl
theorem cE:an E .neq t (.int k a) (.int k b)=some (.bool (!(decide (a=b)))):=by simp[an,gn,bne];rfl
theorem aG:an E .add t (.int k a) (.int k b)=some (.int k (k.wrap (a+b))):=by simp[an,gn]
theorem dc:an E .sub t (.int k a) (.int k b)=some (.int k (k.wrap (a-b))):=by simp[an,gn]
theorem dt:an E .mul t (.int k a) (.int k b)=some (.int k (k.wrap (a*b))):=by simp[an,gn]
theorem na(h:b≠0):an E .quo t (.int k a) (.int k b)=some (.int k (k.wrap (a.tdiv b))):=by simp[an,gn,h]
theorem mZ(h:b≠0):an E .rem t (.int k a) (.int k b)=some (.int k (a.tmod b)):=by simp[an,gn,h]
theorem bD{b:Bool}:iO .not (.bool b)=some (.bool (!b)):=rfl
theorem vJ:iO .neg (.int k a)=some (.int k (k.wrap (0-a))):=rfl
theorem wrap64{x:Int}(h1: -9223372036854775808<=x)(h2:x < 9223372036854775808):IntKind.i64.wrap x=x:=by
 have e:IntKind.i64.wrap x=if x%18446744073709551616>=9223372036854775808 then x%18446744073709551616-18446744073709551616 else x%18446744073709551616:=by
  unfold IntKind.wrap
  simp[IntKind.bits,IntKind.signed]
 rw[e]
 split <;>omega
theorem aj{b:Bool}{P Q:Prop}:aX (.bool b) P Q=pB b P Q:=rfl
theorem bO{g:Fn}{fi ca:Array Value}{P:Fn->Array Value->Array Value->Prop}:ku (.func g fi ca) P=P g fi ca:=rfl
theorem aA{v:Value}{r:List Value}{P:Value->List Value->Prop}:un (v::r) P=P v r:=rfl
theorem ff{a:Addr}:wj (.pointer (some a))=some (.pointer (some a)):=rfl
theorem ef{f:FuncId}{a b:Array Value}:wj (.func (.func f) a b)=some (.func (.func f) a b):=rfl
theorem aR{vs:Array Value}{i:Nat}:cx (.tuple vs) i=vs.toList[i]?:=rfl
theorem aL{cs:Array Value}:cells (.agg cs)=cs.toList:=rfl
theorem fj{x:Int}:cells (.int k x)=[.int k x]:=rfl
theorem ew{x:Bool}:cells (.bool x)=[.bool x]:=rfl
theorem dJ{a:Option Addr}{n c:Nat}:cells (.slice a n c)=[.slice a n c]:=rfl
theorem fg{a:Option Addr}:cells (.pointer a)=[.pointer a]:=rfl
theorem fh{a:Option Nat}:cells (.map a)=[.map a]:=rfl
theorem eu{f:Fn}{a b:Array Value}:cells (.func f a b)=[.func f a b]:=rfl
theorem ak{b:Bool}{P Q:Prop}(h1:b=true->P)(h2:b=false->Q):pB b P Q:=KX.2 ⟨h1,h2⟩
theorem bZ{P Q:Prop}:pB true P Q=P:=rfl
theorem aU{P Q:Prop}:pB false P Q=Q:=rfl
theorem Lp.intro{F:(List Value->M->Nat->Prop)->List Value->M->Nat->Prop}{vs:List Value}{m:M}{lo:Nat}{γ:Type}(μ:γ->Nat)(I:γ->List Value->M->Nat->Prop)(g0:γ)(h0:I g0 vs m lo)
  (hs:∀g vs m lo,I g vs m lo->F (fun vs m lo=>∃g',μ g' < μ g/\I g' vs m lo) vs m lo):Lp F vs m lo:=⟨γ,μ,I,⟨g0,h0⟩,hs⟩
end
section
variable {m m' m1:M} {b c:Nat} {o:Ob}
theorem M.jj(h:b < m.n):m.get b=(m.st.get b).getD .dead:=by
 unfold M.get
 have:Nat.blt b m.n=true:=by rw[Nat.blt_eq];exact h
 rw[this];rfl
theorem M.kE(h:m.n<=b):m.get b=.dead:=by
 unfold M.get
 have:Nat.blt b m.n=false:=by
  cases hc:Nat.blt b m.n with
  |false=>rfl
  |true=>rw[Nat.blt_eq]at hc;omega
 rw[this];rfl
theorem M.aV:(m.push o).get m.n=o:=by
 rw[M.jj (by rw[M.vV];omega)]
 show((m.st.set m.n o).get m.n).getD .dead=o
 rw[Tr.bH,if_pos rfl];rfl
theorem M.bQ(h:b < m.n):(m.push o).get b=m.get b:=by
 rw[M.jj (by rw[M.vV];omega),M.jj h]
 show((m.st.set m.n o).get b).getD .dead=_
 rw[Tr.bH,if_neg (by omega)]
theorem M.cA(h:b < m.n):(m.set b o).get b=o:=by
 rw[M.jj (m:=m.set b o) h]
 show((m.st.set b o).get b).getD .dead=_
 rw[Tr.bH,if_pos rfl];rfl
theorem M.cp(h:c≠b):(m.set b o).get c=m.get c:=by
 by_cases hc:c < m.n
 ·rw[M.jj hc,M.jj (m:=m.set b o) hc]
  show((m.st.set b o).get c).getD .dead=_
  rw[Tr.bH,if_neg h]
 ·rw[M.kE (m:=m) (by omega),M.kE (m:=m.set b o) (by show m.n<=c;omega)]
theorem M.aI{cs:List Value}{e:TypeId}{g:Option Nat}(h:m.get b=.cells cs e g):b < m.n:=by
 by_cases hc:b < m.n
 ·exact hc
 ·rw[M.kE (by omega)]at h;cases h
theorem M.ve{es:List MapEntry}{g:Nat}(h:m.get b=.map es g):b < m.n:=by
 by_cases hc:b < m.n
 ·exact hc
 ·rw[M.kE (by omega)]at h;cases h
theorem ar{P:M->Prop}(h:∀m1,m1.n=m.n+1->m1.get m.n=o->(∀b,b < m.n->m1.get b=m.get b)->P m1):bW (m.push o) P:=
 h _ rfl M.aV fun _ hb=>M.bQ hb
theorem Ext.refl:Ext m m:=⟨Nat.le_refl _,fun _ _=>rfl⟩
theorem Ext.trans(h:Ext m m1)(h':Ext m1 m'):Ext m m':=⟨Nat.le_trans h.n h'.n,fun b hb=>by rw[h'.get b (Nat.lt_of_lt_of_le hb h.n),h.get b hb]⟩
theorem Ext.push(h:Ext m m1):Ext m (m1.push o):=⟨Nat.le_trans h.n (Nat.le_succ _),fun b hb=>by rw[M.bQ (Nat.lt_of_lt_of_le hb h.n),h.get b hb]⟩
theorem Ext.set(h:Ext m m1)(hb:m.n<=b):Ext m (m1.set b o):=⟨h.n,fun c hc=>by rw[M.cp (by omega),h.get c hc]⟩
theorem Ext.wl(h:Ext m m1){l:Nat}:Ext m (m1.wl l):=⟨h.n,h.get⟩
theorem Ext.cells{cs:List Value}{e:TypeId}{g:Option Nat}(h:Ext m m1)(hb:m.get b=.cells cs e g):m1.get b=.cells cs e g:=by rw[h.get b (M.aI hb),hb]
theorem az{cs:List Value}{e:TypeId}{g:Option Nat}{o:Nat}(h:m.get b=.cells cs e g):cellAt m ⟨b,o,none⟩=cs[o]?:=by
 unfold cellAt;simp only[h];rfl
theorem aH{cs:List Value}{e:TypeId}{g:Option Nat}{o n:Nat}(h:m.get b=.cells cs e g)(hl:o+n<=cs.length):loadCells m ⟨b,o,none⟩ n=some ((cs.drop o).take n):=by
 unfold loadCells
 simp only[h]
 have:Nat.ble (o+n) cs.length=true:=Nat.ble_eq_true_of_le hl
 rw[this];rfl
theorem ur{cs vs:List Value}{e:TypeId}{g:Option Nat}{o:Nat}(h:m.get b=.cells cs e g)(hl:o+vs.length<=cs.length)(h1:vs.all one=true):
  storeCells m ⟨b,o,none⟩ vs=some (m.set b (.cells (cs.take o++(vs++cs.drop (o+vs.length))) e g)):=by
 unfold storeCells
 simp only[h]
 have:Nat.ble (o+vs.length) cs.length=true:=Nat.ble_eq_true_of_le hl
 rw[this,h1];rfl
end
class aY (α:Type) where
 ty:TypeId
 sz:Nat
 agg:Bool
 jN:List TypeId
 rep:M->α->List Value->Prop
 pos:0 < sz
 one:agg=false->sz=1
 len:∀{m x cs},rep m x cs->cs.length=sz
 lO:∀{m x cs},rep m x cs->cs.all D.one=true
 bw:∀{m m' x cs},rep m x cs->(∀b c t g,m.get b=.cells c t g->t∈jN->m'.get b=.cells c t g)->rep m' x cs
namespace aY
def val(α:Type)[aY α](cs:List Value):Value:=bif agg α then .agg cs.toArray else cs.headD undef
theorem aD{α:Type}[aY α]{m m':M}{x:α}{cs:List Value}(h:rep m x cs)(he:Ext m m'):rep m' x cs:=bw h fun _ _ _ _ hb _=>he.cells hb
end aY
def Sl{α:Type}[aY α](m:M)(l:List α)(v:Value):Prop:=
 (v=.slice none 0 0/\l=[])\/∃b o c bc g,v=.slice (some ⟨b,o,none⟩) l.length c/\m.get b=.cells bc (aY.ty α) g/\o+l.length*aY.sz α<=bc.length/\
  ∀i x,l[i]?=some x->aY.rep m x ((bc.drop (o+i*aY.sz α)).take (aY.sz α))
theorem Sl.bw{α:Type}[aY α]{m m':M}{l:List α}{v:Value}(h:Sl m l v)(hk:∀b c t g,m.get b=.cells c t g->t∈aY.ty α::aY.jN α->m'.get b=.cells c t g):Sl m' l v:=by
 rcases h with h |⟨b,o,c,bc,g,h1,h2,h3,h4⟩
 ·exact .inl h
 ·exact .inr ⟨b,o,c,bc,g,h1,hk _ _ _ _ h2 List.mem_cons_self,h3,fun i x hi=>aY.bw (h4 i x hi) fun b c t g hb ht=>hk b c t g hb (List.mem_cons_of_mem _ ht)⟩
theorem Sl.aD{α:Type}[aY α]{m m':M}{l:List α}{v:Value}(h:Sl m l v)(he:Ext m m'):Sl m' l v:=h.bw fun _ _ _ _ hb _=>he.cells hb
theorem Sl.form{α:Type}[aY α]{m:M}{l:List α}{v:Value}(h:Sl m l v):∃a c,v=.slice a l.length c:=by
 rcases h with⟨rfl,rfl⟩ |⟨b,o,c,bc,g,rfl,_⟩
 ·exact⟨_,_,rfl⟩
 ·exact⟨_,_,rfl⟩
theorem Sl.one{α:Type}[aY α]{m:M}{l:List α}{v:Value}(h:Sl m l v):one v=true:=by
 obtain⟨a,c,rfl⟩:=h.form;rfl
theorem Sl.nil{α:Type}[aY α]{m:M}:Sl m ([]:List α) (.slice none 0 0):=.inl ⟨rfl,rfl⟩
theorem Sl.cells{α:Type}[aY α]{m:M}{l:List α}{v:Value}(h:Sl m l v):D.cells v=[v]:=by
 obtain⟨a,c,rfl⟩:=h.form;rfl
def uJ(E:Env)(T t:TypeId)(α:Type)[aY α]:Prop:=
 ∃ti te,E.ty.get T=some ti/\(∃e,ti.d=.slice e)/\ti.es=aY.sz α/\E.ty.get t=some te/\te.d.agg=aY.agg α/\te.size=aY.sz α
section
variable {E:Env} {m:M} {T t:TypeId} {α:Type} [aY α] {l:List α} {v:Value}
theorem Sl.len(h:Sl m l v)(hT:uJ E T t α):aq E m .len [T] [v]=some (.int .i64 l.length,m):=by
 obtain⟨ti,te,h1,⟨e,h2⟩,_⟩:=hT
 obtain⟨a,c,rfl⟩:=h.form
 simp only[aq,nV,h1,h2,Option.map_some]
theorem Sl.index(h:Sl m l v)(hT:uJ E T t α){k:IntKind}{i:Nat}{x:α}(hi:l[i]?=some x):
  ∃p cs,ai E T v (.int k i)=some p/\ag E m t p=some (aY.val α cs)/\aY.rep m x cs:=by
 obtain⟨ti,te,h1,⟨e,h2⟩,h3,h4,h5,h6⟩:=hT
 have hlt:=(List.getElem?_eq_some_iff.1 hi).1
 rcases h with⟨_,rfl⟩ |⟨b,o,c,bc,g,rfl,hb,hlen,hel⟩
 ·simp at hi
 ·have hr:=hel i x hi
  have hpos:=aY.pos (α:=α)
  refine⟨.pointer (some ⟨b,o+i*aY.sz α,none⟩),_,?_,?_,hr⟩
  ·have hc:0<=(i:Int)/\(i:Int)< (l.length:Int)/\0 < ti.es:=⟨by omega,by omega,by omega⟩
   simp only[ai,h1,h2]
   rw[if_pos hc,aZ rfl,h3]
   rfl
  ·have hle:o+i*aY.sz α+aY.sz α<=bc.length:=by
    have:(i+1)*aY.sz α<=l.length*aY.sz α:=Nat.mul_le_mul_right _ hlt
    rw[Nat.add_mul,Nat.one_mul]at this
    omega
   simp only[ag,loadVar,h4]
   unfold aY.val
   cases ha:aY.agg α with
   |true=>
    rw[h5,ha,h6]
    simp only[cond_true]
    rw[aH hb hle];rfl
   |false=>
    rw[h5,ha]
    simp only[cond_false]
    rw[az hb]
    have h1':=aY.len hr
    have hs:=aY.one ha
    rw[hs]at h1'⊢
    simp only[hs]at hle
    rw[List.headD_eq_head?_getD,List.head?_take,List.head?_drop,if_neg (by omega)]
    have hlt2:o+i*1 < bc.length:=by omega
    rw[List.getElem?_eq_getElem hlt2]
    rfl
end
theorem lG{E:Env}{m:M}{t:TypeId}{ti:TI}{b o:Nat}{cs:List Value}{e:TypeId}{g:Option Nat}{x:Value}(ht:E.ty.get t=some ti)(h:m.get b=.cells cs e g)(hs:(cells x).length=ti.size)(hl:o+(cells x).length<=cs.length)(h1:(cells x).all one=true):
  aB E m t (.pointer (some ⟨b,o,none⟩)) x=some (m.set b (.cells (cs.take o++(cells x++cs.drop (o+(cells x).length))) e g),b):=by
 have:Nat.beq (cells x).length ti.size=true:=by rw[hs];exact Nat.beq_refl _
 simp only[aB,storeVar,ht,this,cond_true,ur h hl h1]
theorem dS{E:Env}{m:M}{t:TypeId}{ti:TI}{b o:Nat}{cs:List Value}{e:TypeId}{g:Option Nat}{x:Value}{P:M->Nat->Prop}(ht:E.ty.get t=some ti)(h:m.get b=.cells cs e g)(hs:(cells x).length=ti.size)(hl:o+(cells x).length<=cs.length)(h1:(cells x).all one=true)
  (hP:∀m1,m1.n=m.n->m1.get b=.cells (cs.take o++(cells x++cs.drop (o+(cells x).length))) e g->(∀c,c≠b->m1.get c=m.get c)->P m1 b):aO (aB E m t (.pointer (some ⟨b,o,none⟩)) x) P:=by
 rw[lG ht h hs hl h1,au]
 exact hP _ rfl (M.cA (M.aI h)) fun c hc=>M.cp hc
theorem Sl.iF{E:Env}{m:M}{T t:TypeId}{α:Type}[aY α]{l:List α}{v:Value}(h:Sl m l v)(hT:uJ E T t α){k:IntKind}{i:Nat}{x:α}(hi:l[i]?=some x):
  ∃b o bc g cs,ai E T v (.int k i)=some (.pointer (some ⟨b,o,none⟩))/\m.get b=.cells bc (aY.ty α) g/\aY.rep m x cs/\o+aY.sz α<=bc.length/\∀j,j < aY.sz α->bc[o+j]?=cs[j]?:=by
 obtain⟨ti,te,h1,⟨e,h2⟩,h3,h4,h5,h6⟩:=hT
 have hlt:=(List.getElem?_eq_some_iff.1 hi).1
 rcases h with⟨_,rfl⟩ |⟨b,o,c,bc,g,rfl,hb,hlen,hel⟩
 ·simp at hi
 ·have hr:=hel i x hi
  have hpos:=aY.pos (α:=α)
  refine⟨b,o+i*aY.sz α,bc,g,_,?_,hb,hr,?_,fun j hj=>?_⟩
  ·have hc:0<=(i:Int)/\(i:Int)< (l.length:Int)/\0 < ti.es:=⟨by omega,by omega,by omega⟩
   simp only[ai,h1,h2]
   rw[if_pos hc,aZ rfl,h3]
   rfl
  ·have:(i+1)*aY.sz α<=l.length*aY.sz α:=Nat.mul_le_mul_right _ hlt
   rw[Nat.add_mul,Nat.one_mul]at this
   omega
  ·rw[List.getElem?_take_of_lt hj,List.getElem?_drop]
theorem av{E:Env}{m:M}{t:TypeId}{ti:TI}{b:Nat}{cs:List Value}{e:TypeId}{g:Option Nat}{x:Value}{P:M->Nat->Prop}(ht:E.ty.get t=some ti)(h:m.get b=.cells cs e g)(hs:(cells x).length=ti.size)(hl:(cells x).length=cs.length)(h1:(cells x).all one=true)
  (hP:∀m1,m1.n=m.n->m1.get b=.cells (cells x) e g->(∀c,c≠b->m1.get c=m.get c)->P m1 b):aO (aB E m t (.pointer (some ⟨b,0,none⟩)) x) P:=by
 refine dS ht h hs (by omega) h1 fun m1 hn hg hk=>hP m1 hn ?_ hk
 rw[hg,List.take_zero,List.nil_append,List.drop_eq_nil_of_le (by omega),List.append_nil]
end Go.D
namespace Go.D
open Go
structure BG(n1:Nat)(m m1:M):Prop where
 n:m.n<=m1.n
 get:∀c,c < n1->m1.get c=m.get c
theorem BG.refl{n1:Nat}{m:M}:BG n1 m m:=⟨Nat.le_refl _,fun _ _=>rfl⟩
theorem BG.trans{n1:Nat}{m m1 m2:M}(h:BG n1 m m1)(h':BG n1 m1 m2):BG n1 m m2:=⟨Nat.le_trans h.n h'.n,fun c hc=>by rw[h'.get c hc,h.get c hc]⟩
theorem BG.ext{m m1:M}(h:BG m.n m m1):Ext m m1:=⟨h.n,h.get⟩
theorem Ext.fr{m m1:M}(h:Ext m m1){n1:Nat}(hn:n1<=m.n):BG n1 m m1:=⟨h.n,fun c hc=>h.get c (by omega)⟩
theorem BG.mono{n1 n2:Nat}{m m1:M}(h:BG n1 m m1)(hn:n2<=n1):BG n2 m m1:=⟨h.n,fun c hc=>h.get c (by omega)⟩
def chunk(cs:List Value)(k i:Nat):List Value:=(cs.drop (i*k)).take k
theorem jZ{a b:List Value}{k n i:Nat}(ha:a.length=n*k)(hi:i < n):chunk (a++b) k i=chunk a k i:=by
 unfold chunk
 have:(i+1)*k<=n*k:=Nat.mul_le_mul_right _ hi
 rw[Nat.add_mul,Nat.one_mul]at this
 rw[List.drop_append_of_le_length (by omega),List.take_append_of_le_length (by rw[List.length_drop];omega)]
theorem jH{a b:List Value}{k n i:Nat}(ha:a.length=n*k)(hi:n<=i):chunk (a++b) k i=chunk b k (i-n):=by
 unfold chunk
 have:n*k<=i*k:=Nat.mul_le_mul_right _ hi
 rw[List.drop_append,ha,List.drop_eq_nil_of_le (by omega),List.nil_append,Nat.sub_mul]
theorem Ft{bc:List Value}{o k n i:Nat}(hi:i < n):chunk ((bc.drop o).take (n*k)) k i=(bc.drop (o+i*k)).take k:=by
 unfold chunk
 have:(i+1)*k<=n*k:=Nat.mul_le_mul_right _ hi
 rw[Nat.add_mul,Nat.one_mul]at this
 rw[List.drop_take,List.drop_drop,List.take_take]
 congr 1
 omega
theorem uc{p:Value->Bool}{k:Nat}:∀(n:Nat) (cs:List Value),cs.length=n*k->(∀i,i < n->(chunk cs k i).all p=true)->cs.all p=true
 |0,cs,hl,_=>by
  have:cs=[]:=List.eq_nil_of_length_eq_zero (by simpa using hl)
  rw[this];rfl
 |n+1,cs,hl,h=>by
  rw[Nat.add_mul,Nat.one_mul]at hl
  have h0:=h 0 (by omega)
  simp only[chunk,Nat.zero_mul,List.drop_zero]at h0
  have hd:=uc (k:=k) n (cs.drop k) (by rw[List.length_drop];omega) fun i hi=>by
   have:=h (i+1) (by omega)
   simp only[chunk,Nat.add_mul,Nat.one_mul]at this
   simp only[chunk,List.drop_drop]
   rw[Nat.add_comm k]
   exact this
  rw[<-List.take_append_drop k cs,List.all_append,h0,hd];rfl
def Ow{α:Type}[aY α](n1:Nat)(m:M)(l:List α)(v:Value):Prop:=
 (v=.slice none 0 0/\l=[])\/∃b cs,v=.slice (some ⟨b,0,none⟩) l.length l.length/\0 < l.length/\n1<=b/\m.get b=.cells cs (aY.ty α) (some (aY.sz α))/\cs.length=l.length*aY.sz α/\
  ∀i x,l[i]?=some x->aY.rep m x (chunk cs (aY.sz α) i)
theorem Ow.nil{α:Type}[aY α]{n1:Nat}{m:M}:Ow n1 m ([]:List α) (.slice none 0 0):=.inl ⟨rfl,rfl⟩
theorem Ow.sl{α:Type}[aY α]{n1:Nat}{m:M}{l:List α}{v:Value}(h:Ow n1 m l v):Sl m l v:=by
 rcases h with h |⟨b,cs,h1,h2,h3,h4,h5,h6⟩
 ·exact .inl h
 ·refine .inr ⟨b,0,_,cs,_,h1,h4,by omega,fun i x hi=>?_⟩
  rw[Nat.zero_add]
  exact h6 i x hi
theorem Ow.bw{α:Type}[aY α]{n1:Nat}{m m':M}{l:List α}{v:Value}(h:Ow n1 m l v)(hk:∀b c t g,m.get b=.cells c t g->t∈aY.ty α::aY.jN α->m'.get b=.cells c t g):Ow n1 m' l v:=by
 rcases h with h |⟨b,cs,h1,h2,h3,h4,h5,h6⟩
 ·exact .inl h
 ·exact .inr ⟨b,cs,h1,h2,h3,hk _ _ _ _ h4 List.mem_cons_self,h5,fun i x hi=>aY.bw (h6 i x hi) fun b c t g hb ht=>hk b c t g hb (List.mem_cons_of_mem _ ht)⟩
theorem Ow.aD{α:Type}[aY α]{n1:Nat}{m m':M}{l:List α}{v:Value}(h:Ow n1 m l v)(he:Ext m m'):Ow n1 m' l v:=h.bw fun _ _ _ _ hb _=>he.cells hb
theorem Ow.mono{α:Type}[aY α]{n1 n2:Nat}{m:M}{l:List α}{v:Value}(h:Ow n1 m l v)(hn:n2<=n1):Ow n2 m l v:=by
 rcases h with h |⟨b,cs,h1,h2,h3,h4⟩
 ·exact .inl h
 ·exact .inr ⟨b,cs,h1,h2,by omega,h4⟩
theorem Ow.flat{α:Type}[aY α]{n1:Nat}{m:M}{l:List α}{v:Value}(h:Ow n1 m l v)(hl:l≠ []):bY v=false:=by
 rcases h with⟨_,rfl⟩ |⟨b,cs,rfl,_⟩
 ·exact absurd rfl hl
 ·rfl
def BH(E:Env)(T:TypeId)(α:Type)[aY α]:Prop:=
 ∃ti ei,E.ty.get T=some ti/\ti.d=.slice (aY.ty α)/\ti.es=aY.sz α/\E.ty.get (aY.ty α)=some ei/\ei.bytes<=65536/\fT ei.zero (aY.sz α)=true
section
variable {E:Env} {α:Type} [aY α] {n1:Nat} {m:M} {l ys:List α} {v y:Value} {T:TypeId}
theorem Sl.first(h:Sl m ys y):∃news,kX y=some ys.length/\first? m (aY.sz α) ys.length y=some news/\news.length=ys.length*aY.sz α/\news.all D.one=true/\∀i x,ys[i]?=some x->aY.rep m x (chunk news (aY.sz α) i):=by
 rcases h with⟨rfl,rfl⟩ |⟨b,o,c,bc,g,rfl,hb,hlen,hel⟩
 ·exact⟨[],rfl,rfl,by simp,rfl,fun i x hi=>by simp at hi⟩
 ·have hl:((bc.drop o).take (ys.length*aY.sz α)).length=ys.length*aY.sz α:=by rw[List.length_take,List.length_drop];omega
  have hch:∀i x,ys[i]?=some x->aY.rep m x (chunk ((bc.drop o).take (ys.length*aY.sz α)) (aY.sz α) i):=fun i x hi=>by
   rw[Ft (List.getElem?_eq_some_iff.1 hi).1];exact hel i x hi
  refine⟨_,rfl,?_,hl,?_,hch⟩
  ·unfold first?
   cases hn:Nat.beq ys.length 0 with
   |true=>
    have:=Nat.eq_of_beq_eq_true hn
    simp[this]
   |false=>exact aH hb hlen
  ·exact uc ys.length _ hl fun i hi=>aY.lO (hch i _ (List.getElem?_eq_getElem hi))
theorem Ow.append(hT:BH E T α)(hty:aY.ty α∉aY.jN α)(h:Ow n1 m l v)(hy:Sl m ys y)(hn:n1<=m.n)(hs:l.length+ys.length<=268435456):
  ∃v' m1,aq E (m.wl m.n) .append [T,T] [v,y]=some (v',m1)/\Ow n1 m1 (l++ys) v'/\BG n1 m m1/\n1<=m1.low/\m1.n<=m.n+1:=by
 obtain⟨ti,ei,t1,t2,t3,t4,t5,t6⟩:=hT
 obtain⟨news,e1,e2,e3,e4,e5⟩:=hy.first
 have hpos:=aY.pos (α:=α)
 have hc:(Nat.beq ti.es 0 ||Nat.blt 65536 ei.bytes || !news.all D.one ||Nat.blt 268435456 (l.length+ys.length) || !Nat.beq news.length (ys.length*ti.es) || !fT ei.zero ti.es)=false:=by
  have c1:Nat.beq ti.es 0=false:=by
   cases hb:Nat.beq ti.es 0 with
   |false=>rfl
   |true=>have:=Nat.eq_of_beq_eq_true hb;omega
  have c2:Nat.blt 65536 ei.bytes=false:=by
   cases hb:Nat.blt 65536 ei.bytes with
   |false=>rfl
   |true=>rw[Nat.blt_eq]at hb;omega
  have c3:Nat.blt 268435456 (l.length+ys.length)=false:=by
   cases hb:Nat.blt 268435456 (l.length+ys.length)with
   |false=>rfl
   |true=>rw[Nat.blt_eq]at hb;omega
  have c4:Nat.beq news.length (ys.length*ti.es)=true:=by rw[e3,t3];exact Nat.beq_refl _
  rw[c1,c2,c3,c4,e4,t3,t6];rfl
 have hfirst:first? (m.wl m.n) ti.es ys.length y=some news:=by rw[bN,t3];exact e2
 rcases h with⟨rfl,rfl⟩ |⟨b,cs,rfl,h2,h3,h4,h5,h6⟩
 ·
  cases hys:ys with
  |nil=>
   subst hys
   refine⟨.slice none 0 0,m.wl m.n,?_,.inl ⟨rfl,rfl⟩,⟨Nat.le_refl _,fun _ _=>rfl⟩,hn,by show m.n<=_;omega⟩
   simp only[aq,dD,t1,e1,t2,t4,hfirst]
   simp only[List.length_nil]at hc⊢
   rw[hc]
   rfl
  |cons y0 ys'=>
   rw[<-hys]
   have hylen:0 < ys.length:=by rw[hys];simp
   have hble:Nat.ble (0+ys.length) 0=false:=by
    cases hb:Nat.ble (0+ys.length) 0 with
    |false=>rfl
    |true=>have:=Nat.le_of_ble_eq_true hb;omega
   refine⟨.slice (some ⟨m.n,0,none⟩) ys.length ys.length,(m.wl m.n).push (.cells news (aY.ty α) (some (aY.sz α))),?_,?_,⟨by show m.n<=m.n+1;omega,fun c hc=>by rw[M.bQ (by show c < m.n;omega)];rfl⟩,hn,by show m.n+1<=_;omega⟩
   ·simp only[aq,dD,t1,e1,t2,t4,hfirst]
    simp only[List.length_nil]at hc
    rw[hc,hble]
    simp only[cond_false,jA]
    have:(Nat.beq 0 0 && Nat.beq 0 0)=true:=rfl
    rw[this,t3]
    simp only[cond_true,Nat.zero_add]
    rfl
   ·refine .inr ⟨m.n,news,by simp,by simpa using hylen,hn,M.aV (m:=m.wl m.n),by simpa using e3,fun i x hi=>?_⟩
    have:=e5 i x (by simpa using hi)
    exact aY.aD this ⟨by show m.n<=m.n+1;omega,fun c hc=>by rw[M.bQ (m:=m.wl m.n) hc];rfl⟩
 ·
  have hbn:=M.aI h4
  cases hys:ys with
  |nil=>
   subst hys
   refine⟨.slice (some ⟨b,0,none⟩) l.length l.length,m.wl m.n,?_,?_,⟨Nat.le_refl _,fun _ _=>rfl⟩,hn,by show m.n<=_;omega⟩
   ·simp only[aq,dD,t1,e1,t2,t4,hfirst]
    simp only[List.length_nil,Nat.add_zero]at hc⊢
    rw[hc]
    have:Nat.ble l.length l.length=true:=Nat.ble_eq_true_of_le (Nat.le_refl _)
    rw[this]
    rfl
   ·rw[List.append_nil]
    exact .inr ⟨b,cs,rfl,h2,h3,h4,h5,fun i x hi=>aY.bw (m:=m) (h6 i x hi) fun _ _ _ _ hb _=>hb⟩
  |cons y0 ys'=>
   rw[<-hys]
   have hylen:0 < ys.length:=by rw[hys];simp
   have hble:Nat.ble (l.length+ys.length) l.length=false:=by
    cases hb:Nat.ble (l.length+ys.length) l.length with
    |false=>rfl
    |true=>have:=Nat.le_of_ble_eq_true hb;omega
   have hold:(bif Nat.beq l.length 0 then some []else loadCells (m.wl m.n) ⟨b,0,none⟩ (l.length*aY.sz α))=some cs:=by
    cases hb:Nat.beq l.length 0 with
    |true=>have:=Nat.eq_of_beq_eq_true hb;omega
    |false=>
     simp only[cond_false,bu]
     rw[aH h4 (by omega),List.drop_zero,List.take_of_length_le (by omega)]
   have g1:((some (aY.sz α):Option Nat).isNone ||((some (aY.sz α):Option Nat)==some (aY.sz α) && Nat.blt (0+l.length*aY.sz α) cs.length))=false:=by
    have:Nat.blt (0+l.length*aY.sz α) cs.length=false:=by
     cases hb:Nat.blt (0+l.length*aY.sz α) cs.length with
     |false=>rfl
     |true=>rw[Nat.blt_eq]at hb;omega
    rw[this];simp
   have g2:((some (aY.sz α):Option Nat)==some (aY.sz α) && Nat.beq 0 0 && (none:Option Nat).isNone && Nat.beq (l.length*aY.sz α) cs.length && Nat.beq l.length l.length && Nat.beq (aY.ty α) (aY.ty α))=true:=by
    rw[h5]
    simp
   refine⟨.slice (some ⟨m.n,0,none⟩) (l.length+ys.length) (l.length+ys.length),((m.wl m.n).set b .dead).push (.cells (cs++news) (aY.ty α) (some (aY.sz α))),?_,?_,⟨by show m.n<=m.n+1;omega,fun c hc=>?_⟩,?_,by show m.n+1<=_;omega⟩
   ·simp only[aq,dD,t1,e1,t2,t4,hfirst]
    rw[hc,hble]
    simp only[cond_false,jA,t3]
    have hg:(m.wl m.n).get b=.cells cs (aY.ty α) (some (aY.sz α)):=h4
    simp only[hg,hold,g1,cond_false]
    rw[g2]
    rfl
   ·have hget:∀c,c < m.n->c≠b->(((m.wl m.n).set b .dead).push (.cells (cs++news) (aY.ty α) (some (aY.sz α)))).get c=m.get c:=fun c hc hne=>by
     rw[M.bQ (by show c < m.n;exact hc),M.cp hne];rfl
    have hrep:∀x c,aY.rep m x c->aY.rep (α:=α) (((m.wl m.n).set b .dead).push (.cells (cs++news) (aY.ty α) (some (aY.sz α)))) x c:=fun x c hx=>by
     refine aY.bw hx fun b' c' t g hb ht=>?_
     rw[hget b' (M.aI hb) (fun e=>by subst e;rw[h4]at hb;cases hb;exact hty ht),hb]
    refine .inr ⟨m.n,cs++news,by simp,by simp;omega,hn,M.aV (m:=(m.wl m.n).set b .dead),by simp[h5,e3,Nat.add_mul],fun i x hi=>?_⟩
    by_cases hlt:i < l.length
    ·rw[jZ h5 hlt]
     rw[List.getElem?_append_left hlt]at hi
     exact hrep _ _ (h6 i x hi)
    ·rw[jH h5 (by omega)]
     rw[List.getElem?_append_right (by omega)]at hi
     exact hrep _ _ (e5 _ x hi)
   ·rw[M.bQ (by show c < m.n;omega),M.cp (by omega)];rfl
   ·show n1<=min m.n b
    omega
end
end Go.D
namespace Go.D
open Go
section
variable {E:Env} {m:M} {T:TypeId} {ti:TI} {e:TypeId} {b n:Nat} {cs:List Value} {te:TypeId} {k:Nat}
theorem JG{i y:Nat}(h:i<=y):oo (.int .i64 i) y=some i:=by
 unfold oo
 have:(0:Int)<=i/\(i:Int)<=y:=⟨by omega,by omega⟩
 simp only[this,and_self,if_true,Int.toNat_natCast]
end
section
variable {E:Env} {α:Type} [aY α] {n1:Nat} {m:M} {T:TypeId}
theorem re(hT:BH E T α){ys:List α}{y:Value}{b:Nat}{te:TypeId}(h:m.get b=.cells [] te none)(hy:Sl m ys y)(hne:ys≠ [])(hs:ys.length<=1000000):
  ∃v' m1,aq E (m.wl m.n) .append [T,T] [.slice (some ⟨b,0,none⟩) 0 0,y]=some (v',m1)/\Ow m.n m1 ys v'/\Ext m m1/\m1.low=m.n:=by
 obtain⟨ti,ei,t1,t2,t3,t4,t5,t6⟩:=hT
 obtain⟨news,e1,e2,e3,e4,e5⟩:=hy.first
 have hpos:=aY.pos (α:=α)
 have hylen:0 < ys.length:=List.length_pos_iff.2 hne
 have hc:(Nat.beq ti.es 0 ||Nat.blt 65536 ei.bytes || !news.all D.one ||Nat.blt 268435456 (0+ys.length) || !Nat.beq news.length (ys.length*ti.es) || !fT ei.zero ti.es)=false:=by
  have c1:Nat.beq ti.es 0=false:=by
   cases hb:Nat.beq ti.es 0 with
   |false=>rfl
   |true=>have:=Nat.eq_of_beq_eq_true hb;omega
  have c2:Nat.blt 65536 ei.bytes=false:=by
   cases hb:Nat.blt 65536 ei.bytes with
   |false=>rfl
   |true=>rw[Nat.blt_eq]at hb;omega
  have c3:Nat.blt 268435456 (0+ys.length)=false:=by
   cases hb:Nat.blt 268435456 (0+ys.length)with
   |false=>rfl
   |true=>rw[Nat.blt_eq]at hb;omega
  have c4:Nat.beq news.length (ys.length*ti.es)=true:=by rw[e3,t3];exact Nat.beq_refl _
  rw[c1,c2,c3,c4,e4,t3,t6];rfl
 have hfirst:first? (m.wl m.n) ti.es ys.length y=some news:=by rw[bN,t3];exact e2
 have hble:Nat.ble (0+ys.length) 0=false:=by
  cases hb:Nat.ble (0+ys.length) 0 with
  |false=>rfl
  |true=>have:=Nat.le_of_ble_eq_true hb;omega
 have hg:(m.wl m.n).get b=.cells [] te none:=h
 refine⟨.slice (some ⟨m.n,0,none⟩) ys.length ys.length,(m.wl m.n).push (.cells news (aY.ty α) (some (aY.sz α))),?_,?_,⟨Nat.le_succ _,fun c hc=>by rw[M.bQ (m:=m.wl m.n) hc];rfl⟩,rfl⟩
 ·simp only[aq,dD,t1,e1,t2,t4,hfirst,hc,hble,cond_false,jA,hg]
  have e0:(bif Nat.beq 0 0 then some []else loadCells (m.wl m.n) ⟨b,0,none⟩ (0*ti.es))=some ([]:List Value):=rfl
  have e1:((none:Option Nat).isNone ||((none:Option Nat)==some ti.es && Nat.blt (0+0*ti.es) ([]:List Value).length))=true:=rfl
  simp only[e0,e1,cond_true,Nat.zero_add,List.nil_append,t3]
  rfl
 ·exact .inr ⟨m.n,news,rfl,hylen,Nat.le_refl _,M.aV (m:=m.wl m.n),e3,fun i x hi=>aY.aD (e5 i x hi) ⟨Nat.le_succ _,fun c hc=>by rw[M.bQ (m:=m.wl m.n) hc];rfl⟩⟩
end
end Go.D
namespace Go.D
open Go
section
variable {E:Env} {m m1:M} {T U:TypeId} {v':Value} {c:Nat}
theorem pW{a:Addr}{vs:List Value}(h:storeCells m a vs=some m1)(hne:c≠a.block):m1.get c=m.get c:=by
 unfold storeCells at h
 cases hb:m.get a.block with
 |cells cs e g=>
  simp only[hb]at h
  cases hc:(a.spot.isNone && Nat.ble (a.off+vs.length) cs.length && vs.all one)with
  |true=>rw[hc,cond_true]at h;cases h;exact M.cp hne
  |false=>rw[hc,cond_false]at h;cases h
 |_=>simp only[hb]at h;cases h
theorem zz{e k:Nat}{base:Option Addr}{sl sc need:Nat}{news:List Value}(h:jA m e k base sl sc need news=some (v',m1))(hc:c < m.n)(hs:∀a,base=some a->c≠a.block):m1.get c=m.get c:=by
 unfold jA at h
 cases base with
 |none=>
  dsimp only at h
  cases h1:(Nat.beq sl 0 && Nat.beq sc 0)with
  |true=>rw[h1,cond_true]at h;cases h;exact M.bQ hc
  |false=>rw[h1,cond_false]at h;cases h
 |some a=>
  dsimp only at h
  cases hb:m.get a.block with
  |cells cs te g=>
   cases ho:(bif Nat.beq sl 0 then some []else loadCells m a (sl*k))with
   |none=>simp only[hb,ho]at h;cases h
   |some eO=>
    simp only[hb,ho]at h
    cases h1:(g.isNone ||(g==some k && Nat.blt (a.off+sc*k) cs.length))with
    |true=>rw[h1,cond_true]at h;cases h;exact M.bQ hc
    |false=>
     rw[h1,cond_false]at h
     cases h2:(g==some k && Nat.beq a.off 0 && a.spot.isNone && Nat.beq (sl*k) cs.length && Nat.beq sc sl && Nat.beq te e)with
     |true=>rw[h2,cond_true]at h;cases h;rw[M.bQ (m:=m.set a.block .dead) hc,M.cp (hs a rfl)]
     |false=>rw[h2,cond_false]at h;cases h
  |_=>simp only[hb]at h;cases h
theorem uH{s x:Value}(h:dD E m T U s x=some (v',m1))(hc:c < m.n)(hs:∀a n k,s=.slice (some a) n k->c≠a.block):m1.get c=m.get c:=by
 unfold dD at h
 split at h
 ·rename_i ti ui base sl sc n _ _ _
  split at h
  ·cases h
  ·rename_i e _ _
   cases h1:E.ty.get e with
   |none=>simp only[h1]at h;cases h
   |some ei=>
    cases h2:first? m ti.es n x with
    |none=>simp only[h1,h2]at h;cases h
    |some news=>
     simp only[h1,h2]at h
     cases h3:(Nat.beq ti.es 0 ||Nat.blt 65536 ei.bytes || !news.all one ||Nat.blt 268435456 (sl+n) || !Nat.beq news.length (n*ti.es) || !fT ei.zero ti.es)with
     |true=>rw[h3,cond_true]at h;cases h
     |false=>
      rw[h3,cond_false]at h
      cases h4:Nat.ble (sl+n) sc with
      |false=>
       rw[h4,cond_false]at h
       exact zz h hc fun a ha=>hs a sl sc (by rw[ha])
      |true=>
       rw[h4,cond_true]at h
       cases base with
       |none=>
        dsimp only at h
        cases h5:Nat.beq n 0 with
        |true=>rw[h5,cond_true]at h;cases h;rfl
        |false=>rw[h5,cond_false]at h;cases h
       |some a=>
        dsimp only at h
        cases h5:Nat.beq n 0 with
        |true=>rw[h5,cond_true]at h;cases h;rfl
        |false=>
         rw[h5,cond_false]at h
         cases h6:storeCells m (a.add (sl*ti.es)) news with
         |none=>rw[h6]at h;cases h
         |some m2=>
          rw[h6]at h
          cases h
          refine pW h6 ?_
          have:(a.add (sl*ti.es)).block=a.block:=by
           unfold Addr.add;split <;>rfl
          rw[this]
          exact hs a sl sc rfl
  ·cases h
 ·cases h
theorem gA{s x:Value}(h:aq E (m.wl m.n) .append [T,U] [s,x]=some (v',m1))(hc:c < m.n)(hs:∀a n k,s=.slice (some a) n k->c≠a.block):m1.get c=m.get c:=
 (uH (m:=m.wl m.n) h hc hs).trans rfl
end
end Go.D
namespace Go.D
open Go
variable {m:M}
def Fz{α:Type}[aY α](m:M)(l:List α)(v:Value):Prop:=
 (v=.slice none 0 0/\l=[])\/∃b o c bc,v=.slice (some ⟨b,o,none⟩) l.length c/\m.get b=.ro bc/\
  ∀i x,l[i]?=some x->o+i*aY.sz α+aY.sz α<=bc.length/\aY.rep m x ((bc.drop (o+i*aY.sz α)).take (aY.sz α))
theorem Ext.ro{m m':M}(h:Ext m m'){b:Nat}{c:List Value}(hb:m.get b=.ro c):m'.get b=.ro c:=by
 rw[h.get b ?_,hb]
 rcases Nat.lt_or_ge b m.n with h' |h'
 ·exact h'
 ·rw[M.kE h']at hb;cases hb
section
variable {α:Type} [aY α] {m':M} {l:List α} {v:Value} {E:Env} {T t:TypeId}
theorem Fz.aD(h:Fz m l v)(he:Ext m m'):Fz m' l v:=by
 rcases h with h |⟨b,o,c,bc,h1,h2,h4⟩
 ·exact .inl h
 ·exact .inr ⟨b,o,c,bc,h1,Ext.ro he h2,fun i x hi=>⟨(h4 i x hi).1,aY.aD (h4 i x hi).2 he⟩⟩
theorem Fz.form(h:Fz m l v):∃a c,v=.slice a l.length c:=by
 rcases h with⟨rfl,rfl⟩ |⟨b,o,c,bc,rfl,_⟩
 ·exact⟨_,_,rfl⟩
 ·exact⟨_,_,rfl⟩
theorem Fz.len(h:Fz m l v)(hT:uJ E T t α):aq E m .len [T] [v]=some (.int .i64 l.length,m):=by
 obtain⟨ti,te,h1,⟨e,h2⟩,_⟩:=hT
 obtain⟨a,c,rfl⟩:=h.form
 simp only[aq,nV,h1,h2,Option.map_some]
theorem wD{b o n:Nat}{cs:List Value}(h:m.get b=.ro cs)(hl:o+n<=cs.length)(h1:((cs.drop o).take n).all one=true):D.loadCells m ⟨b,o,none⟩ n=some ((cs.drop o).take n):=by
 unfold D.loadCells
 rw[h]
 have:Nat.ble (o+n) cs.length=true:=Nat.ble_eq_true_of_le hl
 simp only[Option.isNone_none,this,h1,Bool.and_self,cond_true]
theorem vu{b o:Nat}{cs:List Value}{u:Value}(h:m.get b=.ro cs)(hu:cs[o]?=some u)(h1:one u=true):D.cellAt m ⟨b,o,none⟩=some u:=by
 unfold D.cellAt
 rw[h]
 simp only[Option.isNone_none,if_true,hu,h1,cond_true]
theorem Fz.index(h:Fz m l v)(hT:uJ E T t α){k:IntKind}{i:Nat}{x:α}(hi:l[i]?=some x):
  ∃p cs,ai E T v (.int k i)=some p/\ag E m t p=some (aY.val α cs)/\aY.rep m x cs:=by
 obtain⟨ti,te,h1,⟨e,h2⟩,h3,h4,h5,h6⟩:=hT
 have hlt:=(List.getElem?_eq_some_iff.1 hi).1
 rcases h with⟨_,rfl⟩ |⟨b,o,c,bc,rfl,hb,hel⟩
 ·simp at hi
 ·obtain⟨hle,hr⟩:=hel i x hi
  have hpos:=aY.pos (α:=α)
  refine⟨.pointer (some ⟨b,o+i*aY.sz α,none⟩),_,?_,?_,hr⟩
  ·have hc:0<=(i:Int)/\(i:Int)< (l.length:Int)/\0 < ti.es:=⟨by omega,by omega,by omega⟩
   simp only[ai,h1,h2]
   rw[if_pos hc,aZ rfl,h3]
   rfl
  ·have hones:=aY.lO hr
   simp only[D.ag,D.loadVar,h4]
   unfold aY.val
   cases ha:aY.agg α with
   |true=>
    rw[h5,ha,h6]
    simp only[cond_true]
    rw[wD hb hle hones];rfl
   |false=>
    rw[h5,ha]
    simp only[cond_false]
    have hs:=aY.one ha
    rw[hs]at hones⊢
    simp only[hs]at hle
    have hlt2:o+i*1 < bc.length:=by omega
    have hat:bc[o+i*1]?=some bc[o+i*1]:=List.getElem?_eq_getElem hlt2
    have htk:(bc.drop (o+i*1)).take 1=[bc[o+i*1]]:=by
     rw[List.take_one,List.head?_drop,hat];rfl
    rw[htk]at hones⊢
    rw[vu hb hat (by simpa using hones)]
    rfl
def Af{α:Type}[aY α](m:M)(l:List α)(v:Value):Prop:=Sl m l v\/Fz m l v
theorem Af.aD(h:Af m l v)(he:Ext m m'):Af m' l v:=h.elim (fun h=> .inl (h.aD he)) fun h=> .inr (h.aD he)
theorem Af.len(h:Af m l v)(hT:uJ E T t α):aq E m .len [T] [v]=some (.int .i64 l.length,m):=h.elim (fun h=>h.len hT) fun h=>h.len hT
theorem Af.index(h:Af m l v)(hT:uJ E T t α){k:IntKind}{i:Nat}{x:α}(hi:l[i]?=some x):
  ∃p cs,ai E T v (.int k i)=some p/\ag E m t p=some (aY.val α cs)/\aY.rep m x cs:=h.elim (fun h=>h.index hT hi) fun h=>h.index hT hi
end
end Go.D
