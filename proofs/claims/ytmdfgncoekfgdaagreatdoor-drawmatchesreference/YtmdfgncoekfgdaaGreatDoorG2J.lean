/- The program logic over D, its fifth part: statements and calls. -/
import Derived.Test.YtmdfgncoekfgdaaGreatDoorG1J
namespace Go.D
open Go
section
variable {E:Env} {X:aF}
def TV(T:Tr Value):List Nat->List Value->Prop
 |[],_=>True
 |t::ts,vs=>match vs with
  |v::r=>T.get t=some v/\TV T ts r
  |[]=>False
theorem nQ{T:Tr Value}:∀(ts:List Nat) (vs:List Value) (K:KT) (f:KT->Prop),Kn K T->TV T ts vs->zn (aI E X) ts vs K f->∃K',Kn K' T/\f K'
 |[],_,K,f,hk,_,h=>⟨K,hk,h⟩
 |t::ts,vs,K,f,hk,hv,h=>by
  unfold zn at h
  obtain⟨v,r,rfl,h⟩:=EV.1 h
  exact nQ ts r _ f (hk.set hv.1) hv.2 h
theorem mh{K:KT}{T:Tr Value}(hk:Kn K T):∀(ts:List Nat) (vs:List Value),po K ts=some vs->TV T ts vs
 |[],_,_=>trivial
 |t::ts,vs,h=>by
  unfold po at h
  split at h
  ·rename_i v hv
   split at h
   ·rename_i vs' hvs
    cases h
    exact⟨hk _ _ hv,mh hk ts vs' hvs⟩
   ·cases h
  ·cases h
theorem tM{T:Tr Value}:∀(ps:List Tmp) (args:List Value) (K:KT) (f:KT->Prop) (T:Tr Value),Kn K T->Ch (aI E X) ps args K f->args.length=ps.length/\∃K1,Kn K1 (pD T (ps.zip args))/\f K1
 |[],args,K,f,T,hk,h=>by
  cases args with
  |nil=>exact⟨rfl,K,hk,h⟩
  |cons v r=>exact(h:False).elim
 |p::ps,args,K,f,T,hk,h=>by
  obtain⟨v,r,rfl,h⟩:=EV.1 h
  obtain⟨h1,h2⟩:=tM (T:=T) ps r _ f (T.set p v) (hk.put (some p) (.v v)) h
  exact⟨by simp[h1],h2⟩
theorem V.rangeFunc{gv:Operand}{ps:Array Tmp}{a b:Code}{s:St}{Q:Ex->St->Prop}{rda rdb:List Nat}{gf:Fn}{fi ca:Array Value}(ha:∀s Q,ta E (aI E X) a rda s Q->V E X a s Q)(hb:∀s Q,ta E (aI E X) b rdb s Q->V E X b s Q)
  (hf:jG s.K gv=some (.func gf fi ca))
  (h:RF E X gf fi.toList ca.toList s.m s.lo
   (fun args m1 Qb=>Ch (aI E X) ps.toList args s.K fun K1=>ta E (aI E X) a rda ⟨K1,m1,m1.n⟩ fun e s1=>e.Kr (Kq s.m.n m1 s1.m fun m2=>ta E (aI E X) b rdb ⟨s1.K,m2,min s1.lo s.m.n⟩ fun e2 s2=>Qb m2 e2 s2.m s2.lo) False)
   (fun m lo=>Q .normal ⟨s.K,m,lo⟩) ((leaves b).map fun e=>(e,fun m lo=>Q e ⟨s.K,m,lo⟩))):V E X (.rangeFunc gv ps a b) s Q:=fun T hk hlo=>by
 obtain⟨fr,xs,Dt,I,J,B,⟨fk,rfl⟩,hG,hB,hD,hI,hJ,h0,hstep,hdone,hstop⟩:=h
 have hy:(s.m.push (.loop ⟨T,ps,a,b,.ready,none,E.G⟩)).get s.m.n=.loop ⟨T,ps,a,b,.ready,none,E.G⟩:=by rw[M.eI,if_pos rfl]
 have hpush:Ky s.m.n s.m (s.m.push (.loop ⟨T,ps,a,b,.ready,none,E.G⟩)):=⟨Nat.le_succ _,fun c hc _=>by rw[M.eI,if_neg (by omega)]⟩
 have hsetKy:∀(m:M) (r:sZ),s.m.n < m.n->Ky s.m.n m (m.set s.m.n (.loop r)):=fun m r hm=>⟨Nat.le_refl _,fun c _ hne=>by rw[M.bL _ _ _ _ hm,if_neg hne]⟩
 obtain⟨vG,mG,bG,hCl,hBG,hend⟩:=hG s.m.n (s.m.n+1) B (fun i m=>I i m/\m.get s.m.n=.loop ⟨T,ps,a,b,.ready,none,E.G⟩)
  (fun m=>∃e:Ex,e≠Ex.normal/\J e m/\m.get s.m.n=.loop ⟨T,ps,a,b,.done,some e,E.G⟩) (s.m.push (.loop ⟨T,ps,a,b,.ready,none,E.G⟩))
  (fun i m1 h=>hD i m1 h.1)
  (fun i m1 m2 h he=>⟨hI i m1 m2 h.1 ⟨he.n,fun c hc _=>he.get c hc⟩,by rw[he.get _ (M.kb (by rw[h.2];simp)),h.2]⟩)
  (fun m1 m2 ⟨e,h1,h2,h3⟩ he=>⟨e,h1,hJ e m1 m2 h2 ⟨he.n,fun c hc _=>he.get c hc⟩,by rw[he.get _ (M.kb (by rw[h3];simp)),h3]⟩)
  (Nat.lt_succ_self _) (Nat.le_refl _) (by omega)
  (fun i args mm hmm hx ⟨hi,hrec⟩=>by
   obtain⟨hlen,K1,hk1,hv⟩:=tM (T:=T) _ _ _ _ T hk (hstep i args mm hmm hx hi)
   obtain⟨e1,s1,T1,hq1,hkn1,hn1,hlo1,n1,hr1⟩:=ha _ _ hv _ hk1 (Nat.le_refl _)
   cases e1 with
   |exit id=>exact hq1.elim
   |ret=>exact hq1.elim
   |normal=>
    obtain⟨hsame,hP⟩:=hq1
    have hrec1:s1.m.get s.m.n=.loop ⟨T,ps,a,b,.ready,none,E.G⟩:=by rw[hsame _ (Nat.le_refl _) (by omega),hrec]
    have hlt1:s.m.n < s1.m.n:=M.kb (by rw[hrec1];simp)
    have hvb:=hP (s1.m.set s.m.n (.loop ⟨T,ps,a,b,.busy,none,E.G⟩)) rfl (fun c hc=>by rw[M.bL _ _ _ _ hlt1,if_neg hc])
    obtain⟨e2,s2,T2,⟨hB2,hfr2,hon⟩,hkn2,hn2,hlo2,n2,hr2⟩:=hb _ _ hvb T1 hkn1 (by show min s1.lo s.m.n<=s1.m.n;omega)
    have hrec2:s2.m.get s.m.n=.loop ⟨T,ps,a,b,.busy,none,E.G⟩:=by rw[hfr2 _ (Nat.le_refl _) (by omega) (.inl rfl),M.bL _ _ _ _ hlt1,if_pos rfl]
    have hlt2:s.m.n < s2.m.n:=M.kb (by rw[hrec2];simp)
    have hn2:s1.m.n<=s2.m.n:=hn2
    have hn1:mm.n<=s1.m.n:=hn1
    have hround:∀(st:LoopState) (pe:Option Ex) (v:Value),(match e2 with
       |.normal=>(v,st,pe)=(.bool true,.ready,none)
       |e=>(v,st,pe)=(.bool false,.done,some e))->
      Cl E X (.yield s.m.n) args mm (min s2.lo s.m.n) v (s2.m.set s.m.n (.loop ⟨T,ps,a,b,st,pe,E.G⟩)):=by
     intro st pe v hv
     refine⟨by show mm.n<=s2.m.n;omega,by omega,max n1 n2+1,fun n hn l hl=>?_⟩
     obtain⟨k,rfl⟩:∃k,n=k+1:=⟨n-1,by omega⟩
     have e1:=hr1 k (by omega)
     have e2':=hr2 k (by omega)
     have hbeq:(Nat.beq args.length ps.size && Nat.beq E.G E.G)=true:=by
      have:args.length=ps.size:=by simpa using hlen
      rw[this,Nat.beq_refl,Nat.beq_refl];rfl
     simp only[bN,pH]
     rw[M.bS,hrec]
     dsimp only
     rw[hbeq]
     simp only[cond_true]
     have e1:aZ E (bN E X k) k a {T:=pD T (ps.toList.zip args),m:={mm.wl l with low:=(mm.wl l).n}}=some (.normal,⟨T1,s1.m.wl s1.lo⟩):=e1
     rw[e1]
     dsimp only
     rw[M.bS,hrec1]
     dsimp only
     have e2':aZ E (bN E X k) k b {T:=T1,m:=(s1.m.wl s1.lo).set s.m.n (.loop ⟨T,ps,a,b,.busy,none,E.G⟩)}=some (e2,⟨T2,s2.m.wl s2.lo⟩):=e2'
     rw[e2']
     dsimp only
     rw[M.bS,hrec2]
     dsimp only
     cases e2 with
     |normal=>cases hv;rfl
     |exit id=>cases hv;rfl
     |ret=>cases hv;rfl
    have hframe:∀(r:sZ) c,s.m.n+1<=c->c < mm.n->fr (mm.get c)->(s2.m.set s.m.n (.loop r)).get c=mm.get c:=fun r c h1 h2 h3=>by
     rw[M.bL _ _ _ _ hlt2,if_neg (by omega),hfr2 c (by omega) h2 (.inr (by rw[M.bL _ _ _ _ hlt1,if_neg (by omega),hsame c (by omega) h2];exact h3)),M.bL _ _ _ _ hlt1,if_neg (by omega),hsame c (by omega) h2]
    cases e2 with
    |normal=>
     refine⟨.bool true,_,_,hround .ready none _ rfl,by omega,Nat.min_le_right _ _,hframe _,.inl ⟨rfl,hI _ _ _ hon (hsetKy _ _ hlt2),?_⟩⟩
     rw[M.bL _ _ _ _ hlt2,if_pos rfl]
    |exit id=>
     refine⟨.bool false,_,_,hround .done (some (.exit id)) _ rfl,by omega,Nat.min_le_right _ _,hframe _,.inr ⟨rfl,.exit id,by simp,hJ _ _ _ hon (hsetKy _ _ hlt2),?_⟩⟩
     rw[M.bL _ _ _ _ hlt2,if_pos rfl]
    |ret=>
     refine⟨.bool false,_,_,hround .done (some .ret) _ rfl,by omega,Nat.min_le_right _ _,hframe _,.inr ⟨rfl,.ret,by simp,hJ _ _ _ hon (hsetKy _ _ hlt2),?_⟩⟩
     rw[M.bL _ _ _ _ hlt2,if_pos rfl])
  ⟨hI 0 _ _ h0 hpush,hy⟩
 obtain⟨hnG,_,n0,cN⟩:=hCl
 have hnG:s.m.n+1<=mG.n:=hnG
 have hex:∀(r:sZ),mG.get s.m.n=.loop r->r.st≠.busy->∀n,n0<=n->aZ E (bN E X n) n (.rangeFunc gv ps a b) ⟨T,s.m.wl s.lo⟩=
   some (r.ov.getD .normal,⟨T,(mG.set s.m.n (.loop {r with st:=.exhausted})).wl (min (min s.lo bG) s.m.n)⟩):=by
  intro r hr hst n hn
  have hc:bN E X n (.func fk) (fi.toList++(.func (.yield (s.m.wl s.lo).n) #[] #[]::ca.toList)) ((s.m.wl s.lo).push (.loop ⟨T,ps,a,b,.ready,none,E.G⟩))=some (vG,mG.wl (min s.lo bG)):=cN n hn s.lo (by show s.lo<=s.m.n+1;omega)
  simp only[aZ]
  rw[aT hk hf]
  dsimp only
  rw[hc]
  dsimp only
  have hr':(mG.wl (min s.lo bG)).get (s.m.wl s.lo).n=.loop r:=hr
  rw[hr']
  dsimp only
  cases hs:r.st with
  |busy=>exact absurd hs hst
  |ready=>rfl
  |done=>rfl
  |exhausted=>rfl
 rcases hend with⟨hi,hr⟩ |⟨e,hne,hj,hr⟩
 ·refine⟨.normal,⟨s.K,mG.set s.m.n (.loop ⟨T,ps,a,b,.exhausted,none,E.G⟩),min (min s.lo bG) s.m.n⟩,T,hdone _ _ (hI _ _ _ hi (hsetKy _ _ hnG)) (by omega),hk,by show s.m.n<=mG.n;omega,by show min (min s.lo bG) s.m.n<=mG.n;omega,n0,hex _ hr (by simp)⟩
 ·have hQe:Q e ⟨s.K,mG.set s.m.n (.loop ⟨T,ps,a,b,.exhausted,some e,E.G⟩),min (min s.lo bG) s.m.n⟩:=by
   obtain⟨p,hp,he,hq⟩:=hstop _ _ (min (min s.lo bG) s.m.n) hne (hJ _ _ _ hj (hsetKy _ ⟨T,ps,a,b,.exhausted,some e,E.G⟩ hnG)) (by omega)
   obtain⟨e',_,rfl⟩:=List.mem_map.1 hp
   cases he
   exact hq
  refine⟨e,⟨s.K,mG.set s.m.n (.loop ⟨T,ps,a,b,.exhausted,some e,E.G⟩),min (min s.lo bG) s.m.n⟩,T,hQe,hk,by show s.m.n<=mG.n;omega,by show min (min s.lo bG) s.m.n<=mG.n;omega,n0,hex _ hr (by simp)⟩
theorem dC:∀(c:Code) (rd:List Nat) (s:St) (Q:Ex->St->Prop),ta E (aI E X) c rd s Q->V E X c s Q
 |.skip,_,s,Q,h=>fun T hk hlo=>⟨_,s,T,h,hk,Nat.le_refl _,hlo,0,fun n _=>rfl⟩
 |.label _,_,s,Q,h=>fun T hk hlo=>⟨_,s,T,h,hk,Nat.le_refl _,hlo,0,fun n _=>rfl⟩
 |.exit id,_,s,Q,h=>fun T hk hlo=>⟨_,s,T,h,hk,Nat.le_refl _,hlo,0,fun n _=>rfl⟩
 |.ret,_,s,Q,h=>fun T hk hlo=>⟨_,s,T,h,hk,Nat.le_refl _,hlo,0,fun n _=>rfl⟩
 |.region id ops d,_,s,Q,h=>fun T hk hlo=>by
  obtain⟨s',T',hP,hk',hn,hlo',n0,hr⟩:=nh ops.toList 0 s _ h T hk hlo
  exact⟨_,s',T',hP,hk',hn,hlo',n0,fun n hn=>by simp only[aZ,hr n hn,Option.map_some]⟩
 |.seq a b,rd,s,Q,h=>by
  unfold ta at h
  cases hp:parts a with
  |false=>
   rw[hp,cond_false]at h
   exact V.seq ((dC a _ s _ h).mono fun e s' hq=>by
    cases e with
    |normal=>exact dC b rd s' Q hq
    |exit id=>exact hq
    |ret=>exact hq)
  |true=>
   rw[hp,cond_true]at h
   have ha:=dC a _ s _ h
   intro T hk hlo
   obtain⟨e,s1,T1,h1,hk1,hn1,hlo1,n1,hr1⟩:=ha T hk hlo
   cases e with
   |normal=>
    obtain⟨vs,hvs,h1⟩:=aS.1 h1
    have hkf:Kn (forget s.K (assigned a)) T1:=by
     intro t k ht
     have:=du a _ _ _ (hr1 n1 (Nat.le_refl _)) (jw _ _ ht).1
     dsimp only at this
     rw[this]
     exact hk t k (jw _ _ ht).2
    obtain⟨K',hk',hvc⟩:=nQ _ _ _ _ hkf (mh hk1 _ _ hvs) h1
    obtain⟨e,s2,T2,h2,hk2,hn2,hlo2,n2,hr2⟩:=dC b rd _ Q hvc T1 hk' hlo1
    exact⟨e,s2,T2,h2,hk2,Nat.le_trans hn1 hn2,hlo2,max n1 n2,fun n hn=>by simp only[aZ,hr1 n (by omega),hr2 n (by omega)]⟩
   |exit id=>exact⟨_,s1,T1,h1,hk1,hn1,hlo1,n1,fun n hn=>by simp only[aZ,hr1 n hn]⟩
   |ret=>exact⟨_,s1,T1,h1,hk1,hn1,hlo1,n1,fun n hn=>by simp only[aZ,hr1 n hn]⟩
 |.cond c x y,rd,s,Q,h=>fun T hk hlo=>by
  obtain⟨_,hb,h⟩:=aS.1 h
  obtain⟨b,rfl,h⟩:=vQ.1 h
  cases b with
  |true=>
   obtain⟨e,s',T',hP,hk',hn,hlo',n0,hr⟩:=dC x rd s Q h T hk hlo
   exact⟨e,s',T',hP,hk',hn,hlo',n0,fun n hn=>by simp only[aZ,aT hk hb,hr n hn,cond_true]⟩
  |false=>
   obtain⟨e,s',T',hP,hk',hn,hlo',n0,hr⟩:=dC y rd s Q h T hk hlo
   exact⟨e,s',T',hP,hk',hn,hlo',n0,fun n hn=>by simp only[aZ,aT hk hb,hr n hn,cond_false]⟩
 |.block id c,rd,s,Q,h=>fun T hk hlo=>by
  obtain⟨e,s',T',hP,hk',hn,hlo',n0,hr⟩:=dC c rd s _ h T hk hlo
  refine⟨_,s',T',hP,hk',hn,hlo',n0,fun n hn=>?_⟩
  have e1:=hr n hn
  cases e with
  |normal=>simp only[aZ,e1,Ex.Cg]
  |ret=>simp only[aZ,e1,Ex.Cg]
  |exit id'=>simp only[aZ,e1,Ex.Cg];cases Nat.beq id' id <;>rfl
 |.loop c,rd,s,Q,h=>by
  unfold ta at h
  obtain⟨vs0,hv0,γ,μ,I,⟨g0,hg0⟩,hI⟩:=aS.1 h
  refine V.N0 μ (fun g T m lo=>∃vs,I g vs m lo/\TV T (carried s.K (assigned c) []) vs/\Kn (forget s.K (assigned c)) T) g0 (fun T hk=>⟨vs0,hg0,mh hk _ _ hv0,fun t k ht=>hk t k (jw _ _ ht).2⟩) ?_
  rintro g T m lo ⟨vs,hIv,htv,hkf⟩ hlo
  obtain⟨K',hk',hvc⟩:=nQ _ _ _ _ hkf htv (hI g vs m lo hIv)
  obtain⟨e,s',T',hQ,hk2,hn,hlo',n0,hr⟩:=dC c _ _ _ hvc T hk' hlo
  refine⟨e,s',T',?_,hk2,hn,hlo',n0,hr⟩
  cases e with
  |normal=>
   obtain⟨vs',hvs',g',hlt,hI'⟩:=aS.1 hQ
   refine⟨g',hlt,vs',hI',mh hk2 _ _ hvs',?_⟩
   intro t k ht
   have:=du c _ _ _ (hr n0 (Nat.le_refl _)) (jw _ _ ht).1
   dsimp only at this
   rw[this]
   exact hkf t k ht
  |exit id=>exact hQ
  |ret=>exact hQ
 |.scope c,rd,s,Q,h=>fun T hk hlo=>by
  obtain⟨e,s',T',hP,hk',hn,hlo',n0,hr⟩:=dC c rd s Q h T hk hlo
  exact⟨e,s',T',hP,hk',hn,hlo',n0,fun n hn=>by simp only[aZ,hr n hn]⟩
 |.rangeFunc f ps a b,_,s,Q,h=>by
  obtain⟨_,hf,h⟩:=aS.1 h
  obtain⟨gf,fi,ca,rfl,h⟩:=xZ.1 h
  exact V.rangeFunc (fun s Q h=>dC a _ s Q h) (fun s Q h=>dC b _ s Q h) hf h
 |.goto l,_,s,Q,h=>h.elim
 |.refuse y,_,s,Q,h=>h.elim
theorem um:∀(vs:List Value) (i:Nat),Kn (AF vs i) (enter vs i)
 |[],_=>fun _ _ h=>by cases h
 |v::vs,i=>by
  have:=(um vs (i+1)).put (some i) (.v v)
  exact this
theorem kF{K:KT}{T:Tr Value}(h:Kn K T){m:M}:∀{rs:List ResultVar} {f:List Value->Prop},Df E K m rs f->∃vs,f vs/\∀l,eQ E T (m.wl l) rs=some vs
 |[],f,hr=>⟨[],hr,fun _=>rfl⟩
 |.tmp t::rs,f,hr=>by
  obtain⟨v,hv,hr⟩:=aS.1 hr
  obtain⟨vs,hf,hrs⟩:=kF h hr
  refine⟨_,hf,fun l=>?_⟩
  split at hv
  ·rename_i k hk
   cases hv
   simp only[eQ,iY,gk,h t k hk,Option.getD_some,hrs]
  ·cases hv
 |.cell a t::rs,f,hr=>by
  obtain⟨p,hp,hr⟩:=aS.1 hr
  obtain⟨v,hv,hr⟩:=aS.1 hr
  obtain⟨vs,hf,hrs⟩:=kF h hr
  refine⟨_,hf,fun l=>?_⟩
  split at hp
  ·rename_i k hk
   cases hp
   unfold ag at hv
   split at hv
   ·rename_i p' a' hk'
    have e:gk T a=.pointer (some a'):=by simp only[gk,h a _ hk,Option.getD_some,hk']
    simp only[eQ,iY,e,se,hv,hrs]
   ·cases hv
  ·cases hp
theorem rE{T:Tr Value}{m:M}{fn:Func}{vs:List Value}(h:eQ E T m fn.results.toList=some vs):result? E fn T m=some (aR vs):=by
 unfold result?
 rw[h]
 match vs with
 |[]=>rfl
 |[v]=>rfl
 |_::_::_=>rfl
def KI(X:aF)(f:Nat):Prop:=∀args m,X (.func f) args m=none
theorem Cl.body{f:Nat}{fn:Func}{args:List Value}{m:M}{R:List Value->M->Nat->Prop}(hX:KI X f)(hf:E.fn.get f=some fn)(hl:Nat.ble args.length fn.ntmps=true)
  (h:dt E (aI E X) fn args m R):
  ∃vs m' lo,R vs m' lo/\m.n<=m'.n/\∃n0,∀n,n0<=n->∀l,l<=m.n->
   bN E X n (.func f) args (m.wl l)=some (bif bD (aR vs) && Nat.ble m.n lo then(aR vs,m.wl l)else(aR vs,m'.wl (min l lo))):=by
 unfold dt at h
 split at h
 ·rename_i body hb
  obtain⟨e,s',T',hpost,hk',hn,hlo',n0,hr⟩:=dC _ _ _ _ h (enter args 0) (um _ _) (Nat.le_refl _)
  have hend:(∀id,e≠.exit id)/\Df E s'.K s'.m fn.results.toList fun vs=>R vs s'.m s'.lo:=by
   cases e with
   |exit id=>exact hpost.elim
   |normal=>exact⟨fun _ h=>(by cases h),hpost⟩
   |ret=>exact⟨fun _ h=>(by cases h),hpost⟩
  obtain⟨hne,hres⟩:=hend
  obtain⟨vs,hR,hres⟩:=kF hk' hres
  refine⟨vs,s'.m,s'.lo,hR,hn,n0+1,fun n hn' l hl'=>?_⟩
  obtain⟨n,rfl⟩:∃k,n=k+1:=⟨n-1,by omega⟩
  have e1':aZ E (bN E X n) n body {T:=enter args 0,m:={m.wl l with low:=(m.wl l).n}}=some (e,⟨T',s'.m.wl s'.lo⟩):=hr n (by omega)
  have hr2:=rE (fn:=fn) (hres s'.lo)
  have hX':X (.func f) args (m.wl l)=none:=hX _ _
  have fin:(bif bD (aR vs) && Nat.ble (m.wl l).n (s'.m.wl s'.lo).low then some (aR vs,m.wl l)else some (aR vs,{s'.m.wl s'.lo with low:=min (m.wl l).low (s'.m.wl s'.lo).low}))=
    some (bif bD (aR vs) && Nat.ble m.n s'.lo then(aR vs,m.wl l)else(aR vs,s'.m.wl (min l s'.lo))):=by
   cases hc:(bD (aR vs) && Nat.ble m.n s'.lo)with
   |true=>
    have:(bD (aR vs) && Nat.ble (m.wl l).n (s'.m.wl s'.lo).low)=true:=hc
    rw[this];rfl
   |false=>
    have:(bD (aR vs) && Nat.ble (m.wl l).n (s'.m.wl s'.lo).low)=false:=hc
    rw[this];rfl
  cases e with
  |exit id=>exact(hne id rfl).elim
  |normal=>
   simp only[bN,hX',hf,hb,hl,cond_true,e1',hr2]
   exact fin
  |ret=>
   simp only[bN,hX',hf,hb,hl,cond_true,e1',hr2]
   exact fin
 ·exact h.elim
theorem Cl.BD{f:Nat}{args:List Value}{vs:List Value}{m m':M}{lo:Nat}(hn:m.n<=m'.n)(hc:bD (aR vs)=false\/lo < m.n)
  (h:∃n0,∀n,n0<=n->∀l,l<=m.n->bN E X n (.func f) args (m.wl l)=some (bif bD (aR vs) && Nat.ble m.n lo then(aR vs,m.wl l)else(aR vs,m'.wl (min l lo)))):Cl E X (.func f) args m (min m.n lo) (aR vs) m':=by
 obtain⟨n0,h⟩:=h
 refine⟨hn,Nat.min_le_left _ _,n0,fun n hn l hl=>?_⟩
 have:(bD (aR vs) && Nat.ble m.n lo)=false:=by
  rcases hc with hv |hv
  ·rw[hv];rfl
  ·have:Nat.ble m.n lo=false:=by
    cases hc:Nat.ble m.n lo with
    |false=>rfl
    |true=>have:=Nat.le_of_ble_eq_true hc;omega
   rw[this,Bool.and_false]
 have e:min l (min m.n lo)=min l lo:=by omega
 rw[h n hn l hl,this,e]
 rfl
theorem Cl.of_flat{f:Nat}{args:List Value}{vs:List Value}{m m':M}{lo:Nat}(hv:bD (aR vs)=true)(hlo:m.n<=lo)
  (h:∃n0,∀n,n0<=n->∀l,l<=m.n->bN E X n (.func f) args (m.wl l)=some (bif bD (aR vs) && Nat.ble m.n lo then(aR vs,m.wl l)else(aR vs,m'.wl (min l lo)))):Cl E X (.func f) args m m.n (aR vs) m:=by
 obtain⟨n0,h⟩:=h
 refine⟨Nat.le_refl _,Nat.le_refl _,n0,fun n hn l hl=>?_⟩
 have:Nat.ble m.n lo=true:=Nat.ble_eq_true_of_le hlo
 rw[h n hn l hl,hv,this,Nat.min_eq_left hl]
 rfl
theorem Cl.flat{f:Nat}{fn:Func}{args:List Value}{m:M}{v:Value}(hX:KI X f)(hf:E.fn.get f=some fn)(hl:Nat.ble args.length fn.ntmps=true)(hv:bD v=true)
  (h:dt E (aI E X) fn args m fun vs m' lo=>aR vs=v/\m.n<=lo):Cl E X (.func f) args m m.n v m:=by
 obtain⟨vs,s,lo,⟨rfl,hlo⟩,_,hr⟩:=Cl.body hX hf hl h
 exact .of_flat hv hlo hr
theorem Cl.heap{f:Nat}{fn:Func}{args:List Value}{m:M}{R:Value->M->Nat->Prop}(hX:KI X f)(hf:E.fn.get f=some fn)(hl:Nat.ble args.length fn.ntmps=true)
  (h:dt E (aI E X) fn args m fun vs m' lo=>(bD (aR vs)=false\/lo < m.n)/\R (aR vs) m' (min m.n lo)):
  ∃v m' b,Cl E X (.func f) args m b v m'/\R v m' b:=by
 obtain⟨vs,s,lo,⟨hv,hR⟩,hn,hr⟩:=Cl.body hX hf hl h
 exact⟨_,_,_,.BD hn hv hr,hR⟩
theorem Cl.gen{f:Nat}{fn:Func}{args:List Value}{m:M}{R:Value->M->Nat->Prop}(hX:KI X f)(hf:E.fn.get f=some fn)(hl:Nat.ble args.length fn.ntmps=true)
  (h:dt E (aI E X) fn args m fun vs m' lo=>(bD (aR vs)=true/\m.n<=lo/\R (aR vs) m m.n)\/((bD (aR vs)=false\/lo < m.n)/\R (aR vs) m' (min m.n lo))):
  ∃v m' b,Cl E X (.func f) args m b v m'/\R v m' b:=by
 obtain⟨vs,s,lo,h,hn,hr⟩:=Cl.body hX hf hl h
 rcases h with⟨hv,hlo,hR⟩ |⟨hv,hR⟩
 ·exact⟨_,_,_,.of_flat hv hlo hr,hR⟩
 ·exact⟨_,_,_,.BD hn hv hr,hR⟩
theorem Cl.known{f:Fn}{args:List Value}{m m':M}{v:Value}(hX:∀l,X f args (m.wl l)=some (v,m'.wl l))(hn:m.n<=m'.n)(hf:∃k,f=.func k):Cl E X f args m m.n v m':=by
 obtain⟨k,rfl⟩:=hf
 refine⟨hn,Nat.le_refl _,1,fun n hn l hl=>?_⟩
 obtain⟨n,rfl⟩:∃j,n=j+1:=⟨n-1,by omega⟩
 simp only[bN,hX,Nat.min_eq_left hl]
theorem Cl.GK{k:Nat}{args:List Value}{m m':M}{b:Nat}{v:Value}(hX:∀l,l<=m.n->X (.func k) args (m.wl l)=some (v,m'.wl (min l b)))(hn:m.n<=m'.n)(hb:b<=m.n):Cl E X (.func k) args m b v m':=by
 refine⟨hn,hb,1,fun n hn l hl=>?_⟩
 obtain⟨n,rfl⟩:∃j,n=j+1:=⟨n-1,by omega⟩
 simp only[bN,hX l hl]
theorem aC{f:Fn}{args:List Value}{m m1:M}{v:Value}{b:Nat}{P:Value->M->Nat->Prop}(h:Cl E X f args m b v m1)(hP:P v m1 b):bz E X f args m P:=⟨v,m1,b,h,hP⟩
end
end Go.D
namespace Go.D
open Go
section
variable {E:Env} {X:aF} {k:IntKind} {t:TypeId} {a b:Int}
theorem cK:aq E .leq t (.int k a) (.int k b)=some (.bool (decide (a<=b))):=by simp[aq,gg]
theorem aH:aq E .lss t (.int k a) (.int k b)=some (.bool (decide (a < b))):=by simp[aq,gg]
theorem ck:aq E .geq t (.int k a) (.int k b)=some (.bool (decide (b<=a))):=by simp[aq,gg]
theorem bX:aq E .gtr t (.int k a) (.int k b)=some (.bool (decide (b < a))):=by simp[aq,gg]
theorem bE:aq E .eql t (.int k a) (.int k b)=some (.bool (decide (a=b))):=by simp[aq,gg];rfl
theorem bI:aq E .neq t (.int k a) (.int k b)=some (.bool (!(decide (a=b)))):=by simp[aq,gg,bne];rfl
theorem aG:aq E .add t (.int k a) (.int k b)=some (.int k (k.wrap (a+b))):=by simp[aq,gg]
theorem cz:aq E .sub t (.int k a) (.int k b)=some (.int k (k.wrap (a-b))):=by simp[aq,gg]
theorem cA:aq E .mul t (.int k a) (.int k b)=some (.int k (k.wrap (a*b))):=by simp[aq,gg]
theorem eL(h:b≠0):aq E .quo t (.int k a) (.int k b)=some (.int k (k.wrap (a.tdiv b))):=by simp[aq,gg,h]
theorem mM(h:b≠0):aq E .rem t (.int k a) (.int k b)=some (.int k (a.tmod b)):=by simp[aq,gg,h]
theorem aX{b:Bool}:fK .not (.bool b)=some (.bool (!b)):=rfl
theorem uL:fK .neg (.int k a)=some (.int k (k.wrap (0-a))):=rfl
theorem wrap64{x:Int}(h1: -9223372036854775808<=x)(h2:x < 9223372036854775808):IntKind.i64.wrap x=x:=by
 have e:IntKind.i64.wrap x=if x%18446744073709551616>=9223372036854775808 then x%18446744073709551616-18446744073709551616 else x%18446744073709551616:=by
  unfold IntKind.wrap
  simp[IntKind.bits,IntKind.signed]
 rw[e]
 split <;>omega
theorem tE{x:Int}(h1:0<=x)(h2:x < 256):IntKind.u8.wrap x=x:=by
 unfold IntKind.wrap
 simp only[IntKind.bits,IntKind.signed,Bool.false_and]
 simp only[Bool.false_eq_true,if_false]
 omega
theorem aj{b:Bool}{P Q:Prop}:aW (.bool b) P Q=LJ b P Q:=rfl
theorem bU{g:Fn}{fi ca:Array Value}{P:Fn->Array Value->Array Value->Prop}:oG (.func g fi ca) P=P g fi ca:=rfl
theorem aA{v:Value}{r:List Value}{P:Value->List Value->Prop}:un (v::r) P=P v r:=rfl
theorem di{a:Addr}:lO (.pointer (some a))=some (.pointer (some a)):=rfl
theorem dj{f:FuncId}{a b:Array Value}:lO (.func (.func f) a b)=some (.func (.func f) a b):=rfl
theorem bw{vs:Array Value}{i:Nat}:cj (.tuple vs) i=vs.toList[i]?:=rfl
theorem aP{cs:Array Value}:cells (.agg cs)=cs.toList:=rfl
theorem dI{x:Int}:cells (.int k x)=[.int k x]:=rfl
theorem dm{x:Bool}:cells (.bool x)=[.bool x]:=rfl
theorem cP{a:Option Addr}{n c:Nat}:cells (.slice a n c)=[.slice a n c]:=rfl
theorem dG{a:Option Addr}:cells (.pointer a)=[.pointer a]:=rfl
theorem dH{a:Option Nat}:cells (.map a)=[.map a]:=rfl
theorem dk{f:Fn}{a b:Array Value}:cells (.func f a b)=[.func f a b]:=rfl
theorem ak{b:Bool}{P Q:Prop}(h1:b=true->P)(h2:b=false->Q):LJ b P Q:=Jp.2 ⟨h1,h2⟩
theorem bJ{P Q:Prop}:LJ true P Q=P:=rfl
theorem aM{P Q:Prop}:LJ false P Q=Q:=rfl
theorem Lp.intro{F:(List Value->M->Nat->Prop)->List Value->M->Nat->Prop}{vs:List Value}{m:M}{lo:Nat}{γ:Type}(μ:γ->Nat)(I:γ->List Value->M->Nat->Prop)(g0:γ)(h0:I g0 vs m lo)
  (hs:∀g vs m lo,I g vs m lo->F (fun vs m lo=>∃g',μ g' < μ g/\I g' vs m lo) vs m lo):Lp F vs m lo:=⟨γ,μ,I,⟨g0,h0⟩,hs⟩
end
section
variable {m m' m1:M} {b c:Nat} {o:Ob}
theorem M.jc(h:b < m.n):m.get b=(m.st.get b).getD .dead:=by
 unfold M.get
 have:Nat.blt b m.n=true:=by rw[Nat.blt_eq];exact h
 rw[this];rfl
theorem M.gL(h:m.n<=b):m.get b=.dead:=by
 unfold M.get
 have:Nat.blt b m.n=false:=by
  cases hc:Nat.blt b m.n with
  |false=>rfl
  |true=>rw[Nat.blt_eq]at hc;omega
 rw[this];rfl
theorem M.aN:(m.push o).get m.n=o:=by
 rw[M.jc (by rw[M.uU];omega)]
 show((m.st.set m.n o).get m.n).getD .dead=o
 rw[Tr.bL,if_pos rfl];rfl
theorem M.bF(h:b < m.n):(m.push o).get b=m.get b:=by
 rw[M.jc (by rw[M.uU];omega),M.jc h]
 show((m.st.set m.n o).get b).getD .dead=_
 rw[Tr.bL,if_neg (by omega)]
theorem M.dr(h:b < m.n):(m.set b o).get b=o:=by
 rw[M.jc (m:=m.set b o) h]
 show((m.st.set b o).get b).getD .dead=_
 rw[Tr.bL,if_pos rfl];rfl
theorem M.bZ(h:c≠b):(m.set b o).get c=m.get c:=by
 by_cases hc:c < m.n
 ·rw[M.jc hc,M.jc (m:=m.set b o) hc]
  show((m.st.set b o).get c).getD .dead=_
  rw[Tr.bL,if_neg h]
 ·rw[M.gL (m:=m) (by omega),M.gL (m:=m.set b o) (by show m.n<=c;omega)]
theorem M.aV{cs:List Value}{e:TypeId}{g:Option Nat}(h:m.get b=.cells cs e g):b < m.n:=by
 by_cases hc:b < m.n
 ·exact hc
 ·rw[M.gL (by omega)]at h;cases h
theorem M.uc{es:List MapEntry}{g:Nat}(h:m.get b=.map es g):b < m.n:=by
 by_cases hc:b < m.n
 ·exact hc
 ·rw[M.gL (by omega)]at h;cases h
theorem au{P:M->Prop}(h:∀m1,m1.n=m.n+1->m1.get m.n=o->(∀b,b < m.n->m1.get b=m.get b)->P m1):bW (m.push o) P:=
 h _ rfl M.aN fun _ hb=>M.bF hb
theorem Ext.refl:Ext m m:=⟨Nat.le_refl _,fun _ _=>rfl⟩
theorem Ext.trans(h:Ext m m1)(h':Ext m1 m'):Ext m m':=⟨Nat.le_trans h.n h'.n,fun b hb=>by rw[h'.get b (Nat.lt_of_lt_of_le hb h.n),h.get b hb]⟩
theorem Ext.push(h:Ext m m1):Ext m (m1.push o):=⟨Nat.le_trans h.n (Nat.le_succ _),fun b hb=>by rw[M.bF (Nat.lt_of_lt_of_le hb h.n),h.get b hb]⟩
theorem Ext.set(h:Ext m m1)(hb:m.n<=b):Ext m (m1.set b o):=⟨h.n,fun c hc=>by rw[M.bZ (by omega),h.get c hc]⟩
theorem Ext.wl(h:Ext m m1){l:Nat}:Ext m (m1.wl l):=⟨h.n,h.get⟩
theorem Ext.cells{cs:List Value}{e:TypeId}{g:Option Nat}(h:Ext m m1)(hb:m.get b=.cells cs e g):m1.get b=.cells cs e g:=by rw[h.get b (M.aV hb),hb]
theorem av{cs:List Value}{e:TypeId}{g:Option Nat}{o:Nat}(h:m.get b=.cells cs e g):cellAt m ⟨b,o,none⟩=cs[o]?:=by
 unfold cellAt;simp only[h];rfl
theorem aE{cs:List Value}{e:TypeId}{g:Option Nat}{o n:Nat}(h:m.get b=.cells cs e g)(hl:o+n<=cs.length):loadCells m ⟨b,o,none⟩ n=some ((cs.drop o).take n):=by
 unfold loadCells
 simp only[h]
 have:Nat.ble (o+n) cs.length=true:=Nat.ble_eq_true_of_le hl
 rw[this];rfl
theorem tf{cs vs:List Value}{e:TypeId}{g:Option Nat}{o:Nat}(h:m.get b=.cells cs e g)(hl:o+vs.length<=cs.length)(h1:vs.all one=true):
  storeCells m ⟨b,o,none⟩ vs=some (m.set b (.cells (cs.take o++(vs++cs.drop (o+vs.length))) e g)):=by
 unfold storeCells
 simp only[h]
 have:Nat.ble (o+vs.length) cs.length=true:=Nat.ble_eq_true_of_le hl
 rw[this,h1];rfl
end
class aL (α:Type) where
 ty:TypeId
 sz:Nat
 agg:Bool
 fR:List TypeId
 rep:M->α->List Value->Prop
 pos:0 < sz
 one:agg=false->sz=1
 len:∀{m x cs},rep m x cs->cs.length=sz
 nB:∀{m x cs},rep m x cs->cs.all D.one=true
 bt:∀{m m' x cs},rep m x cs->(∀b c t g,m.get b=.cells c t g->t∈fR->m'.get b=.cells c t g)->rep m' x cs
namespace aL
def val(α:Type)[aL α](cs:List Value):Value:=bif agg α then .agg cs.toArray else cs.headD undef
theorem aB{α:Type}[aL α]{m m':M}{x:α}{cs:List Value}(h:rep m x cs)(he:Ext m m'):rep m' x cs:=bt h fun _ _ _ _ hb _=>he.cells hb
end aL
def Sl{α:Type}[aL α](m:M)(l:List α)(v:Value):Prop:=
 (v=.slice none 0 0/\l=[])\/∃b o c bc g,v=.slice (some ⟨b,o,none⟩) l.length c/\m.get b=.cells bc (aL.ty α) g/\o+l.length*aL.sz α<=bc.length/\
  ∀i x,l[i]?=some x->aL.rep m x ((bc.drop (o+i*aL.sz α)).take (aL.sz α))
theorem Sl.bt{α:Type}[aL α]{m m':M}{l:List α}{v:Value}(h:Sl m l v)(hk:∀b c t g,m.get b=.cells c t g->t∈aL.ty α::aL.fR α->m'.get b=.cells c t g):Sl m' l v:=by
 rcases h with h |⟨b,o,c,bc,g,h1,h2,h3,h4⟩
 ·exact .inl h
 ·exact .inr ⟨b,o,c,bc,g,h1,hk _ _ _ _ h2 List.mem_cons_self,h3,fun i x hi=>aL.bt (h4 i x hi) fun b c t g hb ht=>hk b c t g hb (List.mem_cons_of_mem _ ht)⟩
theorem Sl.aB{α:Type}[aL α]{m m':M}{l:List α}{v:Value}(h:Sl m l v)(he:Ext m m'):Sl m' l v:=h.bt fun _ _ _ _ hb _=>he.cells hb
theorem Sl.form{α:Type}[aL α]{m:M}{l:List α}{v:Value}(h:Sl m l v):∃a c,v=.slice a l.length c:=by
 rcases h with⟨rfl,rfl⟩ |⟨b,o,c,bc,g,rfl,_⟩
 ·exact⟨_,_,rfl⟩
 ·exact⟨_,_,rfl⟩
theorem Sl.one{α:Type}[aL α]{m:M}{l:List α}{v:Value}(h:Sl m l v):one v=true:=by
 obtain⟨a,c,rfl⟩:=h.form;rfl
theorem Sl.nil{α:Type}[aL α]{m:M}:Sl m ([]:List α) (.slice none 0 0):=.inl ⟨rfl,rfl⟩
theorem Sl.cells{α:Type}[aL α]{m:M}{l:List α}{v:Value}(h:Sl m l v):D.cells v=[v]:=by
 obtain⟨a,c,rfl⟩:=h.form;rfl
def uF(E:Env)(T t:TypeId)(α:Type)[aL α]:Prop:=
 ∃ti te,E.ty.get T=some ti/\(∃e,ti.d=.slice e)/\ti.es=aL.sz α/\E.ty.get t=some te/\te.d.agg=aL.agg α/\te.size=aL.sz α
section
variable {E:Env} {m:M} {T t:TypeId} {α:Type} [aL α] {l:List α} {v:Value}
theorem Sl.len(h:Sl m l v)(hT:uF E T t α):an E m .len [T] [v]=some (.int .i64 l.length,m):=by
 obtain⟨ti,te,h1,⟨e,h2⟩,_⟩:=hT
 obtain⟨a,c,rfl⟩:=h.form
 simp only[an,nF,h1,h2,Option.map_some]
theorem Sl.index(h:Sl m l v)(hT:uF E T t α){k:IntKind}{i:Nat}{x:α}(hi:l[i]?=some x):
  ∃p cs,ai E T v (.int k i)=some p/\ag E m t p=some (aL.val α cs)/\aL.rep m x cs:=by
 obtain⟨ti,te,h1,⟨e,h2⟩,h3,h4,h5,h6⟩:=hT
 have hlt:=(List.getElem?_eq_some_iff.1 hi).1
 rcases h with⟨_,rfl⟩ |⟨b,o,c,bc,g,rfl,hb,hlen,hel⟩
 ·simp at hi
 ·have hr:=hel i x hi
  have hpos:=aL.pos (α:=α)
  refine⟨.pointer (some ⟨b,o+i*aL.sz α,none⟩),_,?_,?_,hr⟩
  ·have hc:0<=(i:Int)/\(i:Int)< (l.length:Int)/\0 < ti.es:=⟨by omega,by omega,by omega⟩
   simp only[ai,h1,h2]
   rw[if_pos hc,bC rfl,h3]
   rfl
  ·have hle:o+i*aL.sz α+aL.sz α<=bc.length:=by
    have:(i+1)*aL.sz α<=l.length*aL.sz α:=Nat.mul_le_mul_right _ hlt
    rw[Nat.add_mul,Nat.one_mul]at this
    omega
   simp only[ag,loadVar,h4]
   unfold aL.val
   cases ha:aL.agg α with
   |true=>
    rw[h5,ha,h6]
    simp only[cond_true]
    rw[aE hb hle];rfl
   |false=>
    rw[h5,ha]
    simp only[cond_false]
    rw[av hb]
    have h1':=aL.len hr
    have hs:=aL.one ha
    rw[hs]at h1'⊢
    simp only[hs]at hle
    rw[List.headD_eq_head?_getD,List.head?_take,List.head?_drop,if_neg (by omega)]
    have hlt2:o+i*1 < bc.length:=by omega
    rw[List.getElem?_eq_getElem hlt2]
    rfl
end
theorem lE{E:Env}{m:M}{t:TypeId}{ti:TI}{b o:Nat}{cs:List Value}{e:TypeId}{g:Option Nat}{x:Value}(ht:E.ty.get t=some ti)(h:m.get b=.cells cs e g)(hs:(cells x).length=ti.size)(hl:o+(cells x).length<=cs.length)(h1:(cells x).all one=true):
  aw E m t (.pointer (some ⟨b,o,none⟩)) x=some (m.set b (.cells (cs.take o++(cells x++cs.drop (o+(cells x).length))) e g),b):=by
 have:Nat.beq (cells x).length ti.size=true:=by rw[hs];exact Nat.beq_refl _
 simp only[aw,storeVar,ht,this,cond_true,tf h hl h1]
theorem bM{E:Env}{m:M}{t:TypeId}{ti:TI}{b o:Nat}{cs:List Value}{e:TypeId}{g:Option Nat}{x:Value}{P:M->Nat->Prop}(ht:E.ty.get t=some ti)(h:m.get b=.cells cs e g)(hs:(cells x).length=ti.size)(hl:o+(cells x).length<=cs.length)(h1:(cells x).all one=true)
  (hP:∀m1,m1.n=m.n->m1.get b=.cells (cs.take o++(cells x++cs.drop (o+(cells x).length))) e g->(∀c,c≠b->m1.get c=m.get c)->P m1 b):aK (aw E m t (.pointer (some ⟨b,o,none⟩)) x) P:=by
 rw[lE ht h hs hl h1,ar]
 exact hP _ rfl (M.dr (M.aV h)) fun c hc=>M.bZ hc
theorem Sl.kQ{E:Env}{m:M}{T t:TypeId}{α:Type}[aL α]{l:List α}{v:Value}(h:Sl m l v)(hT:uF E T t α){k:IntKind}{i:Nat}{x:α}(hi:l[i]?=some x):
  ∃b o bc g cs,ai E T v (.int k i)=some (.pointer (some ⟨b,o,none⟩))/\m.get b=.cells bc (aL.ty α) g/\aL.rep m x cs/\o+aL.sz α<=bc.length/\∀j,j < aL.sz α->bc[o+j]?=cs[j]?:=by
 obtain⟨ti,te,h1,⟨e,h2⟩,h3,h4,h5,h6⟩:=hT
 have hlt:=(List.getElem?_eq_some_iff.1 hi).1
 rcases h with⟨_,rfl⟩ |⟨b,o,c,bc,g,rfl,hb,hlen,hel⟩
 ·simp at hi
 ·have hr:=hel i x hi
  have hpos:=aL.pos (α:=α)
  refine⟨b,o+i*aL.sz α,bc,g,_,?_,hb,hr,?_,fun j hj=>?_⟩
  ·have hc:0<=(i:Int)/\(i:Int)< (l.length:Int)/\0 < ti.es:=⟨by omega,by omega,by omega⟩
   simp only[ai,h1,h2]
   rw[if_pos hc,bC rfl,h3]
   rfl
  ·have:(i+1)*aL.sz α<=l.length*aL.sz α:=Nat.mul_le_mul_right _ hlt
   rw[Nat.add_mul,Nat.one_mul]at this
   omega
  ·rw[List.getElem?_take_of_lt hj,List.getElem?_drop]
theorem aD{E:Env}{m:M}{t:TypeId}{ti:TI}{b:Nat}{cs:List Value}{e:TypeId}{g:Option Nat}{x:Value}{P:M->Nat->Prop}(ht:E.ty.get t=some ti)(h:m.get b=.cells cs e g)(hs:(cells x).length=ti.size)(hl:(cells x).length=cs.length)(h1:(cells x).all one=true)
  (hP:∀m1,m1.n=m.n->m1.get b=.cells (cells x) e g->(∀c,c≠b->m1.get c=m.get c)->P m1 b):aK (aw E m t (.pointer (some ⟨b,0,none⟩)) x) P:=by
 refine bM ht h hs (by omega) h1 fun m1 hn hg hk=>hP m1 hn ?_ hk
 rw[hg,List.take_zero,List.nil_append,List.drop_eq_nil_of_le (by omega),List.append_nil]
end Go.D
namespace Go.D
open Go
structure uG(n1:Nat)(m m1:M):Prop where
 n:m.n<=m1.n
 get:∀c,c < n1->m1.get c=m.get c
theorem uG.refl{n1:Nat}{m:M}:uG n1 m m:=⟨Nat.le_refl _,fun _ _=>rfl⟩
theorem uG.trans{n1:Nat}{m m1 m2:M}(h:uG n1 m m1)(h':uG n1 m1 m2):uG n1 m m2:=⟨Nat.le_trans h.n h'.n,fun c hc=>by rw[h'.get c hc,h.get c hc]⟩
theorem uG.ext{m m1:M}(h:uG m.n m m1):Ext m m1:=⟨h.n,h.get⟩
theorem Ext.fr{m m1:M}(h:Ext m m1){n1:Nat}(hn:n1<=m.n):uG n1 m m1:=⟨h.n,fun c hc=>h.get c (by omega)⟩
theorem uG.mono{n1 n2:Nat}{m m1:M}(h:uG n1 m m1)(hn:n2<=n1):uG n2 m m1:=⟨h.n,fun c hc=>h.get c (by omega)⟩
def chunk(cs:List Value)(k i:Nat):List Value:=(cs.drop (i*k)).take k
theorem dQ{a b:List Value}{k n i:Nat}(ha:a.length=n*k)(hi:i < n):chunk (a++b) k i=chunk a k i:=by
 unfold chunk
 have:(i+1)*k<=n*k:=Nat.mul_le_mul_right _ hi
 rw[Nat.add_mul,Nat.one_mul]at this
 rw[List.drop_append_of_le_length (by omega),List.take_append_of_le_length (by rw[List.length_drop];omega)]
theorem cL{a b:List Value}{k n i:Nat}(ha:a.length=n*k)(hi:n<=i):chunk (a++b) k i=chunk b k (i-n):=by
 unfold chunk
 have:n*k<=i*k:=Nat.mul_le_mul_right _ hi
 rw[List.drop_append,ha,List.drop_eq_nil_of_le (by omega),List.nil_append,Nat.sub_mul]
theorem Ep{bc:List Value}{o k n i:Nat}(hi:i < n):chunk ((bc.drop o).take (n*k)) k i=(bc.drop (o+i*k)).take k:=by
 unfold chunk
 have:(i+1)*k<=n*k:=Nat.mul_le_mul_right _ hi
 rw[Nat.add_mul,Nat.one_mul]at this
 rw[List.drop_take,List.drop_drop,List.take_take]
 congr 1
 omega
theorem sW{p:Value->Bool}{k:Nat}:∀(n:Nat) (cs:List Value),cs.length=n*k->(∀i,i < n->(chunk cs k i).all p=true)->cs.all p=true
 |0,cs,hl,_=>by
  have:cs=[]:=List.eq_nil_of_length_eq_zero (by simpa using hl)
  rw[this];rfl
 |n+1,cs,hl,h=>by
  rw[Nat.add_mul,Nat.one_mul]at hl
  have h0:=h 0 (by omega)
  simp only[chunk,Nat.zero_mul,List.drop_zero]at h0
  have hd:=sW (k:=k) n (cs.drop k) (by rw[List.length_drop];omega) fun i hi=>by
   have:=h (i+1) (by omega)
   simp only[chunk,Nat.add_mul,Nat.one_mul]at this
   simp only[chunk,List.drop_drop]
   rw[Nat.add_comm k]
   exact this
  rw[<-List.take_append_drop k cs,List.all_append,h0,hd];rfl
def Ow{α:Type}[aL α](n1:Nat)(m:M)(l:List α)(v:Value):Prop:=
 (v=.slice none 0 0/\l=[])\/∃b cs,v=.slice (some ⟨b,0,none⟩) l.length l.length/\0 < l.length/\n1<=b/\m.get b=.cells cs (aL.ty α) (some (aL.sz α))/\cs.length=l.length*aL.sz α/\
  ∀i x,l[i]?=some x->aL.rep m x (chunk cs (aL.sz α) i)
theorem Ow.nil{α:Type}[aL α]{n1:Nat}{m:M}:Ow n1 m ([]:List α) (.slice none 0 0):=.inl ⟨rfl,rfl⟩
theorem Ow.sl{α:Type}[aL α]{n1:Nat}{m:M}{l:List α}{v:Value}(h:Ow n1 m l v):Sl m l v:=by
 rcases h with h |⟨b,cs,h1,h2,h3,h4,h5,h6⟩
 ·exact .inl h
 ·refine .inr ⟨b,0,_,cs,_,h1,h4,by omega,fun i x hi=>?_⟩
  rw[Nat.zero_add]
  exact h6 i x hi
theorem Ow.bt{α:Type}[aL α]{n1:Nat}{m m':M}{l:List α}{v:Value}(h:Ow n1 m l v)(hk:∀b c t g,m.get b=.cells c t g->t∈aL.ty α::aL.fR α->m'.get b=.cells c t g):Ow n1 m' l v:=by
 rcases h with h |⟨b,cs,h1,h2,h3,h4,h5,h6⟩
 ·exact .inl h
 ·exact .inr ⟨b,cs,h1,h2,h3,hk _ _ _ _ h4 List.mem_cons_self,h5,fun i x hi=>aL.bt (h6 i x hi) fun b c t g hb ht=>hk b c t g hb (List.mem_cons_of_mem _ ht)⟩
theorem Ow.aB{α:Type}[aL α]{n1:Nat}{m m':M}{l:List α}{v:Value}(h:Ow n1 m l v)(he:Ext m m'):Ow n1 m' l v:=h.bt fun _ _ _ _ hb _=>he.cells hb
theorem Ow.mono{α:Type}[aL α]{n1 n2:Nat}{m:M}{l:List α}{v:Value}(h:Ow n1 m l v)(hn:n2<=n1):Ow n2 m l v:=by
 rcases h with h |⟨b,cs,h1,h2,h3,h4⟩
 ·exact .inl h
 ·exact .inr ⟨b,cs,h1,h2,by omega,h4⟩
theorem Ow.flat{α:Type}[aL α]{n1:Nat}{m:M}{l:List α}{v:Value}(h:Ow n1 m l v)(hl:l≠ []):bD v=false:=by
 rcases h with⟨_,rfl⟩ |⟨b,cs,rfl,_⟩
 ·exact absurd rfl hl
 ·rfl
def EC(E:Env)(T:TypeId)(α:Type)[aL α]:Prop:=
 ∃ti ei,E.ty.get T=some ti/\ti.d=.slice (aL.ty α)/\ti.es=aL.sz α/\E.ty.get (aL.ty α)=some ei/\ei.bytes<=65536/\ff ei.zero (aL.sz α)=true
section
variable {E:Env} {α:Type} [aL α] {n1:Nat} {m:M} {l ys:List α} {v y:Value} {T:TypeId}
theorem Sl.first(h:Sl m ys y):∃news,jP y=some ys.length/\first? m (aL.sz α) ys.length y=some news/\news.length=ys.length*aL.sz α/\news.all D.one=true/\∀i x,ys[i]?=some x->aL.rep m x (chunk news (aL.sz α) i):=by
 rcases h with⟨rfl,rfl⟩ |⟨b,o,c,bc,g,rfl,hb,hlen,hel⟩
 ·exact⟨[],rfl,rfl,by simp,rfl,fun i x hi=>by simp at hi⟩
 ·have hl:((bc.drop o).take (ys.length*aL.sz α)).length=ys.length*aL.sz α:=by rw[List.length_take,List.length_drop];omega
  have hch:∀i x,ys[i]?=some x->aL.rep m x (chunk ((bc.drop o).take (ys.length*aL.sz α)) (aL.sz α) i):=fun i x hi=>by
   rw[Ep (List.getElem?_eq_some_iff.1 hi).1];exact hel i x hi
  refine⟨_,rfl,?_,hl,?_,hch⟩
  ·unfold first?
   cases hn:Nat.beq ys.length 0 with
   |true=>
    have:=Nat.eq_of_beq_eq_true hn
    simp[this]
   |false=>exact aE hb hlen
  ·exact sW ys.length _ hl fun i hi=>aL.nB (hch i _ (List.getElem?_eq_getElem hi))
theorem Ow.append(hT:EC E T α)(hty:aL.ty α∉aL.fR α)(h:Ow n1 m l v)(hy:Sl m ys y)(hn:n1<=m.n)(hs:l.length+ys.length<=268435456):
  ∃v' m1,an E (m.wl m.n) .append [T,T] [v,y]=some (v',m1)/\Ow n1 m1 (l++ys) v'/\uG n1 m m1/\n1<=m1.low/\m1.n<=m.n+1:=by
 obtain⟨ti,ei,t1,t2,t3,t4,t5,t6⟩:=hT
 obtain⟨news,e1,e2,e3,e4,e5⟩:=hy.first
 have hpos:=aL.pos (α:=α)
 have hc:(Nat.beq ti.es 0 ||Nat.blt 65536 ei.bytes || !news.all D.one ||Nat.blt 268435456 (l.length+ys.length) || !Nat.beq news.length (ys.length*ti.es) || !ff ei.zero ti.es)=false:=by
  have c1:Nat.beq ti.es 0=false:=by
   cases hb:Nat.beq ti.es 0 with
   |false=>rfl
   |true=>have:=Nat.eq_of_beq_eq_true hb;omega
  have c2:Nat.blt 65536 ei.bytes=false:=by
   cases hb:Nat.blt 65536 ei.bytes with
   |false=>rfl
   |true=>rw[Nat.blt_eq]at hb;omega
  have c3:Nat.blt 268435456 (l.length+ys.length)=false:=by
   cases hb:Nat.blt 268435456 (l.length+ys.length)with
   |false=>rfl
   |true=>rw[Nat.blt_eq]at hb;omega
  have c4:Nat.beq news.length (ys.length*ti.es)=true:=by rw[e3,t3];exact Nat.beq_refl _
  rw[c1,c2,c3,c4,e4,t3,t6];rfl
 have hfirst:first? (m.wl m.n) ti.es ys.length y=some news:=by rw[bH,t3];exact e2
 rcases h with⟨rfl,rfl⟩ |⟨b,cs,rfl,h2,h3,h4,h5,h6⟩
 ·
  cases hys:ys with
  |nil=>
   subst hys
   refine⟨.slice none 0 0,m.wl m.n,?_,.inl ⟨rfl,rfl⟩,⟨Nat.le_refl _,fun _ _=>rfl⟩,hn,by show m.n<=_;omega⟩
   simp only[an,da,t1,e1,t2,t4,hfirst]
   simp only[List.length_nil]at hc⊢
   rw[hc]
   rfl
  |cons y0 ys'=>
   rw[<-hys]
   have hylen:0 < ys.length:=by rw[hys];simp
   have hble:Nat.ble (0+ys.length) 0=false:=by
    cases hb:Nat.ble (0+ys.length) 0 with
    |false=>rfl
    |true=>have:=Nat.le_of_ble_eq_true hb;omega
   refine⟨.slice (some ⟨m.n,0,none⟩) ys.length ys.length,(m.wl m.n).push (.cells news (aL.ty α) (some (aL.sz α))),?_,?_,⟨by show m.n<=m.n+1;omega,fun c hc=>by rw[M.bF (by show c < m.n;omega)];rfl⟩,hn,by show m.n+1<=_;omega⟩
   ·simp only[an,da,t1,e1,t2,t4,hfirst]
    simp only[List.length_nil]at hc
    rw[hc,hble]
    simp only[cond_false,iH]
    have:(Nat.beq 0 0 && Nat.beq 0 0)=true:=rfl
    rw[this,t3]
    simp only[cond_true,Nat.zero_add]
    rfl
   ·refine .inr ⟨m.n,news,by simp,by simpa using hylen,hn,M.aN (m:=m.wl m.n),by simpa using e3,fun i x hi=>?_⟩
    have:=e5 i x (by simpa using hi)
    exact aL.aB this ⟨by show m.n<=m.n+1;omega,fun c hc=>by rw[M.bF (m:=m.wl m.n) hc];rfl⟩
 ·
  have hbn:=M.aV h4
  cases hys:ys with
  |nil=>
   subst hys
   refine⟨.slice (some ⟨b,0,none⟩) l.length l.length,m.wl m.n,?_,?_,⟨Nat.le_refl _,fun _ _=>rfl⟩,hn,by show m.n<=_;omega⟩
   ·simp only[an,da,t1,e1,t2,t4,hfirst]
    simp only[List.length_nil,Nat.add_zero]at hc⊢
    rw[hc]
    have:Nat.ble l.length l.length=true:=Nat.ble_eq_true_of_le (Nat.le_refl _)
    rw[this]
    rfl
   ·rw[List.append_nil]
    exact .inr ⟨b,cs,rfl,h2,h3,h4,h5,fun i x hi=>aL.bt (m:=m) (h6 i x hi) fun _ _ _ _ hb _=>hb⟩
  |cons y0 ys'=>
   rw[<-hys]
   have hylen:0 < ys.length:=by rw[hys];simp
   have hble:Nat.ble (l.length+ys.length) l.length=false:=by
    cases hb:Nat.ble (l.length+ys.length) l.length with
    |false=>rfl
    |true=>have:=Nat.le_of_ble_eq_true hb;omega
   have hold:(bif Nat.beq l.length 0 then some []else loadCells (m.wl m.n) ⟨b,0,none⟩ (l.length*aL.sz α))=some cs:=by
    cases hb:Nat.beq l.length 0 with
    |true=>have:=Nat.eq_of_beq_eq_true hb;omega
    |false=>
     simp only[cond_false,bs]
     rw[aE h4 (by omega),List.drop_zero,List.take_of_length_le (by omega)]
   have g1:((some (aL.sz α):Option Nat).isNone ||((some (aL.sz α):Option Nat)==some (aL.sz α) && Nat.blt (0+l.length*aL.sz α) cs.length))=false:=by
    have:Nat.blt (0+l.length*aL.sz α) cs.length=false:=by
     cases hb:Nat.blt (0+l.length*aL.sz α) cs.length with
     |false=>rfl
     |true=>rw[Nat.blt_eq]at hb;omega
    rw[this];simp
   have g2:((some (aL.sz α):Option Nat)==some (aL.sz α) && Nat.beq 0 0 && (none:Option Nat).isNone && Nat.beq (l.length*aL.sz α) cs.length && Nat.beq l.length l.length && Nat.beq (aL.ty α) (aL.ty α))=true:=by
    rw[h5]
    simp
   refine⟨.slice (some ⟨m.n,0,none⟩) (l.length+ys.length) (l.length+ys.length),((m.wl m.n).set b .dead).push (.cells (cs++news) (aL.ty α) (some (aL.sz α))),?_,?_,⟨by show m.n<=m.n+1;omega,fun c hc=>?_⟩,?_,by show m.n+1<=_;omega⟩
   ·simp only[an,da,t1,e1,t2,t4,hfirst]
    rw[hc,hble]
    simp only[cond_false,iH,t3]
    have hg:(m.wl m.n).get b=.cells cs (aL.ty α) (some (aL.sz α)):=h4
    simp only[hg,hold,g1,cond_false]
    rw[g2]
    rfl
   ·have hget:∀c,c < m.n->c≠b->(((m.wl m.n).set b .dead).push (.cells (cs++news) (aL.ty α) (some (aL.sz α)))).get c=m.get c:=fun c hc hne=>by
     rw[M.bF (by show c < m.n;exact hc),M.bZ hne];rfl
    have hrep:∀x c,aL.rep m x c->aL.rep (α:=α) (((m.wl m.n).set b .dead).push (.cells (cs++news) (aL.ty α) (some (aL.sz α)))) x c:=fun x c hx=>by
     refine aL.bt hx fun b' c' t g hb ht=>?_
     rw[hget b' (M.aV hb) (fun e=>by subst e;rw[h4]at hb;cases hb;exact hty ht),hb]
    refine .inr ⟨m.n,cs++news,by simp,by simp;omega,hn,M.aN (m:=(m.wl m.n).set b .dead),by simp[h5,e3,Nat.add_mul],fun i x hi=>?_⟩
    by_cases hlt:i < l.length
    ·rw[dQ h5 hlt]
     rw[List.getElem?_append_left hlt]at hi
     exact hrep _ _ (h6 i x hi)
    ·rw[cL h5 (by omega)]
     rw[List.getElem?_append_right (by omega)]at hi
     exact hrep _ _ (e5 _ x hi)
   ·rw[M.bF (by show c < m.n;omega),M.bZ (by omega)];rfl
   ·show n1<=min m.n b
    omega
end
end Go.D
namespace Go.D
open Go
section
variable {E:Env} {m:M} {T:TypeId} {ti:TI} {e:TypeId} {b n:Nat} {cs:List Value} {te:TypeId} {k:Nat}
theorem iq{i y:Nat}(h:i<=y):nP (.int .i64 i) y=some i:=by
 unfold nP
 have:(0:Int)<=i/\(i:Int)<=y:=⟨by omega,by omega⟩
 simp only[this,and_self,if_true,Int.toNat_natCast]
end
section
variable {E:Env} {α:Type} [aL α] {n1:Nat} {m:M} {T:TypeId}
theorem ir(hT:EC E T α){ys:List α}{y:Value}{b:Nat}{te:TypeId}(h:m.get b=.cells [] te none)(hy:Sl m ys y)(hne:ys≠ [])(hs:ys.length<=1000000):
  ∃v' m1,an E (m.wl m.n) .append [T,T] [.slice (some ⟨b,0,none⟩) 0 0,y]=some (v',m1)/\Ow m.n m1 ys v'/\Ext m m1/\m1.low=m.n:=by
 obtain⟨ti,ei,t1,t2,t3,t4,t5,t6⟩:=hT
 obtain⟨news,e1,e2,e3,e4,e5⟩:=hy.first
 have hpos:=aL.pos (α:=α)
 have hylen:0 < ys.length:=List.length_pos_iff.2 hne
 have hc:(Nat.beq ti.es 0 ||Nat.blt 65536 ei.bytes || !news.all D.one ||Nat.blt 268435456 (0+ys.length) || !Nat.beq news.length (ys.length*ti.es) || !ff ei.zero ti.es)=false:=by
  have c1:Nat.beq ti.es 0=false:=by
   cases hb:Nat.beq ti.es 0 with
   |false=>rfl
   |true=>have:=Nat.eq_of_beq_eq_true hb;omega
  have c2:Nat.blt 65536 ei.bytes=false:=by
   cases hb:Nat.blt 65536 ei.bytes with
   |false=>rfl
   |true=>rw[Nat.blt_eq]at hb;omega
  have c3:Nat.blt 268435456 (0+ys.length)=false:=by
   cases hb:Nat.blt 268435456 (0+ys.length)with
   |false=>rfl
   |true=>rw[Nat.blt_eq]at hb;omega
  have c4:Nat.beq news.length (ys.length*ti.es)=true:=by rw[e3,t3];exact Nat.beq_refl _
  rw[c1,c2,c3,c4,e4,t3,t6];rfl
 have hfirst:first? (m.wl m.n) ti.es ys.length y=some news:=by rw[bH,t3];exact e2
 have hble:Nat.ble (0+ys.length) 0=false:=by
  cases hb:Nat.ble (0+ys.length) 0 with
  |false=>rfl
  |true=>have:=Nat.le_of_ble_eq_true hb;omega
 have hg:(m.wl m.n).get b=.cells [] te none:=h
 refine⟨.slice (some ⟨m.n,0,none⟩) ys.length ys.length,(m.wl m.n).push (.cells news (aL.ty α) (some (aL.sz α))),?_,?_,⟨Nat.le_succ _,fun c hc=>by rw[M.bF (m:=m.wl m.n) hc];rfl⟩,rfl⟩
 ·simp only[an,da,t1,e1,t2,t4,hfirst,hc,hble,cond_false,iH,hg]
  have e0:(bif Nat.beq 0 0 then some []else loadCells (m.wl m.n) ⟨b,0,none⟩ (0*ti.es))=some ([]:List Value):=rfl
  have e1:((none:Option Nat).isNone ||((none:Option Nat)==some ti.es && Nat.blt (0+0*ti.es) ([]:List Value).length))=true:=rfl
  simp only[e0,e1,cond_true,Nat.zero_add,List.nil_append,t3]
  rfl
 ·exact .inr ⟨m.n,news,rfl,hylen,Nat.le_refl _,M.aN (m:=m.wl m.n),e3,fun i x hi=>aL.aB (e5 i x hi) ⟨Nat.le_succ _,fun c hc=>by rw[M.bF (m:=m.wl m.n) hc];rfl⟩⟩
end
end Go.D
namespace Go.D
open Go
section
variable {E:Env} {m m1:M} {T U:TypeId} {v':Value} {c:Nat}
theorem pA{a:Addr}{vs:List Value}(h:storeCells m a vs=some m1)(hne:c≠a.block):m1.get c=m.get c:=by
 unfold storeCells at h
 cases hb:m.get a.block with
 |cells cs e g=>
  simp only[hb]at h
  cases hc:(a.spot.isNone && Nat.ble (a.off+vs.length) cs.length && vs.all one)with
  |true=>rw[hc,cond_true]at h;cases h;exact M.bZ hne
  |false=>rw[hc,cond_false]at h;cases h
 |_=>simp only[hb]at h;cases h
theorem yT{e k:Nat}{base:Option Addr}{sl sc need:Nat}{news:List Value}(h:iH m e k base sl sc need news=some (v',m1))(hc:c < m.n)(hs:∀a,base=some a->c≠a.block):m1.get c=m.get c:=by
 unfold iH at h
 cases base with
 |none=>
  dsimp only at h
  cases h1:(Nat.beq sl 0 && Nat.beq sc 0)with
  |true=>rw[h1,cond_true]at h;cases h;exact M.bF hc
  |false=>rw[h1,cond_false]at h;cases h
 |some a=>
  dsimp only at h
  cases hb:m.get a.block with
  |cells cs te g=>
   cases ho:(bif Nat.beq sl 0 then some []else loadCells m a (sl*k))with
   |none=>simp only[hb,ho]at h;cases h
   |some eO=>
    simp only[hb,ho]at h
    cases h1:(g.isNone ||(g==some k && Nat.blt (a.off+sc*k) cs.length))with
    |true=>rw[h1,cond_true]at h;cases h;exact M.bF hc
    |false=>
     rw[h1,cond_false]at h
     cases h2:(g==some k && Nat.beq a.off 0 && a.spot.isNone && Nat.beq (sl*k) cs.length && Nat.beq sc sl && Nat.beq te e)with
     |true=>rw[h2,cond_true]at h;cases h;rw[M.bF (m:=m.set a.block .dead) hc,M.bZ (hs a rfl)]
     |false=>rw[h2,cond_false]at h;cases h
  |_=>simp only[hb]at h;cases h
theorem tA{s x:Value}(h:da E m T U s x=some (v',m1))(hc:c < m.n)(hs:∀a n k,s=.slice (some a) n k->c≠a.block):m1.get c=m.get c:=by
 unfold da at h
 split at h
 ·rename_i ti ui base sl sc n _ _ _
  split at h
  ·cases h
  ·rename_i e _ _
   cases h1:E.ty.get e with
   |none=>simp only[h1]at h;cases h
   |some ei=>
    cases h2:first? m ti.es n x with
    |none=>simp only[h1,h2]at h;cases h
    |some news=>
     simp only[h1,h2]at h
     cases h3:(Nat.beq ti.es 0 ||Nat.blt 65536 ei.bytes || !news.all one ||Nat.blt 268435456 (sl+n) || !Nat.beq news.length (n*ti.es) || !ff ei.zero ti.es)with
     |true=>rw[h3,cond_true]at h;cases h
     |false=>
      rw[h3,cond_false]at h
      cases h4:Nat.ble (sl+n) sc with
      |false=>
       rw[h4,cond_false]at h
       exact yT h hc fun a ha=>hs a sl sc (by rw[ha])
      |true=>
       rw[h4,cond_true]at h
       cases base with
       |none=>
        dsimp only at h
        cases h5:Nat.beq n 0 with
        |true=>rw[h5,cond_true]at h;cases h;rfl
        |false=>rw[h5,cond_false]at h;cases h
       |some a=>
        dsimp only at h
        cases h5:Nat.beq n 0 with
        |true=>rw[h5,cond_true]at h;cases h;rfl
        |false=>
         rw[h5,cond_false]at h
         cases h6:storeCells m (a.add (sl*ti.es)) news with
         |none=>rw[h6]at h;cases h
         |some m2=>
          rw[h6]at h
          cases h
          refine pA h6 ?_
          have:(a.add (sl*ti.es)).block=a.block:=by
           unfold Addr.add;split <;>rfl
          rw[this]
          exact hs a sl sc rfl
  ·cases h
 ·cases h
theorem fj{s x:Value}(h:an E (m.wl m.n) .append [T,U] [s,x]=some (v',m1))(hc:c < m.n)(hs:∀a n k,s=.slice (some a) n k->c≠a.block):m1.get c=m.get c:=
 (tA (m:=m.wl m.n) h hc hs).trans rfl
end
end Go.D
namespace Go.D
open Go
variable {m:M}
def zx{α:Type}[aL α](m:M)(l:List α)(v:Value):Prop:=
 (v=.slice none 0 0/\l=[])\/∃b o c bc,v=.slice (some ⟨b,o,none⟩) l.length c/\m.get b=.ro bc/\
  ∀i x,l[i]?=some x->o+i*aL.sz α+aL.sz α<=bc.length/\aL.rep m x ((bc.drop (o+i*aL.sz α)).take (aL.sz α))
theorem Ext.ro{m m':M}(h:Ext m m'){b:Nat}{c:List Value}(hb:m.get b=.ro c):m'.get b=.ro c:=by
 rw[h.get b ?_,hb]
 rcases Nat.lt_or_ge b m.n with h' |h'
 ·exact h'
 ·rw[M.gL h']at hb;cases hb
section
variable {α:Type} [aL α] {m':M} {l:List α} {v:Value} {E:Env} {T t:TypeId}
theorem zx.aB(h:zx m l v)(he:Ext m m'):zx m' l v:=by
 rcases h with h |⟨b,o,c,bc,h1,h2,h4⟩
 ·exact .inl h
 ·exact .inr ⟨b,o,c,bc,h1,Ext.ro he h2,fun i x hi=>⟨(h4 i x hi).1,aL.aB (h4 i x hi).2 he⟩⟩
theorem zx.form(h:zx m l v):∃a c,v=.slice a l.length c:=by
 rcases h with⟨rfl,rfl⟩ |⟨b,o,c,bc,rfl,_⟩
 ·exact⟨_,_,rfl⟩
 ·exact⟨_,_,rfl⟩
theorem zx.len(h:zx m l v)(hT:uF E T t α):an E m .len [T] [v]=some (.int .i64 l.length,m):=by
 obtain⟨ti,te,h1,⟨e,h2⟩,_⟩:=hT
 obtain⟨a,c,rfl⟩:=h.form
 simp only[an,nF,h1,h2,Option.map_some]
theorem vI{b o n:Nat}{cs:List Value}(h:m.get b=.ro cs)(hl:o+n<=cs.length)(h1:((cs.drop o).take n).all one=true):D.loadCells m ⟨b,o,none⟩ n=some ((cs.drop o).take n):=by
 unfold D.loadCells
 rw[h]
 have:Nat.ble (o+n) cs.length=true:=Nat.ble_eq_true_of_le hl
 simp only[Option.isNone_none,this,h1,Bool.and_self,cond_true]
theorem uC{b o:Nat}{cs:List Value}{u:Value}(h:m.get b=.ro cs)(hu:cs[o]?=some u)(h1:one u=true):D.cellAt m ⟨b,o,none⟩=some u:=by
 unfold D.cellAt
 rw[h]
 simp only[Option.isNone_none,if_true,hu,h1,cond_true]
theorem zx.index(h:zx m l v)(hT:uF E T t α){k:IntKind}{i:Nat}{x:α}(hi:l[i]?=some x):
  ∃p cs,ai E T v (.int k i)=some p/\ag E m t p=some (aL.val α cs)/\aL.rep m x cs:=by
 obtain⟨ti,te,h1,⟨e,h2⟩,h3,h4,h5,h6⟩:=hT
 have hlt:=(List.getElem?_eq_some_iff.1 hi).1
 rcases h with⟨_,rfl⟩ |⟨b,o,c,bc,rfl,hb,hel⟩
 ·simp at hi
 ·obtain⟨hle,hr⟩:=hel i x hi
  have hpos:=aL.pos (α:=α)
  refine⟨.pointer (some ⟨b,o+i*aL.sz α,none⟩),_,?_,?_,hr⟩
  ·have hc:0<=(i:Int)/\(i:Int)< (l.length:Int)/\0 < ti.es:=⟨by omega,by omega,by omega⟩
   simp only[ai,h1,h2]
   rw[if_pos hc,bC rfl,h3]
   rfl
  ·have hones:=aL.nB hr
   simp only[D.ag,D.loadVar,h4]
   unfold aL.val
   cases ha:aL.agg α with
   |true=>
    rw[h5,ha,h6]
    simp only[cond_true]
    rw[vI hb hle hones];rfl
   |false=>
    rw[h5,ha]
    simp only[cond_false]
    have hs:=aL.one ha
    rw[hs]at hones⊢
    simp only[hs]at hle
    have hlt2:o+i*1 < bc.length:=by omega
    have hat:bc[o+i*1]?=some bc[o+i*1]:=List.getElem?_eq_getElem hlt2
    have htk:(bc.drop (o+i*1)).take 1=[bc[o+i*1]]:=by
     rw[List.take_one,List.head?_drop,hat];rfl
    rw[htk]at hones⊢
    rw[uC hb hat (by simpa using hones)]
    rfl
def iV{α:Type}[aL α](m:M)(l:List α)(v:Value):Prop:=Sl m l v\/zx m l v
theorem iV.aB(h:iV m l v)(he:Ext m m'):iV m' l v:=h.elim (fun h=> .inl (h.aB he)) fun h=> .inr (h.aB he)
theorem iV.len(h:iV m l v)(hT:uF E T t α):an E m .len [T] [v]=some (.int .i64 l.length,m):=h.elim (fun h=>h.len hT) fun h=>h.len hT
theorem iV.index(h:iV m l v)(hT:uF E T t α){k:IntKind}{i:Nat}{x:α}(hi:l[i]?=some x):
  ∃p cs,ai E T v (.int k i)=some p/\ag E m t p=some (aL.val α cs)/\aL.rep m x cs:=h.elim (fun h=>h.index hT hi) fun h=>h.index hT hi
end
end Go.D
