/- The program logic over D, its .. -/
import Derived.Test.YtmdfgncoekfgdaaGreatDoorG1J
namespace Go.D
open Go
section
section
variable {E:Env} {X:aG}
def TV(T:Tr aed):List Nat->aee->Prop
 |[],_=>True
 |t::ts,F=>match F with
  |v::r=>T.get t=some v/\TV T ts r
  |[]=>False
theorem qI{T:Tr aed}:∀(ts:List Nat) (vs:aee) (K:KT) (f:KT->Prop),Kn K T->TV T ts vs->CH (aI E X) ts vs K f->∃H,Kn H T/\f H
 |[],_,K,f,F,_,h=>⟨K,F,h⟩
 |t::ts,vs,K,f,F,W,h=>by
  unfold CH at h
  obtain⟨v,r,rfl,h⟩:=Jc.1 h
  exact qI ts r _ f (F.set W.1) W.2 h
theorem oM{K:KT}{T:Tr aed}(W:Kn K T):∀(ts:List Nat) (vs:aee),ss K ts=some vs->TV T ts vs
 |[],_,_=>trivial
 |t::ts,vs,h=>by
  unfold ss at h
  split at h
  ·rename_i v hv
   split at h
   ·rename_i F H
    cases h
    exact⟨W _ _ hv,oM W ts F H⟩
   ·cases h
  ·cases h
theorem yJ{T:Tr aed}:∀(ps:List Tmp) (args:aee) (K:KT) (f:KT->Prop) (T:Tr aed),Kn K T->FW (aI E X) ps args K f->args.length=ps.length/\∃H,Kn H (sC T (ps.zip args))/\f H
 |[],args,K,f,T,F,h=>by
  cases args with
  |nil=>exact⟨rfl,K,F,h⟩
  |cons v r=>exact(h:False).elim
 |p::ps,args,K,f,T,F,h=>by
  obtain⟨v,r,rfl,h⟩:=Jc.1 h
  obtain⟨W,h2⟩:=yJ (T:=T) ps r _ f (T.set p v) (F.put (some p) (.v v)) h
  exact⟨by simp[W],h2⟩
theorem V.rangeFunc{gv:Operand}{ps:Array Tmp}{a b:Code}{s:St}{Q:Ex->St->Prop}{A0 B0:List Nat}{gf:Fn}{fi ca:Array aed}(ha:∀s Q,sj E (aI E X) a A0 s Q->V E X a s Q)(hb:∀s Q,sj E (aI E X) b B0 s Q->V E X b s Q)
  (hf:jY s.K gv=some (.func gf fi ca))
  (h:RF E X gf fi.toList ca.toList s.m s.lo (λargs m1 Qb=>FW (aI E X) ps.toList args s.K λK1=>sj E (aI E X) a A0 ⟨K1,m1,m1.n⟩ λe s1=>e.IK (QY s.m.n m1 s1.m λm2=>sj E (aI E X) b B0 ⟨s1.K,m2,min s1.lo s.m.n⟩ λe2 s2=>Qb m2 e2 s2.m s2.lo) False) (λm lo=>Q .normal ⟨s.K,m,lo⟩) ((leaves b).map λe=>(e,λm lo=>Q e ⟨s.K,m,lo⟩))):V E X (.rangeFunc gv ps a b) s Q:=λT hk U0=>by
 obtain⟨fr,xs,Dt,I,J,B,⟨fk,rfl⟩,hG,hB,hD,hI,hJ,h0,l0,o0,q0⟩:=h
 have hy:(s.m.push (.loop ⟨T,ps,a,b,.ready,none,E.G⟩)).get s.m.n=.loop ⟨T,ps,a,b,.ready,none,E.G⟩:=by rw[M.fH,aaf rfl]
 have r0:Ky s.m.n s.m (s.m.push (.loop ⟨T,ps,a,b,.ready,none,E.G⟩)):=⟨aca _,λc hc _=>by rw[M.fH,aaa (by omega)]⟩
 have F:∀(m:M) (r:xF),s.m.n < m.n->Ky s.m.n m (m.set s.m.n (.loop r)):=λm r hm=>⟨Ξ _,λc _ s0=>by rw[M.cD _ _ _ _ hm,aaa s0]⟩
 obtain⟨vG,mG,bG,H0,V0,C0⟩:=hG s.m.n (s.m.n+1) B (λi m=>I i m/\m.get s.m.n=.loop ⟨T,ps,a,b,.ready,none,E.G⟩) (λm=>∃e:Ex,e≠Ex.normal/\J e m/\m.get s.m.n=.loop ⟨T,ps,a,b,.done,some e,E.G⟩) (s.m.push (.loop ⟨T,ps,a,b,.ready,none,E.G⟩)) (λi m1 h=>hD i m1 h.1) (λi m1 m2 h he=>⟨hI i m1 m2 h.1 ⟨he.n,λc hc _=>he.get c hc⟩,by rw[he.get _ (M.kV (by rw[h.2];simp)),h.2]⟩)
  (λm1 m2 ⟨e,h1,h2,h3⟩ he=>⟨e,h1,hJ e m1 m2 h2 ⟨he.n,λc hc _=>he.get c hc⟩,by rw[he.get _ (M.kV (by rw[h3];simp)),h3]⟩)
  (acU _) (Ξ _) (by omega)
  (λi args mm I0 hx ⟨hi,j0⟩=>by
   obtain⟨hlen,K1,J0,hv⟩:=yJ (T:=T) _ _ _ _ T hk (l0 i args mm I0 hx hi)
   obtain⟨e1,s1,T1,u0,D0,E0,Q0,n1,K0⟩:=ha _ _ hv _ J0 (Ξ _)
   cases e1 with
   |exit id=>exact u0.elim
   |ret=>exact u0.elim
   |normal=>
    obtain⟨b0,hP⟩:=u0
    have e0:s1.m.get s.m.n=.loop ⟨T,ps,a,b,.ready,none,E.G⟩:=by rw[b0 _ (Ξ _) (by omega),j0]
    have d0:s.m.n < s1.m.n:=M.kV (by rw[e0];simp)
    have L0:=hP (s1.m.set s.m.n (.loop ⟨T,ps,a,b,.busy,none,E.G⟩)) rfl (λc hc=>by rw[M.cD _ _ _ _ d0,aaa hc])
    obtain⟨e2,s2,T2,⟨X0,k0,v0⟩,S0,F0,T0,n2,M0⟩:=hb _ _ L0 T1 D0 (by show min s1.lo s.m.n<=s1.m.n;omega)
    have g0:s2.m.get s.m.n=.loop ⟨T,ps,a,b,.busy,none,E.G⟩:=by rw[k0 _ (Ξ _) (by omega) (.inl rfl),M.cD _ _ _ _ d0,aaf rfl]
    have H:s.m.n < s2.m.n:=M.kV (by rw[g0];simp)
    have F0:s1.m.n<=s2.m.n:=F0
    have E0:mm.n<=s1.m.n:=E0
    have W:∀(st:LoopState) (pe:Option Ex) (v:aed),(match e2 with
       |.normal=>(v,st,pe)=(aeh,.ready,none)
       |e=>(v,st,pe)=(aei,.done,some e))->
      Cl E X (.yield s.m.n) args mm (min s2.lo s.m.n) v (s2.m.set s.m.n (.loop ⟨T,ps,a,b,st,pe,E.G⟩)):=by
     intro st pe v hv
     refine⟨by show mm.n<=s2.m.n;omega,by omega,max n1 n2+1,λn hn l hl=>?_⟩
     obtain⟨k,rfl⟩:∃k,n=k+1:=⟨n-1,by omega⟩
     have e1:=K0 k (by omega)
     have z0:=M0 k (by omega)
     have G0:(Nat.beq args.length ps.size && Nat.beq E.G E.G)=true:=by
      have:args.length=ps.size:=by simpa using hlen
      rw[this,aa4,aa4];rfl
     simp only[bO,sF]
     rw[M.cR,j0]
     dsimp only
     rw[G0]
     simp only[cond_true]
     have e1:bz E (bO E X k) k a {T:=sC T (ps.toList.zip args),m:={mm.wl l with low:=(mm.wl l).n}}=some (.normal,⟨T1,s1.m.wl s1.lo⟩):=e1
     rw[e1]
     dsimp only
     rw[M.cR,e0]
     dsimp only
     have z0:bz E (bO E X k) k b {T:=T1,m:=(s1.m.wl s1.lo).set s.m.n (.loop ⟨T,ps,a,b,.busy,none,E.G⟩)}=some (e2,⟨T2,s2.m.wl s2.lo⟩):=z0
     rw[z0]
     dsimp only
     rw[M.cR,g0]
     dsimp only
     cases e2 with
     |normal=>cases hv;rfl
     |exit id=>cases hv;rfl
     |ret=>cases hv;rfl
    have a0:∀(r:xF) c,s.m.n+1<=c->c < mm.n->fr (mm.get c)->(s2.m.set s.m.n (.loop r)).get c=mm.get c:=λr c h1 h2 h3=>by
     rw[M.cD _ _ _ _ H,aaa (by omega),k0 c (by omega) h2 (.inr (by rw[M.cD _ _ _ _ d0,aaa (by omega),b0 c (by omega) h2];exact h3)),M.cD _ _ _ _ d0,aaa (by omega),b0 c (by omega) h2]
    cases e2 with
    |normal=>
     refine⟨aeh,_,_,W .ready none _ rfl,by omega,ac3 _ _,a0 _,.inl ⟨rfl,hI _ _ _ v0 (F _ _ H),?_⟩⟩
     rw[M.cD _ _ _ _ H,aaf rfl]
    |exit id=>
     refine⟨aei,_,_,W .done (some (.exit id)) _ rfl,by omega,ac3 _ _,a0 _,.inr ⟨rfl,.exit id,by simp,hJ _ _ _ v0 (F _ _ H),?_⟩⟩
     rw[M.cD _ _ _ _ H,aaf rfl]
    |ret=>
     refine⟨aei,_,_,W .done (some .ret) _ rfl,by omega,ac3 _ _,a0 _,.inr ⟨rfl,.ret,by simp,hJ _ _ _ v0 (F _ _ H),?_⟩⟩
     rw[M.cD _ _ _ _ H,aaf rfl])
  ⟨hI 0 _ _ h0 r0,hy⟩
 obtain⟨i0,_,n0,cz⟩:=H0
 have i0:s.m.n+1<=mG.n:=i0
 have hex:∀(r:xF),mG.get s.m.n=.loop r->r.st≠.busy->∀n,n0<=n->bz E (bO E X n) n (.rangeFunc gv ps a b) ⟨T,s.m.wl s.lo⟩=
   some (r.rl.getD .normal,⟨T,(mG.set s.m.n (.loop {r with st:=.exhausted})).wl (min (min s.lo bG) s.m.n)⟩):=by
  intro r hr N0 n hn
  have hc:bO E X n (.func fk) (fi.toList++(.func (.yield (s.m.wl s.lo).n) #[] #[]::ca.toList)) ((s.m.wl s.lo).push (.loop ⟨T,ps,a,b,.ready,none,E.G⟩))=some (vG,mG.wl (min s.lo bG)):=cz n hn s.lo (by show s.lo<=s.m.n+1;omega)
  simp only[bz]
  rw[bd hk hf]
  dsimp only
  rw[hc]
  dsimp only
  have O0:(mG.wl (min s.lo bG)).get (s.m.wl s.lo).n=.loop r:=hr
  rw[O0]
  dsimp only
  cases hs:r.st with
  |busy=>exact absurd hs N0
  |ready=>rfl
  |done=>rfl
  |exhausted=>rfl
 rcases C0 with⟨hi,hr⟩ |⟨e,s0,hj,hr⟩
 ·refine⟨.normal,⟨s.K,mG.set s.m.n (.loop ⟨T,ps,a,b,.exhausted,none,E.G⟩),min (min s.lo bG) s.m.n⟩,T,o0 _ _ (hI _ _ _ hi (F _ _ i0)) (by omega),hk,by show s.m.n<=mG.n;omega,by show min (min s.lo bG) s.m.n<=mG.n;omega,n0,hex _ hr (by simp)⟩
 ·have P0:Q e ⟨s.K,mG.set s.m.n (.loop ⟨T,ps,a,b,.exhausted,some e,E.G⟩),min (min s.lo bG) s.m.n⟩:=by
   obtain⟨p,hp,he,hq⟩:=q0 _ _ (min (min s.lo bG) s.m.n) s0 (hJ _ _ _ hj (F _ ⟨T,ps,a,b,.exhausted,some e,E.G⟩ i0)) (by omega)
   obtain⟨e',_,rfl⟩:=aaU.1 hp
   cases he
   exact hq
  refine⟨e,⟨s.K,mG.set s.m.n (.loop ⟨T,ps,a,b,.exhausted,some e,E.G⟩),min (min s.lo bG) s.m.n⟩,T,P0,hk,by show s.m.n<=mG.n;omega,by show min (min s.lo bG) s.m.n<=mG.n;omega,n0,hex _ hr (by simp)⟩
theorem dz:∀(c:Code) (rd:List Nat) (s:St) (Q:Ex->St->Prop),sj E (aI E X) c rd s Q->V E X c s Q
 |.skip,_,s,Q,h=>λT hk F=>⟨_,s,T,h,hk,Ξ _,F,0,λn _=>rfl⟩
 |.label _,_,s,Q,h=>λT hk F=>⟨_,s,T,h,hk,Ξ _,F,0,λn _=>rfl⟩
 |.exit id,_,s,Q,h=>λT hk F=>⟨_,s,T,h,hk,Ξ _,F,0,λn _=>rfl⟩
 |.ret,_,s,Q,h=>λT hk F=>⟨_,s,T,h,hk,Ξ _,F,0,λn _=>rfl⟩
 |.region id ops d,_,s,Q,h=>λT hk F=>by
  obtain⟨s',T',hP,W,hn,H,n0,hr⟩:=pS ops.toList 0 s _ h T hk F
  exact⟨_,s',T',hP,W,hn,H,n0,λn hn=>by simp only[bz,hr n hn,aag]⟩
 |.seq a b,rd,s,Q,h=>by
  unfold sj at h
  cases hp:parts a with
  |false=>
   rw[hp,cond_false]at h
   exact V.seq ((dz a _ s _ h).mono λe s' hq=>by
    cases e with
    |normal=>exact dz b rd s' Q hq
    |exit id=>exact hq
    |ret=>exact hq)
  |true=>
   rw[hp,cond_true]at h
   have ha:=dz a _ s _ h
   intro T hk F
   obtain⟨e,s1,T1,h1,h0,i0,a0,n1,b0⟩:=ha T hk F
   cases e with
   |normal=>
    obtain⟨vs,o0,h1⟩:=aZ.1 h1
    have d0:Kn (forget s.K (assigned a)) T1:=by
     intro t k ht
     have:=dM a _ _ _ (b0 n1 (Ξ _)) (ig _ _ ht).1
     dsimp only at this
     rw[this]
     exact hk t k (ig _ _ ht).2
    obtain⟨K',W,j0⟩:=qI _ _ _ _ d0 (oM h0 _ _ o0) h1
    obtain⟨e,s2,T2,h2,e0,q0,k0,n2,r0⟩:=dz b rd _ Q j0 T1 W a0
    exact⟨e,s2,T2,h2,e0,abD i0 q0,k0,max n1 n2,λn hn=>by simp only[bz,b0 n (by omega),r0 n (by omega)]⟩
   |exit id=>exact⟨_,s1,T1,h1,h0,i0,a0,n1,λn hn=>by simp only[bz,b0 n hn]⟩
   |ret=>exact⟨_,s1,T1,h1,h0,i0,a0,n1,λn hn=>by simp only[bz,b0 n hn]⟩
 |.cond c x y,rd,s,Q,h=>λT hk F=>by
  obtain⟨_,hb,h⟩:=aZ.1 h
  obtain⟨b,rfl,h⟩:=uz.1 h
  cases b with
  |true=>
   obtain⟨e,s',T',hP,W,hn,H,n0,hr⟩:=dz x rd s Q h T hk F
   exact⟨e,s',T',hP,W,hn,H,n0,λn hn=>by simp only[bz,bd hk hb,hr n hn,cond_true]⟩
  |false=>
   obtain⟨e,s',T',hP,W,hn,H,n0,hr⟩:=dz y rd s Q h T hk F
   exact⟨e,s',T',hP,W,hn,H,n0,λn hn=>by simp only[bz,bd hk hb,hr n hn,cond_false]⟩
 |.block id c,rd,s,Q,h=>λT hk F=>by
  obtain⟨e,s',T',hP,W,hn,H,n0,hr⟩:=dz c rd s _ h T hk F
  refine⟨_,s',T',hP,W,hn,H,n0,λn hn=>?_⟩
  have e1:=hr n hn
  cases e with
  |normal=>simp only[bz,e1,Ex.FU]
  |ret=>simp only[bz,e1,Ex.FU]
  |exit s0=>simp only[bz,e1,Ex.FU];cases Nat.beq s0 id <;>rfl
 |.loop c,rd,s,Q,h=>by
  unfold sj at h
  obtain⟨u0,v0,γ,μ,I,⟨g0,z0⟩,hI⟩:=aZ.1 h
  refine V.UL μ (λg T m lo=>∃vs,I g vs m lo/\TV T (carried s.K (assigned c) []) vs/\Kn (forget s.K (assigned c)) T) g0 (λT hk=>⟨u0,z0,oM hk _ _ v0,λt k ht=>hk t k (ig _ _ ht).2⟩) ?_
  rintro g T m lo ⟨vs,A0,B0,d0⟩ F
  obtain⟨K',W,j0⟩:=qI _ _ _ _ d0 B0 (hI g vs m lo A0)
  obtain⟨e,s',T',hQ,e0,hn,H,n0,hr⟩:=dz c _ _ _ j0 T W F
  refine⟨e,s',T',?_,e0,hn,H,n0,hr⟩
  cases e with
  |normal=>
   obtain⟨C0,l0,g',D0,E0⟩:=aZ.1 hQ
   refine⟨g',D0,C0,E0,oM e0 _ _ l0,?_⟩
   intro t k ht
   have:=dM c _ _ _ (hr n0 (Ξ _)) (ig _ _ ht).1
   dsimp only at this
   rw[this]
   exact d0 t k ht
  |exit id=>exact hQ
  |ret=>exact hQ
 |.scope c,rd,s,Q,h=>λT hk F=>by
  obtain⟨e,s',T',hP,W,hn,H,n0,hr⟩:=dz c rd s Q h T hk F
  exact⟨e,s',T',hP,W,hn,H,n0,λn hn=>by simp only[bz,hr n hn]⟩
 |.rangeFunc f ps a b,_,s,Q,h=>by
  obtain⟨_,hf,h⟩:=aZ.1 h
  obtain⟨gf,fi,ca,rfl,h⟩:=od.1 h
  exact V.rangeFunc (λs Q h=>dz a _ s Q h) (λs Q h=>dz b _ s Q h) hf h
 |.goto l,_,s,Q,h=>h.elim
 |.refuse y,_,s,Q,h=>h.elim
theorem kz:∀(vs:aee) (i:Nat),Kn (sX vs i) (enter vs i)
 |[],_=>λ_ _ h=>by cases h
 |v::vs,i=>by
  have:=(kz vs (i+1)).put (some i) (.v v)
  exact this
theorem fR{K:KT}{T:Tr aed}(h:Kn K T){m:M}:∀{rs:List ResultVar} {f:aee->Prop},vn E K m rs f->∃vs,f vs/\∀l,fD E T (m.wl l) rs=some vs
 |[],f,F=>⟨[],F,λ_=>rfl⟩
 |.tmp t::rs,f,F=>by
  obtain⟨v,H,F⟩:=aZ.1 F
  obtain⟨vs,hf,W⟩:=fR h F
  refine⟨_,hf,λl=>?_⟩
  split at H
  ·rename_i k hk
   cases H
   simp only[fD,kn,gn,h t k hk,abN,W]
  ·cases H
 |.cell a t::rs,f,F=>by
  obtain⟨p,hp,F⟩:=aZ.1 F
  obtain⟨v,H,F⟩:=aZ.1 F
  obtain⟨vs,hf,W⟩:=fR h F
  refine⟨_,hf,λl=>?_⟩
  split at hp
  ·rename_i k hk
   cases hp
   unfold ah at H
   split at H
   ·rename_i p' a' a0
    have e:gn T a=.pointer (some a'):=by simp only[gn,h a _ hk,abN,a0]
    simp only[fD,kn,e,vX,H,W]
   ·cases H
  ·cases hp
theorem qc{T:Tr aed}{m:M}{fn:Func}{vs:aee}(h:fD E T m fn.results.toList=some vs):result? E fn T m=some (aO vs):=by
 unfold result?
 rw[h]
 match vs with
 |[]=>rfl
 |[v]=>rfl
 |_::_::_=>rfl
def IQ(X:aG)(f:Nat):Prop:=∀args m,X (.func f) args m=none
theorem Cl.body{f:Nat}{fn:Func}{args:aee}{m:M}{R:aee->M->Nat->Prop}(hX:IQ X f)(hf:E.fn.get f=some fn)(hl:Nat.ble args.length fn.ntmps=true)
  (h:dm E (aI E X) fn args m R):
  ∃vs m' lo,R vs m' lo/\m.n<=m'.n/\∃n0,∀n,n0<=n->∀l,l<=m.n->
   bO E X n (.func f) args (m.wl l)=some (bif bP (aO vs) && Nat.ble m.n lo then(aO vs,m.wl l)else(aO vs,m'.wl (min l lo))):=by
 unfold dm at h;split at h
 ·rename_i body hb
  obtain⟨e,F,T',H,g0,hn,i0,n0,hr⟩:=dz _ _ _ _ h (enter args 0) (kz _ _) (Ξ _)
  have a0:(∀id,e≠.exit id)/\vn E F.K F.m fn.results.toList λvs=>R vs F.m F.lo:=by
   cases e with
   |exit id=>exact H.elim
   |normal=>exact⟨λ_ h=>(by cases h),H⟩
   |ret=>exact⟨λ_ h=>(by cases h),H⟩
  obtain⟨h0,W⟩:=a0
  obtain⟨vs,hR,W⟩:=fR g0 W
  refine⟨vs,F.m,F.lo,hR,hn,n0+1,λn j0 l k0=>?_⟩
  obtain⟨n,rfl⟩:∃k,n=k+1:=⟨n-1,by omega⟩
  have b0:bz E (bO E X n) n body {T:=enter args 0,m:={m.wl l with low:=(m.wl l).n}}=some (e,⟨T',F.m.wl F.lo⟩):=hr n (by omega)
  have d0:=qc (fn:=fn) (W F.lo)
  have e0:X (.func f) args (m.wl l)=none:=hX _ _
  have fin:(bif bP (aO vs) && Nat.ble (m.wl l).n (F.m.wl F.lo).low then some (aO vs,m.wl l)else some (aO vs,{F.m.wl F.lo with low:=min (m.wl l).low (F.m.wl F.lo).low}))=
    some (bif bP (aO vs) && Nat.ble m.n F.lo then(aO vs,m.wl l)else(aO vs,F.m.wl (min l F.lo))):=by
   cases hc:(bP (aO vs) && Nat.ble m.n F.lo)with
   |true=>have:(bP (aO vs) && Nat.ble (m.wl l).n (F.m.wl F.lo).low)=true:=hc;rw[this];rfl
   |false=>have:(bP (aO vs) && Nat.ble (m.wl l).n (F.m.wl F.lo).low)=false:=hc;rw[this];rfl
  cases e with
  |exit id=>exact(h0 id rfl).elim
  |normal=>simp only[bO,e0,hf,hb,hl,cond_true,b0,d0];exact fin
  |ret=>simp only[bO,e0,hf,hb,hl,cond_true,b0,d0];exact fin
 exact h.elim
theorem Cl.uq{f:Nat}{args:aee}{vs:aee}{m m':M}{lo:Nat}(F:m.n<=m'.n)(H:bP (aO vs)=false\/lo < m.n)
  (h:∃n0,∀n,n0<=n->∀l,l<=m.n->bO E X n (.func f) args (m.wl l)=some (bif bP (aO vs) && Nat.ble m.n lo then(aO vs,m.wl l)else(aO vs,m'.wl (min l lo)))):Cl E X (.func f) args m (min m.n lo) (aO vs) m':=by
 obtain⟨n0,h⟩:=h;refine⟨F,acI _ _,n0,λn F l hl=>?_⟩
 have:(bP (aO vs) && Nat.ble m.n lo)=false:=by
  rcases H with W |W;·rw[W];rfl
  have:Nat.ble m.n lo=false:=by
   cases H:Nat.ble m.n lo with
   |false=>rfl
   |true=>have:=aar H;omega
  rw[this,aaw]
 have e:min l (min m.n lo)=min l lo:=by omega
 rw[h n F l hl,this,e];rfl
theorem Cl.of_flat{f:Nat}{args:aee}{vs:aee}{m m':M}{lo:Nat}(W:bP (aO vs)=true)(F:m.n<=lo)
  (h:∃n0,∀n,n0<=n->∀l,l<=m.n->bO E X n (.func f) args (m.wl l)=some (bif bP (aO vs) && Nat.ble m.n lo then(aO vs,m.wl l)else(aO vs,m'.wl (min l lo)))):Cl E X (.func f) args m m.n (aO vs) m:=by obtain⟨n0,h⟩:=h;refine⟨Ξ _,Ξ _,n0,λn hn l H=>?_⟩;have:Nat.ble m.n lo=true:=aa3 F;rw[h n hn l H,W,this,abL H];rfl
theorem Cl.flat{f:Nat}{fn:Func}{args:aee}{m:M}{v:aed}(H:IQ X f)(W:E.fn.get f=some fn)(hl:Nat.ble args.length fn.ntmps=true)(hv:bP v=true)
  (h:dm E (aI E X) fn args m λvs m' lo=>aO vs=v/\m.n<=lo):Cl E X (.func f) args m m.n v m:=by obtain⟨vs,s,lo,⟨rfl,F⟩,_,hr⟩:=Cl.body H W hl h;exact .of_flat hv F hr
theorem Cl.heap{f:Nat}{fn:Func}{args:aee}{m:M}{R:aed->M->Nat->Prop}(F:IQ X f)(H:E.fn.get f=some fn)(W:Nat.ble args.length fn.ntmps=true)
  (h:dm E (aI E X) fn args m λvs m' lo=>(bP (aO vs)=false\/lo < m.n)/\R (aO vs) m' (min m.n lo)):
  ∃v m' b,Cl E X (.func f) args m b v m'/\R v m' b:=by obtain⟨vs,s,lo,⟨hv,hR⟩,hn,hr⟩:=Cl.body F H W h;exact⟨_,_,_,.uq hn hv hr,hR⟩
theorem Cl.gen{f:Nat}{fn:Func}{args:aee}{m:M}{R:aed->M->Nat->Prop}(hX:IQ X f)(hf:E.fn.get f=some fn)(hl:Nat.ble args.length fn.ntmps=true)
  (h:dm E (aI E X) fn args m λvs m' lo=>(bP (aO vs)=true/\m.n<=lo/\R (aO vs) m m.n)\/((bP (aO vs)=false\/lo < m.n)/\R (aO vs) m' (min m.n lo))):
  ∃v m' b,Cl E X (.func f) args m b v m'/\R v m' b:=by
 obtain⟨vs,s,lo,h,hn,hr⟩:=Cl.body hX hf hl h;rcases h with⟨F,H,W⟩ |⟨F,W⟩;·exact⟨_,_,_,.of_flat F H hr,W⟩
 exact⟨_,_,_,.uq hn F hr,W⟩
theorem Cl.known{f:Fn}{args:aee}{m m':M}{v:aed}(H:∀l,X f args (m.wl l)=some (v,m'.wl l))(F:m.n<=m'.n)(W:∃k,f=.func k):Cl E X f args m m.n v m':=by
 obtain⟨k,rfl⟩:=W;refine⟨F,Ξ _,1,λn F l hl=>?_⟩;obtain⟨n,rfl⟩:∃j,n=j+1:=⟨n-1,by omega⟩
 simp only[bO,H,abL hl]
theorem Cl.Ld{k:Nat}{args:aee}{m m':M}{b:Nat}{v:aed}(H:∀l,l<=m.n->X (.func k) args (m.wl l)=some (v,m'.wl (min l b)))(F:m.n<=m'.n)(W:b<=m.n):Cl E X (.func k) args m b v m':=by
 refine⟨F,W,1,λn F l hl=>?_⟩;obtain⟨n,rfl⟩:∃j,n=j+1:=⟨n-1,by omega⟩
 simp only[bO,H l hl]
theorem az{f:Fn}{args:aee}{m m1:M}{v:aed}{b:Nat}{P:aed->M->Nat->Prop}(h:Cl E X f args m b v m1)(F:P v m1 b):bt E X f args m P:=⟨v,m1,b,h,F⟩
end
end
section
section
variable {E:Env} {X:aG} {k:IntKind} {t:TypeId} {a b:Int}
theorem dj:aw E .leq t (.int k a) (.int k b)=some (.bool (decide (a<=b))):=by simp[aw,iW]
theorem aX:aw E .lss t (.int k a) (.int k b)=some (.bool (decide (a < b))):=by simp[aw,iW]
theorem cO:aw E .geq t (.int k a) (.int k b)=some (.bool (decide (b<=a))):=by simp[aw,iW]
theorem dq:aw E .gtr t (.int k a) (.int k b)=some (.bool (decide (b < a))):=by simp[aw,iW]
theorem aY:aw E .eql t (.int k a) (.int k b)=some (.bool (decide (a=b))):=by simp[aw,iW];rfl
theorem da:aw E .neq t (.int k a) (.int k b)=some (.bool (!(decide (a=b)))):=by simp[aw,iW,bne];rfl
theorem aQ:aw E .add t (.int k a) (.int k b)=some (.int k (k.wrap (a+b))):=by simp[aw,iW]
theorem fB:aw E .sub t (.int k a) (.int k b)=some (.int k (k.wrap (a-b))):=by simp[aw,iW]
theorem ej:aw E .mul t (.int k a) (.int k b)=some (.int k (k.wrap (a*b))):=by simp[aw,iW]
theorem gZ(h:b≠0):aw E .quo t (.int k a) (.int k b)=some (.int k (k.wrap (a.tdiv b))):=by simp[aw,iW,h]
theorem pA(h:b≠0):aw E .rem t (.int k a) (.int k b)=some (.int k (a.tmod b)):=by simp[aw,iW,h]
theorem bM{b:Bool}:gU .not (.bool b)=some (.bool (!b)):=rfl
theorem zy:gU .neg (.int k a)=some (.int k (k.wrap (0-a))):=rfl
theorem wrap64{x:Int}(F: -9223372036854775808<=x)(H:x < 9223372036854775808):IntKind.i64.wrap x=x:=by
 have e:IntKind.i64.wrap x=if x%18446744073709551616>=9223372036854775808 then x%18446744073709551616-18446744073709551616 else x%18446744073709551616:=by unfold IntKind.wrap;simp[IntKind.bits,IntKind.signed]
 rw[e];split <;>omega
theorem an{b:Bool}{P Q:Prop}:bD (.bool b) P Q=Ce b P Q:=rfl
theorem bY{g:Fn}{fi ca:Array aed}{P:Fn->Array aed->Array aed->Prop}:jN (.func g fi ca) P=P g fi ca:=rfl
theorem aH{v:aed}{r:aee}{P:aed->aee->Prop}:un (v::r) P=P v r:=rfl
theorem bT{a:Addr}:cP (.pointer (some a))=some (.pointer (some a)):=rfl
theorem dF{f:FuncId}{a b:Array aed}:cP (.func (.func f) a b)=some (.func (.func f) a b):=rfl
theorem cp{vs:Array aed}{i:Nat}:bF (.tuple vs) i=vs.toList[i]?:=rfl
theorem bB{cs:Array aed}:cells (.agg cs)=cs.toList:=rfl
theorem ee{x:Int}:cells (.int k x)=[.int k x]:=rfl
theorem dJ{x:Bool}:cells (.bool x)=[.bool x]:=rfl
theorem dw{a:Option Addr}{n c:Nat}:cells (.slice a n c)=[.slice a n c]:=rfl
theorem ec{a:Option Addr}:cells (.pointer a)=[.pointer a]:=rfl
theorem ed{a:Option Nat}:cells (.map a)=[.map a]:=rfl
theorem dI{f:Fn}{a b:Array aed}:cells (.func f a b)=[.func f a b]:=rfl
theorem aq{b:Bool}{P Q:Prop}(F:b=true->P)(H:b=false->Q):Ce b P Q:=OG.2 ⟨F,H⟩
theorem bU{P Q:Prop}:Ce true P Q=P:=rfl
theorem aM{P Q:Prop}:Ce false P Q=Q:=rfl
theorem Lp.intro{F:(aee->M->Nat->Prop)->aee->M->Nat->Prop}{vs:aee}{m:M}{lo:Nat}{γ:Type}(H:γ->Nat)(I:γ->aee->M->Nat->Prop)(g0:γ)(h0:I g0 vs m lo)
  (hs:∀g vs m lo,I g vs m lo->F (λvs m lo=>∃W,H W < H g/\I W vs m lo) vs m lo):Lp F vs m lo:=⟨γ,H,I,⟨g0,h0⟩,hs⟩
end
section
variable {m m' m1:M} {b c:Nat} {o:Ob}
theorem M.ku(h:b < m.n):m.get b=(m.st.get b).getD .dead:=by
 unfold M.get;have:Nat.blt b m.n=true:=by rw[abZ];exact h
 rw[this];rfl
theorem M.kx(h:m.n<=b):m.get b=.dead:=by
 unfold M.get
 have:Nat.blt b m.n=false:=by
  cases F:Nat.blt b m.n with
  |false=>rfl
  |true=>rw[abZ]at F;omega
 rw[this];rfl
theorem M.bJ:(m.push o).get m.n=o:=by rw[M.ku (by rw[M.qd];omega)];show((m.st.set m.n o).get m.n).getD .dead=o;rw[Tr.cD,aaf rfl];rfl
theorem M.cE(h:b < m.n):(m.push o).get b=m.get b:=by rw[M.ku (by rw[M.qd];omega),M.ku h];show((m.st.set m.n o).get b).getD .dead=_;rw[Tr.cD,aaa (by omega)]
theorem M.cY(h:b < m.n):(m.set b o).get b=o:=by rw[M.ku (m:=m.set b o) h];show((m.st.set b o).get b).getD .dead=_;rw[Tr.cD,aaf rfl];rfl
theorem M.cL(h:c≠b):(m.set b o).get c=m.get c:=by
 by_cases F:c < m.n
 ·rw[M.ku F,M.ku (m:=m.set b o) F];show((m.st.set b o).get c).getD .dead=_;rw[Tr.cD,aaa h]
 rw[M.kx (m:=m) (by omega),M.kx (m:=m.set b o) (by show m.n<=c;omega)]
theorem M.aL{cs:aee}{e:TypeId}{g:Option Nat}(h:m.get b=.cells cs e g):b < m.n:=by
 by_cases F:b < m.n;·exact F
 rw[M.kx (by omega)]at h;cases h
theorem M.yT{es:List MapEntry}{g:Nat}(h:m.get b=.map es g):b < m.n:=by
 by_cases F:b < m.n;·exact F
 rw[M.kx (by omega)]at h;cases h
theorem au{P:M->Prop}(h:∀m1,m1.n=m.n+1->m1.get m.n=o->(∀b,b < m.n->m1.get b=m.get b)->P m1):bZ (m.push o) P:=
 h _ rfl M.bJ λ_ F=>M.cE F
theorem Ext.refl:Ext m m:=⟨Ξ _,λ_ _=>rfl⟩
theorem Ext.trans(h:Ext m m1)(F:Ext m1 m'):Ext m m':=⟨abD h.n F.n,λb H=>by rw[F.get b (acf H h.n),h.get b H]⟩
theorem Ext.push(h:Ext m m1):Ext m (m1.push o):=⟨abD h.n (aca _),λb F=>by rw[M.cE (acf F h.n),h.get b F]⟩
theorem Ext.set(h:Ext m m1)(H:m.n<=b):Ext m (m1.set b o):=⟨h.n,λc F=>by rw[M.cL (by omega),h.get c F]⟩
theorem Ext.wl(h:Ext m m1){l:Nat}:Ext m (m1.wl l):=⟨h.n,h.get⟩
theorem Ext.cells{cs:aee}{e:TypeId}{g:Option Nat}(h:Ext m m1)(F:m.get b=.cells cs e g):m1.get b=.cells cs e g:=by rw[h.get b (M.aL F),F]
theorem aF{cs:aee}{e:TypeId}{g:Option Nat}{o:Nat}(h:m.get b=.cells cs e g):cellAt m ⟨b,o,none⟩=cs[o]?:=by unfold cellAt;simp only[h];rfl
theorem aJ{cs:aee}{e:TypeId}{g:Option Nat}{o n:Nat}(h:m.get b=.cells cs e g)(F:o+n<=cs.length):loadCells m ⟨b,o,none⟩ n=some ((cs.drop o).take n):=by unfold loadCells;simp only[h];have:Nat.ble (o+n) cs.length=true:=aa3 F;rw[this];rfl
theorem jm{cs vs:aee}{e:TypeId}{g:Option Nat}{o:Nat}(h:m.get b=.cells cs e g)(F:o+vs.length<=cs.length)(H:vs.all one=true):
  storeCells m ⟨b,o,none⟩ vs=some (m.set b (.cells (cs.take o++(vs++cs.drop (o+vs.length))) e g)):=by unfold storeCells;simp only[h];have:Nat.ble (o+vs.length) cs.length=true:=aa3 F;rw[this,H];rfl
end
class aP (α:Type) where
 ty:TypeId
 sz:Nat
 agg:Bool
 fx:List TypeId
 rep:M->α->aee->Prop
 pos:0 < sz
 one:agg=false->sz=1
 len:∀{m x cs},rep m x cs->cs.length=sz
 kN:∀{m x cs},rep m x cs->cs.all D.one=true
 bH:∀{m m' x cs},rep m x cs->(∀b c t g,m.get b=.cells c t g->t∈fx->m'.get b=.cells c t g)->rep m' x cs
namespace aP
def val(α:Type)[aP α](cs:aee):aed:=bif agg α then .agg cs.toArray else cs.headD undef
theorem aD{α:Type}[aP α]{m m':M}{x:α}{cs:aee}(h:rep m x cs)(he:Ext m m'):rep m' x cs:=bH h λ_ _ _ _ F _=>he.cells F
end aP
def Sl{α:Type}[aP α](m:M)(l:List α)(v:aed):Prop:=
 (v=.slice none 0 0/\l=[])\/∃b o c F g,v=.slice (some ⟨b,o,none⟩) l.length c/\m.get b=.cells F (aP.ty α) g/\o+l.length*aP.sz α<=F.length/\
  ∀i x,l[i]?=some x->aP.rep m x ((F.drop (o+i*aP.sz α)).take (aP.sz α))
theorem Sl.bH{α:Type}[aP α]{m m':M}{l:List α}{v:aed}(h:Sl m l v)(F:∀b c t g,m.get b=.cells c t g->t∈aP.ty α::aP.fx α->m'.get b=.cells c t g):Sl m' l v:=by
 rcases h with h |⟨b,o,c,H,g,W,h2,h3,h4⟩;·exact .inl h
 exact .inr ⟨b,o,c,H,g,W,F _ _ _ _ h2 aaP,h3,λi x hi=>aP.bH (h4 i x hi) λb c t g hb ht=>F b c t g hb (aaZ _ ht)⟩
theorem Sl.aD{α:Type}[aP α]{m m':M}{l:List α}{v:aed}(h:Sl m l v)(he:Ext m m'):Sl m' l v:=h.bH λ_ _ _ _ F _=>he.cells F
theorem Sl.form{α:Type}[aP α]{m:M}{l:List α}{v:aed}(h:Sl m l v):∃a c,v=.slice a l.length c:=by
 rcases h with⟨rfl,rfl⟩ |⟨b,o,c,F,g,rfl,_⟩;·exact⟨_,_,rfl⟩
 exact⟨_,_,rfl⟩
theorem Sl.one{α:Type}[aP α]{m:M}{l:List α}{v:aed}(h:Sl m l v):one v=true:=by obtain⟨a,c,rfl⟩:=h.form;rfl
theorem Sl.nil{α:Type}[aP α]{m:M}:Sl m ([]:List α) aeg:=.inl ⟨rfl,rfl⟩
theorem Sl.cells{α:Type}[aP α]{m:M}{l:List α}{v:aed}(h:Sl m l v):D.cells v=[v]:=by obtain⟨a,c,rfl⟩:=h.form;rfl
def uF(E:Env)(T t:TypeId)(α:Type)[aP α]:Prop:=
 ∃ti te,E.ty.get T=some ti/\(∃e,ti.d=.slice e)/\ti.es=aP.sz α/\E.ty.get t=some te/\te.d.agg=aP.agg α/\te.size=aP.sz α
section
variable {E:Env} {m:M} {T t:TypeId} {α:Type} [aP α] {l:List α} {v:aed}
theorem Sl.len(h:Sl m l v)(F:uF E T t α):av E m .len [T] [v]=some (.int .i64 l.length,m):=by obtain⟨ti,te,H,⟨e,W⟩,_⟩:=F;obtain⟨a,c,rfl⟩:=h.form;simp only[av,pC,H,W,aag]
theorem Sl.index(h:Sl m l v)(hT:uF E T t α){k:IntKind}{i:Nat}{x:α}(hi:l[i]?=some x):
  ∃p cs,ak E T v (.int k i)=some p/\ah E m t p=some (aP.val α cs)/\aP.rep m x cs:=by
 obtain⟨ti,te,h1,⟨e,h2⟩,h3,h4,h5,h6⟩:=hT;have H:=(Ω.1 hi).1;rcases h with⟨_,rfl⟩ |⟨b,o,c,bc,g,rfl,hb,hlen,W⟩;·simp at hi
 have hr:=W i x hi;have b0:=aP.pos (α:=α);refine⟨aeb b (o+i*aP.sz α),_,?_,?_,hr⟩
 ·have hc:0<=(i:Int)/\(i:Int)< (l.length:Int)/\0 < ti.es:=⟨by omega,by omega,by omega⟩
  simp only[ak,h1,h2];rw[aaf hc,bw rfl,h3];rfl
 ·have hle:o+i*aP.sz α+aP.sz α<=bc.length:=by
   have:(i+1)*aP.sz α<=l.length*aP.sz α:=aaD _ H
   rw[aao,abg]at this
   omega
  simp only[ah,loadVar,h4]
  unfold aP.val
  cases ha:aP.agg α with
  |true=>rw[h5,ha,h6];simp only[cond_true];rw[aJ hb hle];rfl
  |false=>
   rw[h5,ha];simp only[cond_false];rw[aF hb];have a0:=aP.len hr;have hs:=aP.one ha;rw[hs]at a0⊢;simp only[hs]at hle;rw[adw,List.head?_take,List.head?_drop,aaa (by omega)];have F:o+i*1 < bc.length:=by omega
   rw[Φ F];rfl
end
theorem nK{E:Env}{m:M}{t:TypeId}{ti:TI}{b o:Nat}{cs:aee}{e:TypeId}{g:Option Nat}{x:aed}(F:E.ty.get t=some ti)(h:m.get b=.cells cs e g)(H:(cells x).length=ti.size)(W:o+(cells x).length<=cs.length)(h1:(cells x).all one=true):
  aA E m t (aeb b o) x=some (m.set b (.cells (cs.take o++(cells x++cs.drop (o+(cells x).length))) e g),b):=by
 have:Nat.beq (cells x).length ti.size=true:=by rw[H];exact aa4 _
 simp only[aA,storeVar,F,this,cond_true,jm h W h1]
theorem bW{E:Env}{m:M}{t:TypeId}{ti:TI}{b o:Nat}{cs:aee}{e:TypeId}{g:Option Nat}{x:aed}{P:M->Nat->Prop}(F:E.ty.get t=some ti)(h:m.get b=.cells cs e g)(H:(cells x).length=ti.size)(W:o+(cells x).length<=cs.length)(h1:(cells x).all one=true)
  (hP:∀m1,m1.n=m.n->m1.get b=.cells (cs.take o++(cells x++cs.drop (o+(cells x).length))) e g->(∀c,c≠b->m1.get c=m.get c)->P m1 b):aT (aA E m t (aeb b o) x) P:=by rw[nK F h H W h1,aE];exact hP _ rfl (M.cY (M.aL h)) λc hc=>M.cL hc
theorem Sl.lU{E:Env}{m:M}{T t:TypeId}{α:Type}[aP α]{l:List α}{v:aed}(h:Sl m l v)(hT:uF E T t α){k:IntKind}{i:Nat}{x:α}(hi:l[i]?=some x):
  ∃b o F g cs,ak E T v (.int k i)=some (aeb b o)/\m.get b=.cells F (aP.ty α) g/\aP.rep m x cs/\o+aP.sz α<=F.length/\∀j,j < aP.sz α->F[o+j]?=cs[j]?:=by
 obtain⟨ti,te,h1,⟨e,h2⟩,h3,h4,h5,h6⟩:=hT;have H:=(Ω.1 hi).1;rcases h with⟨_,rfl⟩ |⟨b,o,c,F,g,rfl,hb,hlen,W⟩;·simp at hi
 have hr:=W i x hi;have a0:=aP.pos (α:=α);refine⟨b,o+i*aP.sz α,F,g,_,?_,hb,hr,?_,λj hj=>?_⟩
 ·have hc:0<=(i:Int)/\(i:Int)< (l.length:Int)/\0 < ti.es:=⟨by omega,by omega,by omega⟩
  simp only[ak,h1,h2];rw[aaf hc,bw rfl,h3];rfl
 ·have:(i+1)*aP.sz α<=l.length*aP.sz α:=aaD _ H;rw[aao,abg]at this;omega
 rw[aaI hj,aaW]
theorem aC{E:Env}{m:M}{t:TypeId}{ti:TI}{b:Nat}{cs:aee}{e:TypeId}{g:Option Nat}{x:aed}{P:M->Nat->Prop}(F:E.ty.get t=some ti)(h:m.get b=.cells cs e g)(H:(cells x).length=ti.size)(hl:(cells x).length=cs.length)(W:(cells x).all one=true)
  (hP:∀m1,m1.n=m.n->m1.get b=.cells (cells x) e g->(∀c,c≠b->m1.get c=m.get c)->P m1 b):aT (aA E m t (aeb b 0) x) P:=by refine bW F h H (by omega) W λm1 hn hg hk=>hP m1 hn ?_ hk;rw[hg,abi,abz,abr (by omega),abk]
end
section
structure CX(n1:Nat)(m m1:M):Prop where
 n:m.n<=m1.n
 get:∀c,c < n1->m1.get c=m.get c
theorem CX.refl{n1:Nat}{m:M}:CX n1 m m:=⟨Ξ _,λ_ _=>rfl⟩
theorem CX.trans{n1:Nat}{m m1 m2:M}(h:CX n1 m m1)(F:CX n1 m1 m2):CX n1 m m2:=⟨abD h.n F.n,λc H=>by rw[F.get c H,h.get c H]⟩
theorem CX.ext{m m1:M}(h:CX m.n m m1):Ext m m1:=⟨h.n,h.get⟩
theorem Ext.fr{m m1:M}(h:Ext m m1){n1:Nat}(F:n1<=m.n):CX n1 m m1:=⟨h.n,λc H=>h.get c (by omega)⟩
theorem CX.mono{n1 n2:Nat}{m m1:M}(h:CX n1 m m1)(F:n2<=n1):CX n2 m m1:=⟨h.n,λc H=>h.get c (by omega)⟩
def chunk(cs:aee)(k i:Nat):aee:=(cs.drop (i*k)).take k
theorem cN{a b:aee}{k n i:Nat}(F:a.length=n*k)(hi:i < n):chunk (a++b) k i=chunk a k i:=by unfold chunk;have:(i+1)*k<=n*k:=aaD _ hi;rw[aao,abg]at this;rw[acM (by omega),abG (by rw[aaK];omega)]
theorem cS{a b:aee}{k n i:Nat}(F:a.length=n*k)(hi:n<=i):chunk (a++b) k i=chunk b k (i-n):=by unfold chunk;have:n*k<=i*k:=aaD _ hi;rw[acV,F,abr (by omega),abz,abj]
theorem Iw{F:aee}{o k n i:Nat}(hi:i < n):chunk ((F.drop o).take (n*k)) k i=(F.drop (o+i*k)).take k:=by
 unfold chunk
 have:(i+1)*k<=n*k:=aaD _ hi
 rw[aao,abg]at this
 rw[adl,abp,ab1]
 congr 1
 omega
theorem nn{p:aed->Bool}{k:Nat}:∀(n:Nat) (cs:aee),cs.length=n*k->(∀i,i < n->(chunk cs k i).all p=true)->cs.all p=true
 |0,cs,F,_=>by
  have:cs=[]:=abw (by simpa using F)
  rw[this];rfl
 |n+1,cs,F,h=>by
  rw[aao,abg]at F
  have H:=h 0 (by omega)
  simp only[chunk,ab0,aa0]at H
  have W:=nn (k:=k) n (cs.drop k) (by rw[aaK];omega) λi hi=>by
   have:=h (i+1) (by omega)
   simp only[chunk,aao,abg]at this
   simp only[chunk,abp]
   rw[Nat.add_comm k]
   exact this
  rw[<-abV k cs,ac9,H,W];rfl
def Ow{α:Type}[aP α](n1:Nat)(m:M)(l:List α)(v:aed):Prop:=
 (v=.slice none 0 0/\l=[])\/∃b cs,v=.slice (some ⟨b,0,none⟩) l.length l.length/\0 < l.length/\n1<=b/\m.get b=.cells cs (aP.ty α) (some (aP.sz α))/\cs.length=l.length*aP.sz α/\
  ∀i x,l[i]?=some x->aP.rep m x (chunk cs (aP.sz α) i)
theorem Ow.nil{α:Type}[aP α]{n1:Nat}{m:M}:Ow n1 m ([]:List α) aeg:=.inl ⟨rfl,rfl⟩
theorem Ow.sl{α:Type}[aP α]{n1:Nat}{m:M}{l:List α}{v:aed}(h:Ow n1 m l v):Sl m l v:=by
 rcases h with h |⟨b,cs,F,h2,h3,H,h5,W⟩;·exact .inl h
 refine .inr ⟨b,0,_,cs,_,F,H,by omega,λi x hi=>?_⟩;rw[aaq];exact W i x hi
theorem Ow.bH{α:Type}[aP α]{n1:Nat}{m m':M}{l:List α}{v:aed}(h:Ow n1 m l v)(F:∀b c t g,m.get b=.cells c t g->t∈aP.ty α::aP.fx α->m'.get b=.cells c t g):Ow n1 m' l v:=by
 rcases h with h |⟨b,cs,H,W,h3,h4,h5,h6⟩;·exact .inl h
 exact .inr ⟨b,cs,H,W,h3,F _ _ _ _ h4 aaP,h5,λi x hi=>aP.bH (h6 i x hi) λb c t g hb ht=>F b c t g hb (aaZ _ ht)⟩
theorem Ow.aD{α:Type}[aP α]{n1:Nat}{m m':M}{l:List α}{v:aed}(h:Ow n1 m l v)(he:Ext m m'):Ow n1 m' l v:=h.bH λ_ _ _ _ F _=>he.cells F
theorem Ow.mono{α:Type}[aP α]{n1 n2:Nat}{m:M}{l:List α}{v:aed}(h:Ow n1 m l v)(hn:n2<=n1):Ow n2 m l v:=by
 rcases h with h |⟨b,cs,F,H,h3,W⟩;·exact .inl h
 exact .inr ⟨b,cs,F,H,by omega,W⟩
theorem Ow.flat{α:Type}[aP α]{n1:Nat}{m:M}{l:List α}{v:aed}(h:Ow n1 m l v)(F:l≠ []):bP v=false:=by
 rcases h with⟨_,rfl⟩ |⟨b,cs,rfl,_⟩;·exact absurd rfl F
 rfl
def AF(E:Env)(T:TypeId)(α:Type)[aP α]:Prop:=
 ∃ti F,E.ty.get T=some ti/\ti.d=.slice (aP.ty α)/\ti.es=aP.sz α/\E.ty.get (aP.ty α)=some F/\F.bytes<=65536/\fL F.zero (aP.sz α)=true
section
variable {E:Env} {α:Type} [aP α] {n1:Nat} {m:M} {l ys:List α} {v y:aed} {T:TypeId}
theorem Sl.first(h:Sl m ys y):∃news,iS y=some ys.length/\first? m (aP.sz α) ys.length y=some news/\news.length=ys.length*aP.sz α/\news.all D.one=true/\∀i x,ys[i]?=some x->aP.rep m x (chunk news (aP.sz α) i):=by
 rcases h with⟨rfl,rfl⟩ |⟨b,o,c,W,g,rfl,hb,hlen,H⟩;·exact⟨[],rfl,rfl,by simp,rfl,λi x hi=>by simp at hi⟩
 have hl:((W.drop o).take (ys.length*aP.sz α)).length=ys.length*aP.sz α:=by rw[aap,aaK];omega
 have F:∀i x,ys[i]?=some x->aP.rep m x (chunk ((W.drop o).take (ys.length*aP.sz α)) (aP.sz α) i):=λi x hi=>by rw[Iw (Ω.1 hi).1];exact H i x hi
 refine⟨_,rfl,?_,hl,?_,F⟩
 ·unfold first?
  cases hn:Nat.beq ys.length 0 with
  |true=>have:=aab hn;simp[this]
  |false=>exact aJ hb hlen
 exact nn ys.length _ hl λi hi=>aP.kN (F i _ (Φ hi))
theorem Ow.append(hT:AF E T α)(h0:aP.ty α∉aP.fx α)(h:Ow n1 m l v)(hy:Sl m ys y)(hn:n1<=m.n)(hs:l.length+ys.length<=268435456):
  ∃v' m1,av E (m.wl m.n) .append [T,T] [v,y]=some (v',m1)/\Ow n1 m1 (l++ys) v'/\CX n1 m m1/\n1<=m1.low/\m1.n<=m.n+1:=by
 obtain⟨ti,ei,t1,t2,t3,t4,t5,t6⟩:=hT;obtain⟨news,e1,e2,e3,e4,e5⟩:=hy.first;have k0:=aP.pos (α:=α)
 have hc:(Nat.beq ti.es 0 ||Nat.blt 65536 ei.bytes || !news.all D.one ||Nat.blt 268435456 (l.length+ys.length) || !Nat.beq news.length (ys.length*ti.es) || !fL ei.zero ti.es)=false:=by
  have c1:Nat.beq ti.es 0=false:=by
   cases H:Nat.beq ti.es 0 with
   |false=>rfl
   |true=>have:=aab H;omega
  have c2:Nat.blt 65536 ei.bytes=false:=by
   cases H:Nat.blt 65536 ei.bytes with
   |false=>rfl
   |true=>rw[abZ]at H;omega
  have c3:Nat.blt 268435456 (l.length+ys.length)=false:=by
   cases H:Nat.blt 268435456 (l.length+ys.length)with
   |false=>rfl
   |true=>rw[abZ]at H;omega
  have c4:Nat.beq news.length (ys.length*ti.es)=true:=by rw[e3,t3];exact aa4 _
  rw[c1,c2,c3,c4,e4,t3,t6];rfl
 have F:first? (m.wl m.n) ti.es ys.length y=some news:=by rw[cC,t3];exact e2
 rcases h with⟨rfl,rfl⟩ |⟨b,cs,rfl,h2,h3,h4,h5,h6⟩
 ·
  cases W:ys with
  |nil=>subst W;refine⟨aeg,m.wl m.n,?_,.inl ⟨rfl,rfl⟩,⟨Ξ _,λ_ _=>rfl⟩,hn,by show m.n<=_;omega⟩;simp only[av,dQ,t1,e1,t2,t4,F];simp only[abc]at hc⊢;rw[hc];rfl
  |cons y0 i0=>
   rw[<-W];have a0:0 < ys.length:=by rw[W];simp
   have b0:Nat.ble (0+ys.length) 0=false:=by
    cases H:Nat.ble (0+ys.length) 0 with
    |false=>rfl
    |true=>have:=aar H;omega
   refine⟨aec m.n 0 ys.length ys.length,(m.wl m.n).push (.cells news (aP.ty α) (some (aP.sz α))),?_,?_,⟨by show m.n<=m.n+1;omega,λc hc=>by rw[M.cE (by show c < m.n;omega)];rfl⟩,hn,by show m.n+1<=_;omega⟩
   ·simp only[av,dQ,t1,e1,t2,t4,F];simp only[abc]at hc;rw[hc,b0];simp only[cond_false,kT];have:(Nat.beq 0 0 && Nat.beq 0 0)=true:=rfl;rw[this,t3];simp only[cond_true,aaq];rfl
   refine .inr ⟨m.n,news,by simp,by simpa using a0,hn,M.bJ (m:=m.wl m.n),by simpa using e3,λi x hi=>?_⟩;have:=e5 i x (by simpa using hi);exact aP.aD this ⟨by show m.n<=m.n+1;omega,λc hc=>by rw[M.cE (m:=m.wl m.n) hc];rfl⟩
 ·
  have l0:=M.aL h4
  cases W:ys with
  |nil=>
   subst W;refine⟨aec b 0 l.length l.length,m.wl m.n,?_,?_,⟨Ξ _,λ_ _=>rfl⟩,hn,by show m.n<=_;omega⟩
   ·simp only[av,dQ,t1,e1,t2,t4,F];simp only[abc,abC]at hc⊢;rw[hc];have:Nat.ble l.length l.length=true:=aa3 (Ξ _);rw[this];rfl
   rw[abk];exact .inr ⟨b,cs,rfl,h2,h3,h4,h5,λi x hi=>aP.bH (m:=m) (h6 i x hi) λ_ _ _ _ H _=>H⟩
  |cons y0 i0=>
   rw[<-W];have a0:0 < ys.length:=by rw[W];simp
   have b0:Nat.ble (l.length+ys.length) l.length=false:=by
    cases H:Nat.ble (l.length+ys.length) l.length with
    |false=>rfl
    |true=>have:=aar H;omega
   have hold:(bif Nat.beq l.length 0 then some []else loadCells (m.wl m.n) ⟨b,0,none⟩ (l.length*aP.sz α))=some cs:=by
    cases H:Nat.beq l.length 0 with
    |true=>have:=aab H;omega
    |false=>simp only[cond_false,bS];rw[aJ h4 (by omega),aa0,aa5 (by omega)]
   have g1:((some (aP.sz α):Option Nat).isNone ||((some (aP.sz α):Option Nat)==some (aP.sz α) && Nat.blt (0+l.length*aP.sz α) cs.length))=false:=by
    have:Nat.blt (0+l.length*aP.sz α) cs.length=false:=by
     cases H:Nat.blt (0+l.length*aP.sz α) cs.length with
     |false=>rfl
     |true=>rw[abZ]at H;omega
    rw[this];simp
   have g2:((some (aP.sz α):Option Nat)==some (aP.sz α) && Nat.beq 0 0 && (none:Option Nat).isNone && Nat.beq (l.length*aP.sz α) cs.length && Nat.beq l.length l.length && Nat.beq (aP.ty α) (aP.ty α))=true:=by rw[h5];simp
   refine⟨aec m.n 0 (l.length+ys.length) (l.length+ys.length),((m.wl m.n).set b .dead).push (.cells (cs++news) (aP.ty α) (some (aP.sz α))),?_,?_,⟨by show m.n<=m.n+1;omega,λc hc=>?_⟩,?_,by show m.n+1<=_;omega⟩
   ·simp only[av,dQ,t1,e1,t2,t4,F];rw[hc,b0];simp only[cond_false,kT,t3];have hg:(m.wl m.n).get b=.cells cs (aP.ty α) (some (aP.sz α)):=h4;simp only[hg,hold,g1,cond_false];rw[g2];rfl
   ·have e0:∀c,c < m.n->c≠b->(((m.wl m.n).set b .dead).push (.cells (cs++news) (aP.ty α) (some (aP.sz α)))).get c=m.get c:=λc hc j0=>by rw[M.cE (by show c < m.n;exact hc),M.cL j0];rfl
    have d0:∀x c,aP.rep m x c->aP.rep (α:=α) (((m.wl m.n).set b .dead).push (.cells (cs++news) (aP.ty α) (some (aP.sz α)))) x c:=λx c hx=>by refine aP.bH hx λb' c' t g H ht=>?_;rw[e0 b' (M.aL H) (λe=>by subst e;rw[h4]at H;cases H;exact h0 ht),H]
    refine .inr ⟨m.n,cs++news,by simp,by simp;omega,hn,M.bJ (m:=(m.wl m.n).set b .dead),by simp[h5,e3,aao],λi x hi=>?_⟩;by_cases g0:i < l.length
    ·rw[cN h5 g0];rw[aa9 g0]at hi;exact d0 _ _ (h6 i x hi)
    rw[cS h5 (by omega)];rw[aa1 (by omega)]at hi;exact d0 _ _ (e5 _ x hi)
   ·rw[M.cE (by show c < m.n;omega),M.cL (by omega)];rfl
   show n1<=min m.n b;omega
end
end
section
section
variable {E:Env} {m:M} {T:TypeId} {ti:TI} {e:TypeId} {b n:Nat} {cs:aee} {te:TypeId} {k:Nat}
theorem gj{i y:Nat}(h:i<=y):qH (.int .i64 i) y=some i:=by
 unfold qH;have:(0:Int)<=i/\(i:Int)<=y:=⟨by omega,by omega⟩
 simp only[this,and_self,abq,ab8]
theorem AZ(t1:E.ty.get T=some ti)(t2:ti.d=.slice e)(t3:ti.es=k)(hk:0 < k)(h:m.get b=.cells cs te (some k))(hn:0 < n){i c:Nat}(W:i<=n)(F:c<=n):
  slice? E m T (aec b 0 c n) none (some (.int .i64 i)) none=some (aec b 0 i n):=by
 have b1:ef c n none (some (.int .i64 i)) none=some (0,i,n):=by unfold ef;simp only[gj W]
 have e1:Nat.beq ti.es 0=false:=by
  cases H:Nat.beq ti.es 0 with
  |false=>rfl
  |true=>have:=aab H;omega
 have e2:Nat.ble c n=true:=aa3 F;have e3:Nat.beq k ti.es=true:=by rw[t3];exact aa4 _
 have e4:Nat.beq n 0=false:=by
  cases H:Nat.beq n 0 with
  |false=>rfl
  |true=>have:=aab H;omega
 simp only[slice?,t1,t2,b1,h,e1,e2,e3,e4,aal,aax,cond_false,cond_true,aaz];simp only[ab0,Addr.add,abq,acP]
theorem uY(t1:E.ty.get T=some ti)(t2:ti.d=.slice e)(t3:ti.es=k)(hk:0 < k)(h:m.get b=.cells cs te (some k))(F:cs.length=n*k){j:Nat}(H:j<=n):
  slice? E m T (aec b 0 n n) (some (.int .i64 j)) none none=some (aec b (j*k) (n-j) (n-j)):=by
 have W:ef n n (some (.int .i64 j)) none none=some (j,n,n):=by unfold ef;simp only[gj H]
 have e1:Nat.beq ti.es 0=false:=by
  cases hb:Nat.beq ti.es 0 with
  |false=>rfl
  |true=>have:=aab hb;omega
 have e2:Nat.ble n n=true:=aa3 (Ξ _);have e3:Nat.beq k ti.es=true:=by rw[t3];exact aa4 _
 have e4:Nat.beq (0+n*ti.es) cs.length=true:=by rw[F,t3,aaq];exact aa4 _
 simp only[slice?,t1,t2,W,h,e1,e2,e3,e4,aal,aax,cond_false,cond_true,acv,aco,aaw];rw[t3,bw rfl,aaq]
theorem Dn(t1:E.ty.get T=some ti)(t2:ti.d=.slice e)(t3:ti.es=k)(hk:0 < k)(h:m.get b=.cells cs te (some k)){i j:Nat}(hi:i<=j)(F:j<=n):
  ∃w,slice? E m T (aec b 0 n n) (some (.int .i64 i)) (some (.int .i64 j)) (some (.int .i64 n))=some w:=by
 have H:ef n n (some (.int .i64 i)) (some (.int .i64 j)) (some (.int .i64 n))=some (i,j,n):=by unfold ef;simp only[gj F,gj hi,gj (Ξ n)]
 have W:Nat.beq ti.es 0=false:=by
  cases hb:Nat.beq ti.es 0 with
  |false=>rfl
  |true=>have:=aab hb;omega
 have e2:Nat.ble n n=true:=aa3 (Ξ _);have e3:Nat.beq k ti.es=true:=by rw[t3];exact aa4 _
 simp only[slice?,t1,t2,H,h,W,e2,e3,aal,aax,cond_false,cond_true];exact⟨_,rfl⟩
theorem Dm(t1:E.ty.get T=some ti)(t2:ti.d=.slice e)(t3:ti.es=k)(hk:0 < k)(h:m.get b=.cells cs te (some k))(H:cs.length=n*k){c:Nat}(F:c<=n):
  slice? E m T (aec b 0 c n) (some (.int .i64 c)) (some (.int .i64 n)) none=some (aec b (c*k) (n-c) (n-c)):=by
 have W:ef c n (some (.int .i64 c)) (some (.int .i64 n)) none=some (c,n,n):=by unfold ef;simp only[gj F,gj (Ξ n)]
 have e1:Nat.beq ti.es 0=false:=by
  cases hb:Nat.beq ti.es 0 with
  |false=>rfl
  |true=>have:=aab hb;omega
 have e2:Nat.ble c n=true:=aa3 F;have e3:Nat.beq k ti.es=true:=by rw[t3];exact aa4 _
 have e4:Nat.beq (0+n*ti.es) cs.length=true:=by rw[H,t3,aaq];exact aa4 _
 simp only[slice?,t1,t2,W,h,e1,e2,e3,e4,aal,aax,cond_false,cond_true,acv,aco,aaw];rw[t3,bw rfl,aaq]
end
section
variable {E:Env} {α:Type} [aP α] {n1:Nat} {m:M} {T:TypeId}
theorem lN(hT:AF E T α){b n i j:Nat}{cs:aee}{te:TypeId}(h:m.get b=.cells cs te (some (aP.sz α)))(hl:cs.length=n*aP.sz α)(H:cs.all one=true)(hi:i<=j)(hj:j<=n)(hs:n<=1000000):
  ∃m1,av E (m.wl m.n) .append [T,T] [aec b 0 i n,aec b (j*aP.sz α) (n-j) (n-j)]=some (aec b 0 (i+(n-j)) n,m1)/\
   m1.n=m.n/\(m1.low=m.n\/m1.low=b)/\(∀c,c≠b->m1.get c=m.get c)/\m1.get b=.cells (cs.take (i*aP.sz α)++(cs.drop (j*aP.sz α)++cs.drop (i*aP.sz α+(n-j)*aP.sz α))) te (some (aP.sz α)):=by
 obtain⟨ti,ei,t1,t2,t3,t4,t5,t6⟩:=hT
 have l0:=aP.pos (α:=α)
 have i0:=M.aL h
 have hmul:j*aP.sz α<=n*aP.sz α:=aaD _ hj
 have W:(n-j)*aP.sz α=n*aP.sz α-j*aP.sz α:=abj _ _ _
 have b0:(bif Nat.beq (n-j) 0 then some []else loadCells (m.wl m.n) ⟨b,j*aP.sz α,none⟩ ((n-j)*ti.es))=some (cs.drop (j*aP.sz α)):=by
  cases hb:Nat.beq (n-j) 0 with
  |true=>have:=aab hb;rw[abr (by rw[hl];rw[this]at W;omega)];rfl
  |false=>simp only[cond_false,bS,t3];rw[aJ h (by omega),aa5 (by rw[aaK];omega)]
 have F:first? (m.wl m.n) ti.es (n-j) (aec b (j*aP.sz α) (n-j) (n-j))=some (cs.drop (j*aP.sz α)):=b0
 have e0:(cs.drop (j*aP.sz α)).length=(n-j)*aP.sz α:=by rw[aaK];omega
 have g0:(cs.drop (j*aP.sz α)).all one=true:=by rw[aay]at H⊢;intro x hx;exact H x (acj hx)
 have hc:(Nat.beq ti.es 0 ||Nat.blt 65536 ei.bytes || !(cs.drop (j*aP.sz α)).all one ||Nat.blt 268435456 (i+(n-j)) || !Nat.beq (cs.drop (j*aP.sz α)).length ((n-j)*ti.es) || !fL ei.zero ti.es)=false:=by
  have c1:Nat.beq ti.es 0=false:=by
   cases hb:Nat.beq ti.es 0 with
   |false=>rfl
   |true=>have:=aab hb;omega
  have c2:Nat.blt 65536 ei.bytes=false:=by
   cases hb:Nat.blt 65536 ei.bytes with
   |false=>rfl
   |true=>rw[abZ]at hb;omega
  have c3:Nat.blt 268435456 (i+(n-j))=false:=by
   cases hb:Nat.blt 268435456 (i+(n-j))with
   |false=>rfl
   |true=>rw[abZ]at hb;omega
  have c4:Nat.beq (cs.drop (j*aP.sz α)).length ((n-j)*ti.es)=true:=by rw[e0,t3];exact aa4 _
  rw[c1,c2,c3,c4,g0,t3,t6];rfl
 have a0:Nat.ble (i+(n-j)) n=true:=aa3 (by omega)
 cases hz:Nat.beq (n-j) 0 with
 |true=>
  have d0:=aab hz;refine⟨m.wl m.n,?_,rfl,.inl rfl,λ_ _=>rfl,?_⟩;·simp only[av,dQ,t1,t2,t4,iS,F,hc,a0,hz,cond_true,cond_false,aag]
  show m.get b=_;rw[h,d0,ab0,abC,abr (by rw[d0]at W;omega),abz,abV]
 |false=>
  have d0:0 < n-j:=by
   rcases adX (n-j)with h0 |h0;·rw[h0]at hz;cases hz
   exact h0
  have j0:storeCells (m.wl m.n) (Addr.add ⟨b,0,none⟩ (i*ti.es)) (cs.drop (j*aP.sz α))=some ((m.wl m.n).set b (.cells (cs.take (i*aP.sz α)++(cs.drop (j*aP.sz α)++cs.drop (i*aP.sz α+(n-j)*aP.sz α))) te (some (aP.sz α)))):=by have k0:i*aP.sz α<=j*aP.sz α:=aaD _ hi;rw[t3,bw rfl,aaq,jm (m:=m.wl m.n) h (by omega) g0,e0]
  refine⟨(m.wl m.n).set b (.cells (cs.take (i*aP.sz α)++(cs.drop (j*aP.sz α)++cs.drop (i*aP.sz α+(n-j)*aP.sz α))) te (some (aP.sz α))),?_,rfl,.inr (show min m.n b=b by omega),λc hc=>M.cL (m:=m.wl m.n) hc,M.cY (m:=m.wl m.n) i0⟩;simp only[av,dQ,t1,t2,t4,iS,F,hc,a0,hz,cond_true,cond_false,j0,aag]
theorem wR(hT:AF E T α){b o n:Nat}{cs z:aee}{te:TypeId}{g:Option Nat}(h:m.get b=.cells cs te g)(hz:∃v,eZ E (aP.ty α)=some v/\cells v=z)(W:z.length=aP.sz α)(a0:z.all one=true)(hn:0 < n)(hl:o+n*aP.sz α<=cs.length):
  ∃m1,av E (m.wl m.n) .clear [T] [aec b o n n]=some (.tuple #[],m1)/\m1.n=m.n/\m1.low=b/\(∀c,c≠b->m1.get c=m.get c)/\
   m1.get b=.cells (cs.take o++(dB z n++cs.drop (o+n*aP.sz α))) te g:=by
 obtain⟨ti,ei,t1,t2,t3,t4,t5,t6⟩:=hT;obtain⟨v,hv,rfl⟩:=hz;have b0:=M.aL h
 have F:∀k,(dB (cells v) k).length=k*aP.sz α/\(dB (cells v) k).all one=true:=by
  intro k
  induction k with
  |zero=>simp[dB]
  |succ k ih=>simp only[dB,aam,ac9,W,a0,ih,aao,abg,aco,and_true];omega
 have hb:Nat.beq n 0=false:=by
  cases hq:Nat.beq n 0 with
  |false=>rfl
  |true=>have:=aab hq;omega
 have H:=jm (m:=m.wl m.n) (o:=o) h (vs:=dB (cells v) n) (by rw[(F n).1];exact hl) (F n).2;rw[(F n).1]at H;refine⟨(m.wl m.n).set b (.cells (cs.take o++(dB (cells v) n++cs.drop (o+n*aP.sz α))) te g),?_,rfl,show min m.n b=b by omega,λc hc=>M.cL (m:=m.wl m.n) hc,M.cY (m:=m.wl m.n) b0⟩;simp only[av,oE,t1,t2,hb,cond_false,hv,H,aag]
theorem lO(hT:AF E T α){ys:List α}{y:aed}{b:Nat}{te:TypeId}(h:m.get b=.cells [] te none)(hy:Sl m ys y)(b0:ys≠ [])(hs:ys.length<=1000000):
  ∃v' m1,av E (m.wl m.n) .append [T,T] [aec b 0 0 0,y]=some (v',m1)/\Ow m.n m1 ys v'/\Ext m m1/\m1.low=m.n:=by
 obtain⟨ti,ei,t1,t2,t3,t4,t5,t6⟩:=hT;obtain⟨news,e1,e2,e3,e4,e5⟩:=hy.first;have d0:=aP.pos (α:=α);have H:0 < ys.length:=adk.2 b0
 have hc:(Nat.beq ti.es 0 ||Nat.blt 65536 ei.bytes || !news.all D.one ||Nat.blt 268435456 (0+ys.length) || !Nat.beq news.length (ys.length*ti.es) || !fL ei.zero ti.es)=false:=by
  have c1:Nat.beq ti.es 0=false:=by
   cases W:Nat.beq ti.es 0 with
   |false=>rfl
   |true=>have:=aab W;omega
  have c2:Nat.blt 65536 ei.bytes=false:=by
   cases W:Nat.blt 65536 ei.bytes with
   |false=>rfl
   |true=>rw[abZ]at W;omega
  have c3:Nat.blt 268435456 (0+ys.length)=false:=by
   cases W:Nat.blt 268435456 (0+ys.length)with
   |false=>rfl
   |true=>rw[abZ]at W;omega
  have c4:Nat.beq news.length (ys.length*ti.es)=true:=by rw[e3,t3];exact aa4 _
  rw[c1,c2,c3,c4,e4,t3,t6];rfl
 have F:first? (m.wl m.n) ti.es ys.length y=some news:=by rw[cC,t3];exact e2
 have a0:Nat.ble (0+ys.length) 0=false:=by
  cases W:Nat.ble (0+ys.length) 0 with
  |false=>rfl
  |true=>have:=aar W;omega
 have hg:(m.wl m.n).get b=.cells [] te none:=h;refine⟨aec m.n 0 ys.length ys.length,(m.wl m.n).push (.cells news (aP.ty α) (some (aP.sz α))),?_,?_,⟨aca _,λc hc=>by rw[M.cE (m:=m.wl m.n) hc];rfl⟩,rfl⟩
 ·simp only[av,dQ,t1,e1,t2,t4,F,hc,a0,cond_false,kT,hg];have e0:(bif Nat.beq 0 0 then some []else loadCells (m.wl m.n) ⟨b,0,none⟩ (0*ti.es))=some ([]:aee):=rfl;have e1:((none:Option Nat).isNone ||((none:Option Nat)==some ti.es && Nat.blt (0+0*ti.es) ([]:aee).length))=true:=rfl;simp only[e0,e1,cond_true,aaq,abz,t3];rfl
 exact .inr ⟨m.n,news,rfl,H,Ξ _,M.bJ (m:=m.wl m.n),e3,λi x hi=>aP.aD (e5 i x hi) ⟨aca _,λc hc=>by rw[M.cE (m:=m.wl m.n) hc];rfl⟩⟩
end
end
section
section
variable {E:Env} {m m1:M} {T U:TypeId} {v':aed} {c:Nat}
theorem sx{a:Addr}{vs:aee}(h:storeCells m a vs=some m1)(F:c≠a.block):m1.get c=m.get c:=by
 unfold storeCells at h
 cases H:m.get a.block with
 |cells cs e g=>
  simp only[H]at h
  cases W:(a.spot.isNone && Nat.ble (a.off+vs.length) cs.length && vs.all one)with
  |true=>rw[W,cond_true]at h;cases h;exact M.cL F
  |false=>rw[W,cond_false]at h;cases h
 |_=>simp only[H]at h;cases h
theorem Cg{e k:Nat}{base:Option Addr}{sl W F:Nat}{news:aee}(h:kT m e k base sl W F news=some (v',m1))(hc:c < m.n)(hs:∀a,base=some a->c≠a.block):m1.get c=m.get c:=by
 unfold kT at h
 cases base with
 |none=>
  dsimp only at h
  cases H:(Nat.beq sl 0 && Nat.beq W 0)with
  |true=>rw[H,cond_true]at h;cases h;exact M.cE hc
  |false=>rw[H,cond_false]at h;cases h
 |some a=>
  dsimp only at h
  cases hb:m.get a.block with
  |cells cs te g=>
   cases ho:(bif Nat.beq sl 0 then some []else loadCells m a (sl*k))with
   |none=>simp only[hb,ho]at h;cases h
   |some iG=>
    simp only[hb,ho]at h
    cases H:(g.isNone ||(g==some k && Nat.blt (a.off+W*k) cs.length))with
    |true=>rw[H,cond_true]at h;cases h;exact M.cE hc
    |false=>
     rw[H,cond_false]at h
     cases h2:(g==some k && Nat.beq a.off 0 && a.spot.isNone && Nat.beq (sl*k) cs.length && Nat.beq W sl && Nat.beq te e)with
     |true=>rw[h2,cond_true]at h;cases h;rw[M.cE (m:=m.set a.block .dead) hc,M.cL (hs a rfl)]
     |false=>rw[h2,cond_false]at h;cases h
  |_=>simp only[hb]at h;cases h
theorem xU{s x:aed}(h:dQ E m T U s x=some (v',m1))(hc:c < m.n)(hs:∀a n k,s=.slice (some a) n k->c≠a.block):m1.get c=m.get c:=by
 unfold dQ at h;split at h
 ·rename_i ti ui base sl H n _ _ _;split at h;·cases h
  ·rename_i e _ _
   cases W:E.ty.get e with
   |none=>simp only[W]at h;cases h
   |some ei=>
    cases h2:first? m ti.es n x with
    |none=>simp only[W,h2]at h;cases h
    |some news=>
     simp only[W,h2]at h
     cases h3:(Nat.beq ti.es 0 ||Nat.blt 65536 ei.bytes || !news.all one ||Nat.blt 268435456 (sl+n) || !Nat.beq news.length (n*ti.es) || !fL ei.zero ti.es)with
     |true=>rw[h3,cond_true]at h;cases h
     |false=>
      rw[h3,cond_false]at h
      cases h4:Nat.ble (sl+n) H with
      |false=>rw[h4,cond_false]at h;exact Cg h hc λa ha=>hs a sl H (by rw[ha])
      |true=>
       rw[h4,cond_true]at h
       cases base with
       |none=>
        dsimp only at h
        cases F:Nat.beq n 0 with
        |true=>rw[F,cond_true]at h;cases h;rfl
        |false=>rw[F,cond_false]at h;cases h
       |some a=>
        dsimp only at h
        cases F:Nat.beq n 0 with
        |true=>rw[F,cond_true]at h;cases h;rfl
        |false=>
         rw[F,cond_false]at h
         cases h6:storeCells m (a.add (sl*ti.es)) news with
         |none=>rw[h6]at h;cases h
         |some m2=>
          rw[h6]at h;cases h;refine sx h6 ?_
          have:(a.add (sl*ti.es)).block=a.block:=by unfold Addr.add;split <;>rfl
          rw[this];exact hs a sl H rfl
  cases h
 cases h
theorem iX{s x:aed}(h:av E (m.wl m.n) .append [T,U] [s,x]=some (v',m1))(F:c < m.n)(H:∀a n k,s=.slice (some a) n k->c≠a.block):m1.get c=m.get c:=
 (xU (m:=m.wl m.n) h F H).trans rfl
end
end
section
variable {m:M}
def IE{α:Type}[aP α](m:M)(l:List α)(v:aed):Prop:=
 (v=.slice none 0 0/\l=[])\/∃b o c F,v=.slice (some ⟨b,o,none⟩) l.length c/\m.get b=.ro F/\
  ∀i x,l[i]?=some x->o+i*aP.sz α+aP.sz α<=F.length/\aP.rep m x ((F.drop (o+i*aP.sz α)).take (aP.sz α))
theorem Ext.ro{m m':M}(h:Ext m m'){b:Nat}{c:aee}(F:m.get b=.ro c):m'.get b=.ro c:=by
 rw[h.get b ?_,F];rcases Nat.lt_or_ge b m.n with H |H;·exact H
 rw[M.kx H]at F;cases F
section
variable {α:Type} [aP α] {m':M} {l:List α} {v:aed} {E:Env} {T t:TypeId}
theorem IE.aD(h:IE m l v)(he:Ext m m'):IE m' l v:=by
 rcases h with h |⟨b,o,c,H,W,h2,F⟩;·exact .inl h
 exact .inr ⟨b,o,c,H,W,Ext.ro he h2,λi x hi=>⟨(F i x hi).1,aP.aD (F i x hi).2 he⟩⟩
theorem IE.form(h:IE m l v):∃a c,v=.slice a l.length c:=by
 rcases h with⟨rfl,rfl⟩ |⟨b,o,c,F,rfl,_⟩;·exact⟨_,_,rfl⟩
 exact⟨_,_,rfl⟩
theorem IE.len(h:IE m l v)(F:uF E T t α):av E m .len [T] [v]=some (.int .i64 l.length,m):=by obtain⟨ti,te,H,⟨e,W⟩,_⟩:=F;obtain⟨a,c,rfl⟩:=h.form;simp only[av,pC,H,W,aag]
theorem zW{b o n:Nat}{cs:aee}(h:m.get b=.ro cs)(F:o+n<=cs.length)(H:((cs.drop o).take n).all one=true):D.loadCells m ⟨b,o,none⟩ n=some ((cs.drop o).take n):=by unfold D.loadCells;rw[h];have:Nat.ble (o+n) cs.length=true:=aa3 F;simp only[acv,this,H,aco,cond_true]
theorem zk{b o:Nat}{cs:aee}{u:aed}(h:m.get b=.ro cs)(hu:cs[o]?=some u)(F:one u=true):D.cellAt m ⟨b,o,none⟩=some u:=by unfold D.cellAt;rw[h];simp only[acv,abq,hu,F,cond_true]
theorem IE.index(h:IE m l v)(hT:uF E T t α){k:IntKind}{i:Nat}{x:α}(hi:l[i]?=some x):
  ∃p cs,ak E T v (.int k i)=some p/\ah E m t p=some (aP.val α cs)/\aP.rep m x cs:=by
 obtain⟨ti,te,h1,⟨e,h2⟩,h3,h4,h5,h6⟩:=hT;have g0:=(Ω.1 hi).1;rcases h with⟨_,rfl⟩ |⟨b,o,c,H,rfl,hb,b0⟩;·simp at hi
 obtain⟨hle,hr⟩:=b0 i x hi;have e0:=aP.pos (α:=α);refine⟨aeb b (o+i*aP.sz α),_,?_,?_,hr⟩
 ·have hc:0<=(i:Int)/\(i:Int)< (l.length:Int)/\0 < ti.es:=⟨by omega,by omega,by omega⟩
  simp only[ak,h1,h2];rw[aaf hc,bw rfl,h3];rfl
 ·have F:=aP.kN hr
  simp only[D.ah,D.loadVar,h4]
  unfold aP.val
  cases ha:aP.agg α with
  |true=>rw[h5,ha,h6];simp only[cond_true];rw[zW hb hle F];rfl
  |false=>
   rw[h5,ha];simp only[cond_false];have hs:=aP.one ha;rw[hs]at F⊢;simp only[hs]at hle;have W:o+i*1 < H.length:=by omega
   have a0:H[o+i*1]?=some H[o+i*1]:=Φ W
   have d0:(H.drop (o+i*1)).take 1=[H[o+i*1]]:=by rw[List.take_one,List.head?_drop,a0];rfl
   rw[d0]at F⊢;rw[zk hb a0 (by simpa using F)];rfl
def CR{α:Type}[aP α](m:M)(l:List α)(v:aed):Prop:=Sl m l v\/IE m l v
theorem CR.aD(h:CR m l v)(he:Ext m m'):CR m' l v:=h.elim (λh=> .inl (h.aD he)) λh=> .inr (h.aD he)
theorem CR.len(h:CR m l v)(F:uF E T t α):av E m .len [T] [v]=some (.int .i64 l.length,m):=h.elim (λh=>h.len F) λh=>h.len F
theorem CR.index(h:CR m l v)(F:uF E T t α){k:IntKind}{i:Nat}{x:α}(hi:l[i]?=some x):
  ∃p cs,ak E T v (.int k i)=some p/\ah E m t p=some (aP.val α cs)/\aP.rep m x cs:=h.elim (λh=>h.index F hi) λh=>h.index F hi
end
end
end Go.D
