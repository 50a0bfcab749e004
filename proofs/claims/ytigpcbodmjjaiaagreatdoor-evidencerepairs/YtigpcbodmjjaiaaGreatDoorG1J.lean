/- A region that draws its order: .. -/
import Derived.Test.YtigpcbodmjjaiaaGreatDoorG0J
import Derived.RecoverIn
import Derived.RangeFuncNested
noncomputable section
namespace Go.D
open Go
section
theorem Sg.Co{σ:Sg}{n:Nat}(h:∀b i,σ b=some i->b<n):σ.cut n=σ:=by
 funext b;unfold Sg.cut;by_cases H:b<n;·grind
 ·rw[QL H];cases hs:σ b with
  |none=>rfl
  |some i=>exact absurd (h b i hs) H
def LA(l:Array Bool):Nat->Nat
 |0=>0
 |k+1=>LA l k+(if l.getD k false=true then 0 else 1)
theorem CX{l:Array Bool}:∀{k:Nat},LA l k=0->∀i,i<k->l.getD i false=true
 |k+1,h,i,hi=>by
  unfold LA at h;by_cases hk:l.getD k false=true
  ·by_cases H:i=k;·grind
   ·exact CX (k:=k) (by omega) i (by omega)
  ·grind
theorem yO(l:Array Bool){j:Nat}(H:j<l.size)(i:Nat):(l.setIfInBounds j true).getD i false↔i=j\/l.getD i false:=by
 rw[NP,NP,Array.getElem?_setIfInBounds];grind
theorem GW{l:Array Bool}{j:Nat}(H:j<l.size)(hn:¬l.getD j false=true):∀k,LA (l.setIfInBounds j true) k+(if j<k then 1 else 0)=LA l k
 |0=>by simp[LA]
 |k+1=>by
  have ih:=GW H hn k;have hs:=yO l H k;unfold LA;grind
section
variable {E:Env} {P:Program} {call:aK} {ops:Array Oper} {nt:Nat} {tr:Nat->Fr} {σ0 σ:Sg} {w0 w:World} {ds:List Deferred} {L:Nat->Prop} {a:Act} {ro:Option Nat} {n:Nat} {Q:Exit->Act->World->Prop}
theorem Inv.step(c:Ctx E P call ops nt tr)(h:Inv E P call ops nt tr σ0 w0 ds L σ a w){j:Nat}{o:Oper}(hj:¬L j)(ho:ops[j]?=some o)(d0:∀e∈o.after,Region.binds .any e->L e.on)
  {K:Act->World->Prop} (hK:∀σ' a' w',Inv E P call ops nt tr σ0 w0 ds (λi=>i=j\/L i) σ' a' w'->K a' w'):wpOpIn (iL ro) n P ops Q j K a w:=by
 have o0:j<ops.size:=(Ph.1 ho).1;have j0:=c.ok o (by grind);have H:∀t,t<nt->t∈jg ops o->bE (σ.cut (tr j).m.n) (qB (tr j).T t) (a.eval (.tmp t)):=λt ht hn=>h.names c hj ho d0 ht hn;have hw:dq ops (tr j).T o=Region.wanted o (yielded ops a.tmps):=by
  refine rU (σ:=σ.cut (tr j).m.n) λq want d hg hd=>?_;have p0:=hd;simp only[Me]at hd;have⟨o',m0,n0⟩:=hd;have l0:=kX (c.ok o' (by grind)) d n0;refine⟨by rw[h.Tj];exact l0,H d l0 ?_⟩;unfold jg;grind
 unfold wpOpIn;rw[ho];dsimp only;rw[<-hw];rcases c.step j o ho with⟨g0,i0⟩|⟨g0,v,m,e0,hb,i0⟩
 ·rw[g0,QL (by simp)];refine⟨λ_ _=>trivial,hK σ _ w (h.same c hj ho d0 (v:=undef) (by rw[i0]) ?_ bE.undef)⟩;rintro⟨o',v,m,m0,q0,_⟩;grind
 ·rw[g0,Tf rfl];refine⟨λ_ _=>trivial,?_⟩;rw[Oper.semAt_eq _ _ _ (λc hc=>by rw[hc]at e0;simp[ew]at e0)];cases hp:mn o.op with
  |true=>
   have a0:∀x∈o.op.operands.toList,bE (σ.cut (tr j).m.n) (ev (tr j).T x) (a.eval x):=by
    intro x hx;have b0:=kW j0 x hx;cases x with
    |tmp t=>exact H t (ry b0) (by unfold jg;simp only[OH];exact .inr (.inl (Po.2 ⟨.tmp t,hx,rfl⟩)))
    |const v=>exact .kZ b0
    |global g=>
     have hg:g<P.globals.size:=by
      have h:Nat.blt g P.globals.size:=b0;simp_all
     have⟨h1,h2⟩:=h.lz g hg;have h3:=(c.mono (i:=0) j (by omega) (by omega)).1;exact .ptr ⟨g,0,none⟩ ⟨g,none⟩ (Sg.dI.2 ⟨by grind,h.base g _ h2⟩) rfl
    |func f=>exact .flat _ rfl
   have⟨v',hr,hv⟩:=Ft (w:=w) c.hE hp e0 a0;rw[hr];refine hK σ _ w (h.same c hj ho d0 (v:=v) (by rw[i0]) (c.uM ho hp).2 ?_);rw[(c.uM ho hp).1];exact hv
  |false=>
   have k0:=h.Wz j (by omega) (h.Lk c hj ho d0 hp);have a0:∀x∈o.op.operands.toList,bE (σ.cut (tr j).m.n) (ev (tr j).T x) (a.eval x):=by
    intro x hx;have b0:=kW j0 x hx;exact El k0 (λt ht=>by subst ht;exact H t (ry b0) (by unfold jg;simp only[OH];exact .inr (.inl (Po.2 ⟨.tmp t,hx,rfl⟩)))) b0
   refine(sO c.hE c.eX (k0.low (tr j).m.n) e0 a0).2 ro n o a K Q λτ w' v' hv he=>?_;obtain⟨σ',hI⟩:=h.effect c hj ho d0 hp he hv i0 (by
    by_cases hq:(tr j).m.n<=m.low;·grind
    exact .inr ⟨hb.resolve_left hq,o,v,m,ho,g0,e0,hq⟩)
   grind
theorem ac3(c:Ctx E P call ops nt tr)(hQ:∀σ a w,Inv E P call ops nt tr σ0 w0 ds (λi=>i<ops.size) σ a w->Q .normal a w):
  ∀(fuel:Nat) (listed:Array Bool) (σ:Sg) (a:Act) (w:World),listed.size=ops.size->LA listed ops.size<=fuel->Inv E P call ops nt tr σ0 w0 ds (λi=>listed.getD i false=true) σ a w->
   wpAnyIn (iL ro) n P .any ops Q fuel listed a w:=by
 have fin:∀(listed:Array Bool) (σ:Sg) (a:Act) (w:World),listed.size=ops.size->(∀i,i<ops.size->listed.getD i false)->Inv E P call ops nt tr σ0 w0 ds (λi=>listed.getD i false=true) σ a w->Q .normal a w:=by
  intro listed σ a w H a0 h;have:(λi=>listed.getD i false=true)=(λi=>i<ops.size):=by
   grind
  grind
 have b0:∀(listed:Array Bool),listed.size=ops.size->(∀i,i<ops.size->listed.getD i false)->Region.ready .any ops listed=[]:=by
  intro listed H a0;refine Z4.2 λj hj=>?_;have h1:=(mem_ready.1 hj).1;grind
 have ready_all:∀(listed:Array Bool),listed.size=ops.size->Region.ready .any ops listed=[]->∀i,i<ops.size->listed.getD i false:=by
  intro listed H hr i;induction i using Nat.strongRecOn with
  |_ i ih=>
   intro hi;refine Ty λhn=>?_;have⟨o,ho⟩:=Ba (ops:=ops) hi
   have:i∈Region.ready .any ops listed:=mem_ready.2 ⟨by grind,o,ho,λe he hb=>by
    have:=c.ord.lt i o ho e he hb;grind⟩
   grind
 intro fuel;induction fuel with
 |zero=>intro listed σ a w H hu h;have a0:=λi hi=>CX (l:=listed) (k:=ops.size) (by omega) i hi;exact⟨b0 listed H a0,fin listed σ a w H a0 h⟩
 |succ fuel ih=>
  intro listed σ a w H hu h;refine⟨λhr=>fin listed σ a w H (ready_all listed H hr) h,λj hj=>?_⟩;obtain⟨h1,o,ho,e0⟩:=mem_ready.1 hj;have g0:j<ops.size:=(Ph.1 ho).1;have d0:¬listed.getD j false=true:=by
   grind
  refine h.step c d0 ho e0 λσ' a' w' hI=>?_;refine ih _ σ' a' w' (by grind) ?_ ?_
  ·have:=GW (l:=listed) (j:=j) (by omega) d0 ops.size;grind
  ·have:(λi=>(listed.setIfInBounds j true).getD i false=true)=(λi=>i=j\/listed.getD i false):=by
    funext i;exact propext (yO listed (by omega) i)
   grind
theorem adP(hE:E.OK P)(eX:dJ P call)(g0:∀o∈ops.toList,jI nt P.globals.size o)(hd:BJ ops){fr a0:Fr}(h:oH E call ops ops.toList 0 fr=some a0)
  (hf:eO σ fr.T a nt) (hs:fN P σ fr.m w) (k:∀σ' a' w',eO σ' a0.T a' nt->a'.defers=a.defers->Ev P σ fr.m w σ' a0.m w'->Q .normal a' w'):
  wpAnyIn (iL ro) n P .any ops Q ops.size (Array.replicate ops.size false) a w:=by
 have⟨tr,t0,tN,m0⟩:=za ops.toList 0 fr a0 h;have i0:∀j o,ops[j]?=some o->DStep E call ops (tr j) o j (tr (j+1)):=by
  grind
 subst t0;have tN:tr ops.size=a0:=by grind
 subst tN;have c:Ctx E P call ops nt tr:=⟨hE,eX,ad7 hd,g0,i0,AF hE eX g0 i0 hs hf⟩
 refine ac3 (σ0:=σ) (w0:=w) (ds:=a.defers) c ?_ ops.size _ σ a w (by simp) ?_ ?_
 ·intro σ' a' w' hI;have j0:∀b i,σ' b=some i->b<(tr ops.size).m.n:=by
   intro b i H;rcases hI.rT b i H with h1|⟨q,hq,_,h2⟩;·have:=(c.mono (i:=0) ops.size (by omega) (Ox _)).1;omega
   have:=(c.mono (i:=q+1) ops.size (by omega) (Ox _)).1;omega
  have d0:=hI.Wz ops.size (Ox _) (λb H=>Iff.rfl);rw[Sg.Co j0]at d0;refine k σ' a' w' ⟨hI.Tj,λt ht=>?_⟩ hI.defs ⟨hI.base,d0,(c.mono (i:=0) ops.size (by omega) (Ox _)).2,(c.mono (i:=0) ops.size (by omega) (Ox _)).1,hI.hle,hI.new,λb H hn=>c.abs ops.size (Ox _) b H hn,hI.heap,hI.os,hI.tape,hI.output⟩;have⟨q,hq,hv,hw,_⟩:=hI.tmp t ht;have hT:qB (tr ops.size).T t=qB (tr q).T t:=c.Cs ops.size hq (Ox _) λi o h1 h2 ho o0=>by
   grind
  rw[hT];refine hv.mono λb i H=>(Sg.dI.1 H).2
 ·have:∀k,LA (Array.replicate ops.size false) k<=k:=by
   intro k;induction k with
   |zero=>simp[LA]
   |succ k ih=>
    unfold LA;grind
  grind
 have hL:∀i,¬(Array.replicate ops.size false).getD i false=true:=by
  intro i;simp[NP,MY];grind
 have k0:σ.cut (tr 0).m.n=σ:=Sg.Co hs.rT
 exact{
  lt:=λi hi=>absurd hi (hL i)
  closed:=λj o ho hj=>absurd hj (hL j)
  Tj:=hf.1
  defs:=rfl
  tmp:=λt ht=>⟨0,by omega,by rw[k0];exact hf.2 t ht,λi o hi=>absurd hi (hL i),.inl rfl⟩
  Wz:=λk hk hw=>by
   have e0:σ.cut (tr k).m.n=σ:=Sg.Co λb i H=>by have:=hs.rT b i H;have:=(c.mono (i:=0) k (by omega) hk).1;omega
   rw[e0];have b0:=c.qz (i:=0) k (by omega) hk (λb _ h2 h3=>hL b ((hw b h3).1 h2));have n0:=(c.mono (i:=0) k (by omega) hk).1;refine⟨λb i H=>?_,λb i H=>?_,hs.lt,λb b' i i' H l0 h1 h2=>?_,hs.lz⟩;·have:=hs.rT b i H;omega
   ·rw[b0 b (hs.rT b i H)];exact hs.obj b i H
   rw[b0 b (hs.rT b i H)]at h1;rw[b0 b' (hs.rT b' i' l0)]at h2;exact hs.inj b b' i i' H l0 h1 h2
  rT:=λb i H=> .inl (hs.rT b i H)
  base:=λ_ _ x=>x
  new:=λb i H h0=>by grind
  hle:=Ox _
  heap:=λ_ _ _=>rfl
  os:=rfl
  tape:=rfl
  output:=rfl
  lz:=λg hg=>⟨hs.rT g _ (hs.lz g hg),hs.lz g hg⟩}
end
end
section
section
variable {E:Env} {P:Program} {call:aK} {nt:Nat} {σ:Sg} {w:World} {a:Act} {ro:Option Nat} {k:Nat}
def Ex.to:Ex->Exit
 |.normal=> .normal
 |.exit id=> .exit id
 |.ret=> .ret
def oL(base:Nat)(σ:Sg)(w:World):List Deferred->Prop
 |[]=>True
 |d::ds=>(∃r,d.target=.collected r/\base<=r/\w.heap[r]?=some (.deferred (some []))/\(∀b i,σ b=some i->i.cY≠r)/\∀H∈ds,H.target≠.collected r)/\oL base σ w ds
theorem oL.ev{base:Nat}{σ':Sg}{m m':M}{w':World}(he:Ev P σ m w σ' m' w'):∀{ds:List Deferred},oL base σ w ds->oL base σ' w' ds
 |[],_=>trivial
 |d::ds,h=>by
  have⟨⟨r,h1,h2,h3,h4,h5⟩,h6⟩:=h;have hr:r<w.heap.size:=(Ph.1 h3).1;refine⟨⟨r,h1,h2,?_,?_,h5⟩,h6.ev he⟩
  ·rw[he.heap r hr (λb i H e=>absurd e (h4 b i H))];exact h3
  ·intro b i H e;cases hs:σ b with
   |some i'=>
    have:=he.ext b i' hs;grind
   |none=>
    rcases(he.new b i H hs).2 with h|⟨b0,i0,h,h',_⟩;·omega
    ·grind
theorem oL.lt{base:Nat}:∀{ds:List Deferred},oL base σ w ds->∀d∈ds,∃r,d.target=.collected r/\r<w.heap.size
 |d::ds,h,d',H=>by
  have⟨⟨r,h1,_,h3,_,_⟩,h6⟩:=h;rcases RN.1 H with rfl|H;·grind
  ·exact h6.lt d' H
def GQ(base:Nat)(σ:Sg)(w:World)(tl ds:List Deferred):Prop:=∃ms,ds=ms++tl/\oL base σ w ms
theorem GQ.ev{base:Nat}{tl ds:List Deferred}{σ':Sg}{m m':M}{w':World}(he:Ev P σ m w σ' m' w')(h:GQ base σ w tl ds):GQ base σ' w' tl ds:=by have⟨ms,h1,H⟩:=h;exact⟨ms,h1,H.ev he⟩
theorem EO{F:Fence}{n:Nat}{c:Code}{Q:Exit->Act->World->Prop}(h:c.wpIn F n P (Exit.noGoto Q) a w):(Code.scope c).wpIn F n P Q a w:=by
 intro b k cs d0 hb hr;have h1:step P (lone (b.atR a (.code (.scope c)::k)) cs w)=.next (lone (b.atR a (.code c::.inScope c::k)) cs w):=step_lone_go (by simp[stepG,stepG.exec,Frame.atR]);have i1:(lone (b.atR a (.code (.scope c)::k)) cs w).fenced P F:=fenced_calm hb hr rfl;have⟨e,H,a0,hq,b0⟩:=h b (.inScope c::k) cs d0 hb hr;have h2:step P (lone (b.atR H (.inScope c::k)) cs a0)=.next (lone (b.atR H k) cs a0):=step_lone_go (by simp[stepG,stepG.exec,Frame.atR]);have i2:(lone (b.atR H (.inScope c::k)) cs a0).fenced P F:=fenced_calm hb hr rfl;cases e with
 |normal=>exact⟨.normal,H,a0,hq,StepsIn.head i1 h1 (StepsIn.trans b0 (.one i2 h2))⟩
 |exit id=>exact⟨.exit id,H,a0,hq,.of_steps (.one i1 h1) ⟨λk' hk=>b0.1 k' (by simp[exitTo,hk]),λe0 hk=>b0.2 e0 (by simp[exitTo,hk])⟩⟩
 |goto l=>exact hq.elim
 |ret=>exact⟨_,H,a0,hq,.of_steps (.one i1 h1) b0⟩
 |panic ch=>exact⟨_,H,a0,hq,.of_steps (.one i1 h1) b0⟩
 |outgrown=>exact⟨_,H,a0,hq,.of_steps (.one i1 h1) b0⟩
theorem Ev.extra{m:M}(H:fN P σ m w)(o:Obj):Ev P σ m w σ m (w.alloc o):=by
 have hk:∀B,B<w.heap.size->(w.alloc o).heap[B]?=w.heap[B]?:=λB hB=>heap_alloc_old w o hB;refine⟨λ_ _ x=>x,⟨H.rT,λb i hb=>(H.obj b i hb).aV (λ_ _ x=>x) (hk _ (H.lt b i hb)),λb i hb=>?_,H.inj,H.lz⟩,Ox _,Ox _,by simp,λb i x y=>(by grind),λ_ _ _=>rfl,λB hB _=>hk B hB,rfl,rfl,rfl⟩;have:=H.lt b i hb;grind
def R7(ro:Option Nat)(σ:Sg)(m:M):Prop:=ro=none\/∃l i r,ro=some i.cY/\σ l=some i/\m.get l=.loop r
theorem R7.next{ro:Option Nat}{σ':Sg}{m m':M}(h:R7 ro σ m)(he:σ.le σ')(hk:LK m m'):R7 ro σ' m':=by
 rcases h with h|⟨l,i,r,h1,H,h3⟩;·exact .inl h
 have⟨r',h4⟩:=hk l r h3;exact .inr ⟨l,i,r',h1,he _ _ H,h4⟩
def Ww(P:Program)(nt:Nat)(c:Code)(fr:Fr)(e:Ex)(H:Fr):Prop:=
 ∀(ro:Option Nat) (k base:Nat) (σ:Sg) (a:Act) (w:World) (Q:Exit->Act->World->Prop) (tl:List Deferred),R7 ro σ fr.m->eO σ fr.T a nt->fN P σ fr.m w->GQ base σ w tl a.defers->base<=w.heap.size->
  (∀σ' a' w',eO σ' H.T a' nt->GQ base σ' w' tl a'.defers->(oM c=true->a'.defers=a.defers)->Ev P σ fr.m w σ' H.m w'->Q e.to a' w')->c.wpIn (iL ro) k P Q a w
def least(p:Nat->Prop):Nat:=by
 classical
 exact if h:∃j,p j/\∀i,i < j->¬p i then Classical.choose h else 0
theorem yC{p:Nat->Prop}{j:Nat}(h:p j):p (least p)/\least p<=j:=by
 have ex:∃j,p j/\∀i,i<j->¬p i:=by
  induction j using Nat.strongRecOn with
  |_ j H=>
   grind
 have hs:=Classical.choose_spec ex;have he:least p=Classical.choose ex:=by
  unfold least;simp_all
 grind
theorem FL{c:Code}{body:Fr->Option (Ex×Fr)}(p0:∀fr e H,body fr=some (e,H)->LK fr.m H.m)(hb:∀fr e H,body fr=some (e,H)->Ww P nt c fr e H){n:Nat}{fr:Fr}{e:Ex}{H:Fr}(h:ia body n fr=some (e,H)):
  Ww P nt (.loop c) fr e H:=by
 intro ro k base σ a w Q tl q0 hf hs hd r0 hQ;let I:Nat->Act->World->Prop:=λj a' w'=>∃a0 d0,ia body j a0=some (e,H)/\eO d0 a0.T a' nt/\GQ base d0 w' tl a'.defers/\(oM c->a'.defers=a.defers)/\LK fr.m a0.m/\Ev P σ fr.m w d0 a0.m w'
 refine wpIn_loop (λa' w'=>∃j,I j a' w') (λa' w'=>least λj=>I j a' w') ⟨n,fr,σ,h,hf,hd,λ_=>rfl,LK.refl,Ev.refl hs⟩ λa1 w1 ⟨j,hI⟩=>?_;have⟨⟨a0,d0,hl,s0,u0,v0,m0,b0⟩,_⟩:=yC (p:=λj=>I j a1 w1) hI;generalize hq:(least λj=>I j a1 w1)=q at hl;cases q with
 |zero=>simp[ia]at hl
 |succ q=>
  unfold ia at hl;cases g0:body a0 with
  |none=>rw[g0]at hl;cases hl
  |some p=>
   have⟨e2,n0⟩:=p;rw[g0]at hl;refine hb a0 e2 n0 g0 ro k base d0 a1 w1 _ tl (q0.next b0.ext m0) s0 b0.vY u0 (YB r0 b0.hle) λi0 a2 w2 j0 k0 y0 l0=>?_;have e0:oM c->a2.defers=a.defers:=λx=>(y0 x).trans (v0 x);cases e2 with
   |normal=>
    have o0:I q a2 w2:=⟨n0,i0,hl,j0,k0,e0,m0.trans (p0 _ _ _ g0),b0.trans l0⟩
    refine⟨⟨q,o0⟩,?_⟩;have:=(yC (p:=λj=>I j a2 w2) o0).2;omega
   |exit id=>cases hl;exact hQ i0 a2 w2 j0 k0 e0 (b0.trans l0)
   |ret=>cases hl;exact hQ i0 a2 w2 j0 k0 e0 (b0.trans l0)
theorem rI(hE:E.OK P)(eX:dJ P call){n:Nat}:∀(c:Code) (fr:Fr) (e:Ex) (b0:Fr),fD nt P.globals.size c->bQ E call n c fr=some (e,b0)->Ww P nt c fr e b0:=by
 intro c;induction c with
 |skip=>intro fr e b0 _ h ro k base σ a w Q tl e0 hf hs hd g0 hQ;cases h;exact wpIn_skip (hQ σ a w hf hd (λ_=>rfl) (Ev.refl hs))
 |label l=>intro fr e b0 _ h ro k base σ a w Q tl e0 hf hs hd g0 hQ;cases h;exact wpIn_label (hQ σ a w hf hd (λ_=>rfl) (Ev.refl hs))
 |region id ops d=>
  intro fr e b0 H h ro k base σ a w Q tl e0 hf hs J0 g0 hQ;unfold fD at H;simp only[JJ]at H;have q0:∀o∈ops.toList,jI nt P.globals.size o:=Jl.1 H.1;unfold bQ at h;simp only[Tq,xU]at h;obtain⟨n0,h,rfl,rfl⟩:=h;cases d with
  |false=>simp only[T4]at h;exact wpIn_region_list (uw hE eX q0 ops.toList q0 fr n0 h σ a w hf rfl hs λσ' a' w' h1 h2 h3=>hQ σ' a' w' h1 (by rw[h2];exact J0.ev h3) (λ_=>h2) h3)
  |true=>
   simp only[cond_true]at h;have hd:BJ ops:=by grind
   have hw:Ev P σ fr.m w σ fr.m {w with drawn:=w.drawn+1}:=Ev.of_heap hs rfl rfl rfl rfl;exact wpIn_region_any hE.mixed (adP hE eX q0 hd h hf hw.vY λσ' a' w' h1 h2 h3=>hQ σ' a' w' h1 (by rw[h2];exact J0.ev (hw.trans h3)) (λ_=>h2) (hw.trans h3))
 |seq x y D0 E0=>
  intro fr e b0 H h ro k base σ a w Q tl e0 hf hs hd g0 hQ;unfold fD at H;simp only[JJ]at H;unfold bQ at h;refine wpIn_seq ?_;cases hx:bQ E call n x fr with
  |none=>rw[hx]at h;cases h
  |some p=>
   have⟨e1,n0⟩:=p;rw[hx]at h;refine D0 fr e1 n0 H.1 hx ro k base σ a w _ tl e0 hf hs hd g0 λk0 a1 w1 l0 m0 j0 i0=>?_;have hn:oM (.seq x y)->oM x/\oM y:=λhh=>by unfold oM at hh;simp only[JJ]at hh;exact hh
   cases e1 with
   |normal=>exact E0 n0 e b0 H.2 h ro k base k0 a1 w1 Q tl (e0.next i0.ext (gQ eX.aV x _ _ _ hx)) l0 i0.vY m0 (YB g0 i0.hle) λo0 a2 w2 c1 d1 g1 i1=>hQ o0 a2 w2 c1 d1 (λx=>(g1 (hn x).2).trans (j0 (hn x).1)) (i0.trans i1)
   |exit id=>cases h;exact hQ k0 a1 w1 l0 m0 (λx=>j0 (hn x).1) i0
   |ret=>cases h;exact hQ k0 a1 w1 l0 m0 (λx=>j0 (hn x).1) i0
 |cond c x y D0 E0=>
  intro fr e b0 H h ro k base σ a w Q tl e0 hf hs hd g0 hQ;unfold fD at H;simp only[JJ]at H;unfold bQ at h;have hc:=hf.Nq hs H.1;cases hv:ev fr.T c with
  |bool t=>
   rw[hv]at h hc;refine wpIn_cond hc.bool ?_;cases t with
   |true=>exact D0 fr e b0 H.2.1 h ro k base σ a w Q tl e0 hf hs hd g0 λσ' a' w' q1 q2 q3=>hQ σ' a' w' q1 q2 λhh=>q3 (by unfold oM at hh;simp only[JJ]at hh;exact hh.1)
   |false=>exact E0 fr e b0 H.2.2 h ro k base σ a w Q tl e0 hf hs hd g0 λσ' a' w' q1 q2 q3=>hQ σ' a' w' q1 q2 λhh=>q3 (by unfold oM at hh;simp only[JJ]at hh;exact hh.2)
  |_=>rw[hv]at h;cases h
 |block id c ih=>
  intro fr e b0 H h ro k base σ a w Q tl e0 hf hs hd g0 hQ;unfold fD at H;unfold bQ at h;refine wpIn_block ?_;cases hc:bQ E call n c fr with
  |none=>rw[hc]at h;cases h
  |some p=>
   have⟨e1,n0⟩:=p;rw[hc]at h;refine ih fr e1 n0 H hc ro k base σ a w _ tl e0 hf hs hd g0 λk0 a1 w1 l0 m0 j0 i0=>?_;have j0:oM (.block id c)->a1.defers=a.defers:=λhh=>j0 (by unfold oM at hh;exact hh);cases e1 with
   |normal=>cases h;exact hQ k0 a1 w1 l0 m0 j0 i0
   |exit j1=>
    simp only at h;simp only[Ex.to,Exit.inBlock];by_cases F0:j1=id;·subst F0;simp only[QO,cond_true,No,xU]at h;obtain⟨rfl,rfl⟩:=h;rw[Tf rfl];exact hQ k0 a1 w1 l0 m0 j0 i0
    rw[lh F0]at h;simp only[T4,No,xU]at h;obtain⟨rfl,rfl⟩:=h;rw[QL F0];exact hQ k0 a1 w1 l0 m0 j0 i0
   |ret=>cases h;exact hQ k0 a1 w1 l0 m0 j0 i0
 |loop c ih=>intro fr e b0 H h;unfold fD at H;unfold bQ at h;exact FL (c:=c) (λfr e b0 hb=>gQ eX.aV c fr e b0 hb) (λfr e b0 hb=>ih fr e b0 H hb) h
 |scope c ih=>intro fr e b0 H h ro k base σ a w Q tl e0 hf hs hd g0 hQ;unfold fD at H;unfold bQ at h;refine EO (ih fr e b0 H h ro k base σ a w _ tl e0 hf hs hd g0 λσ' a' w' q1 q2 q3 q4=>?_);have:=hQ σ' a' w' q1 q2 (λhh=>q3 (by unfold oM at hh;exact hh)) q4;cases e <;>exact this
 |exit id=>intro fr e b0 _ h ro k base σ a w Q tl e0 hf hs hd g0 hQ;cases h;exact wpIn_exit (hQ σ a w hf hd (λ_=>rfl) (Ev.refl hs))
 |ret=>intro fr e b0 _ h ro k base σ a w Q tl e0 hf hs hd g0 hQ;cases h;exact wpIn_ret (hQ σ a w hf hd (λ_=>rfl) (Ev.refl hs))
 |rangeFunc g ps assign body _ _=>
  intro fr e b0 H h ro k base σ a w Q tl e0 hf hs hd g0 hQ;unfold fD at H;simp only[JJ]at H;have⟨k1,l1,o1,p1⟩:=H;unfold bQ at h;have hg:=hf.Nq hs k1;split at h
  ·rename_i f first captured r1;rw[r1]at hg;cases hc:call (.func f) (first.toList++(.func (.yield fr.m.n) #[] #[]::captured.toList)) (fr.m.push (.loop ⟨fr.T,ps,assign,body,.ready,none,E.G⟩))with
   |none=>rw[hc]at h;cases h
   |some p=>
    have⟨v,m⟩:=p;rw[hc]at h;simp only at h;split at h
    ·rename_i r hr;have K0:r.st≠.busy/\e=r.sJ.getD .normal/\b0={fr with m:=m.set fr.m.n (.loop {r with st:=.exhausted})}:=by
      grind
     obtain⟨J1,rfl,rfl⟩:=K0;have u1:∃d0 a0,a.eval g=.func (.func f) d0 a0/\bN σ first.toList d0.toList/\bN σ captured.toList a0.toList:=hg.yP;have⟨d0,a0,v1,y1,z1⟩:=u1;refine wpIn_rangeFunc λfn _=>?_
     have⟨wa,mark,D,v0,G0,H0⟩:∃(wa:World) (mark:List Deferred) (D:Nat),
       (Instr.enterLoop fn a.tmps ps assign body (iL ro).round).run P w=.ok (wa.heap.size,mark) (wa.alloc (.loop {state:=.ready,pending:=none,fn,tmps:=a.tmps,params:=ps,assign,body,defers:=D}))/\
       Ev P σ fr.m w σ fr.m wa/\∀σ' m' W',Ev P σ fr.m wa σ' m' W'->GQ base σ' W' tl (mark++a.defers):=by
      rcases e0 with rfl|⟨l,i,r0,rfl,hl,A1⟩
      ·refine⟨w.alloc (.deferred (some [])),[{target:=.collected w.heap.size,args:= #[]}],w.heap.size,?_,Ev.extra hs _,λσ' m' W' s0=>?_⟩
       ·have B1:(w.alloc (.deferred (some []))).heap.size=w.heap.size+1:=by simp
        rw[B1];exact run_enterLoop_outer fn a.tmps ps assign body
       have⟨ms,K1,hd⟩:=hd;refine⟨[{target:=.collected w.heap.size,args:= #[]}]++ms,by grind,?_⟩;have h0:oL base σ (w.alloc (.deferred (some []))) ([{target:=.collected w.heap.size,args:= #[]}]++ms):=by
        refine⟨⟨w.heap.size,rfl,g0,heap_alloc_new w _,λb i hb=>?_,λd' C1 e=>?_⟩,hd.ev (Ev.extra hs _)⟩;·have:=hs.lt b i hb;omega
        ·have⟨r2,h1,h2⟩:=hd.lt d' C1;grind
       exact h0.ev s0
      ·have ho:=hs.obj _ _ hl;rw[A1]at ho;have⟨_,D1,_,E1,_⟩:=ho;exact⟨w,[],D1.defers,run_enterLoop_inner E1 fn a.tmps ps assign body,Ev.refl hs,λσ' m' W' s0=>hd.ev s0⟩
     let A0:Loop:={state:=.ready,pending:=none,fn,tmps:=a.tmps,params:=ps,assign,body,defers:=D}
     let w1:=wa.alloc (.loop A0)
     have I0:Ev P σ fr.m wa (σ.add fr.m.n ⟨wa.heap.size,none⟩) (fr.m.push (.loop ⟨fr.T,ps,assign,body,.ready,none,E.G⟩)) w1:=by
      refine Ev.uB G0.vY ⟨rfl,A0,nt,heap_alloc_new wa _,rfl,rfl,rfl,rfl,rfl,hf.1,λt ht=>?_,?_,?_,?_,by simp⟩;·exact(hf.2 t ht).mono (Sg.yE G0.vY.mU)
      ·rw[hE.G];exact o1
      ·rw[hE.G];exact p1
      ·intro p hp;have:=Jl.1 l1 p hp;simp_all
     have L0:=G0.trans I0
     have y0:bE (σ.add fr.m.n ⟨wa.heap.size,none⟩) (.func (.yield fr.m.n) #[] #[]) (.func (.yield wa.heap.size) #[] #[]):=
      .yield fr.m.n ⟨wa.heap.size,none⟩ (Sg.add_same _ _)
     have hle:=L0.ext;obtain⟨z0,N0⟩:=eX.func f _ _ v m hc _ w1 (d0++ #[.func (.yield wa.heap.size) #[] #[]]++a0) I0.vY (by simp only[IF,WO,Ix];exact(y1.mono hle).append (bN.cons y0 (z1.mono hle)))
     refine⟨wa.heap.size,mark,w1,{target:=.fn (.func f) a0,args:=d0++ #[.func (.yield wa.heap.size) #[] #[]]},w1,f,_,w1,
      v0,?_,λ_ _=>trivial,N0,λhh=>by simp[iL,Fence.wide]at hh,?_⟩
     ·have hm:Array.map a.eval #[Operand.const (Value.func (Fn.yield wa.heap.size) #[] #[])]= #[Value.func (Fn.yield wa.heap.size) #[] #[]]:=by simp[Act.eval]
      simp only[resolve,v1,Deferred.ofValue,Wg,hm]
     ·have F1:CallsIn (iL ro) (k-1) P f (d0++ #[.func (.yield wa.heap.size) #[] #[]]++a0) w1 (gD P (σ.add fr.m.n ⟨wa.heap.size,none⟩) (fr.m.push (.loop ⟨fr.T,ps,assign,body,.ready,none,E.G⟩)) w1 v m):=⟨trivial,λcs _=>z0.2 cs (room_wide _)⟩
      refine F1.mono λe w3 he=>?_;obtain⟨v',o0,rfl,_,u0⟩:=he;have B0:o0 fr.m.n=some ⟨wa.heap.size,none⟩:=u0.ext _ _ (Sg.add_same _ _);have ho:=u0.vY.obj _ _ B0;rw[hr]at ho;have⟨L1,r',G1,q1,q2,q3,q4,q5,q6,q7,q8,q9,WB,H1,O0⟩:=ho;have q1:w3.heap[wa.heap.size]?=some (.loop r'):=q1;have P0:Ev P o0 m w3 o0 (m.set fr.m.n (.loop {r with st:=.exhausted})) (w3.putObj wa.heap.size (.loop {r' with state:=.exhausted})):=by
       have I1:wa.heap.size<w3.heap.size:=(Ph.1 q1).1;refine Ev.write u0.vY B0 (by grind) ⟨rfl,{r' with state:=.exhausted},G1,?_,rfl,q3,q4,q5,q6,q7,q8,q9,WB,H1,O0⟩ ?_ (by simp) rfl rfl rfl;·show(w3.putObj wa.heap.size _).heap[wa.heap.size]?=_;exact World.putObj_heap_same I1
       intro B hB;exact World.putObj_heap_other λe=>hB e
      have C0:=(L0.trans u0).trans P0;have b1:=H0 _ _ _ ((I0.trans u0).trans P0);refine⟨r'.pending,_,run_endLoop q1 (by grind),?_⟩;have p0:=hQ o0 {a with defers:=mark++a.defers} _ ⟨hf.1,λt ht=>(hf.2 t ht).mono C0.ext⟩ b1 (λhh=>by simp[oM]at hh) C0;generalize w3.putObj wa.heap.size (.loop {r' with state:=.exhausted})=W4 at p0⊢;rw[q3];cases hp:r.sJ with
      |none=>rw[hp]at p0;exact p0
      |some e=>
       rw[hp]at p0;cases e with
       |normal=>exact absurd hp O0
       |exit id=>exact wpIn_exit p0
       |ret=>exact wpIn_ret p0
    cases h
  cases h
 |_=>intro fr e b0 _ h;simp[bQ]at h
end
end
section
section
variable {E:Env} {P:Program} {call:aK} {nt:Nat} {σ σ':Sg} {m m':M} {w w':World} {a:Act}
theorem Ez:∀(l:Bt) (i t:Nat),qB (enter l i) t=if t<i then undef else(l[t-i]?).getD undef
 |[],i,t=>by
  unfold enter qB;rw[Tr.yN];grind
 |v::l,i,t=>by
  unfold enter;have H:=Ez l (i+1) t;unfold qB at H⊢;rw[Tr.cj];grind
theorem KC{args:Bt}{args':Array Φ}(h:bN σ args args'.toList)(hn:args.length<=nt):
  eO σ (enter args 0) {tmps:=args'++Array.replicate (nt-args'.size) undef,defers:=[]} nt:=by
 have H:=h.1;simp only[ME]at H;refine⟨by grind,λt ht=>?_⟩;rw[Ez,QL (by omega),KA];simp only[Act.eval];by_cases a0:t<args'.size
 ·have h1:args[t]?=some args[t]:=by grind
  have⟨u',hu,hr⟩:=h.get h1;simp_all
 rw[M8 (by omega),Option.getD_none,NP,Array.getElem?_append_right (by omega),MY];split <;>exact bE.undef
theorem we(hE:E.OK P)(hs:fN P σ m w){T:Tr Φ}(hf:eO σ T a nt){r:ResultVar}(H:(match r with |.tmp t=>Nat.blt t nt |.cell a _=>Nat.blt a nt)){v:Φ}(h:kD E T m r=some v):
  ∃v',((match r with |.tmp t=>pure (a.tmps.getD t undef) |.cell x t=>do Go.loadVar t (<-asAddr (a.tmps.getD x undef))):Sem Φ).run P w=.ok v' w/\bE σ v v':=by
 unfold kD at h;cases r with
 |tmp t=>cases h;have H:Nat.blt t nt:=H;rw[nS]at H;exact⟨_,rfl,hf.2 t (by grind)⟩
 |cell x t=>
  have H:Nat.blt x nt:=H;rw[nS]at H;have hx:=hf.2 x (by grind);dsimp only at h;split at h;·rename_i ad a0;rw[a0]at hx;have⟨i,hi,_,he⟩:=hx.iC;have he:a.tmps.getD x undef=_:=he;have⟨v',h1,h2,_⟩:=qP (w:=w) hE hs hi h;refine⟨v',?_,h2⟩;dsimp only;rw[he,OY];exact h1
  cases h
theorem qL(hE:E.OK P)(hs:fN P σ m w){T:Tr Φ}(hf:eO σ T a nt):∀(rs:List ResultVar) (vs:Bt),(∀r∈rs,(match r with |.tmp t=>Nat.blt t nt |.cell a _=>Nat.blt a nt))->fR E T m rs=some vs->
  ∃H:Bt,(rs.mapM (m:=Sem) λ|.tmp t=>pure (a.tmps.getD t undef) |.cell x t=>do Go.loadVar t (<-asAddr (a.tmps.getD x undef))).run P w=.ok H w/\bN σ vs H
 |[],vs,_,h=>by
  simp only[fR,No]at h;subst h;exact⟨[],rfl,bN.nil⟩
 |r::rs,vs,hr,h=>by
  unfold fR at h;cases h1:kD E T m r with
  |none=>rw[h1]at h;simp at h
  |some v=>
   cases h2:fR E T m rs with
   |none=>rw[h1,h2]at h;simp at h
   |some a0=>
    rw[h1,h2]at h;simp only[No]at h;subst h;have⟨v',q1,q2⟩:=we hE hs hf (hr r zN) h1;obtain⟨H,q3,q4⟩:=qL hE hs hf rs a0 (λr h=>hr r (W6 _ h)) h2;refine⟨v'::H,?_,bN.cons q2 q4⟩;simp_all
theorem ac1(hE:E.OK P)(hs:fN P σ m w){T:Tr Φ}{fn:Func}(hf:eO σ T a nt)(hr:∀r∈fn.results.toList,(match r with |.tmp t=>Nat.blt t nt |.cell a _=>Nat.blt a nt)){v:Φ}(h:result? E fn T m=some v):
  ∃v',(results fn a.tmps).run P w=.ok v' w/\bE σ v v':=by
 unfold result? at h;cases h1:fR E T m fn.results.toList with
 |none=>rw[h1]at h;simp at h
 |some vs=>
  rw[h1]at h;have⟨H,q1,q2⟩:=qL hE hs hf fn.results.toList vs hr h1;refine⟨if h:H.toArray.size=1 then H.toArray[0]else .tuple H.toArray,?_,?_⟩
  ·unfold results;rw[TR];rw[OY,Sem.run_map];generalize hG:Sem.run P (List.mapM _ _) w=G;have hG:G=.ok H w:=hG.symm.trans q1;simp_all
  split at h
  ·rename_i v1 a0;cases a0;cases h;obtain⟨v',l2,rfl,hv,hl⟩:=q2.cases;obtain rfl:=hl.nil_eq;grind
  ·rename_i b0 d0 a0;cases a0;cases h;have hlen:¬H.toArray.size=1:=by
    intro hl;have:vs.length=1:=by rw[q2.1];simpa using hl
    obtain⟨x,rfl⟩:=List.length_eq_one_iff.1 this;grind
   rw[dif_neg hlen];exact q2.tuple
  ·grind
theorem Ev.Sr(h:Ev P σ {m with low:=m.n} w σ' m' w'):Ev P σ m w σ' {m' with low:=min m.low m'.low} w' where
 ext:=h.ext
 vY:=h.vY.low _
 low:=RU _ _
 Lc:=h.Lc
 hle:=h.hle
 new:=λb i x y=>by
  have⟨h1,H⟩:=h.new b i x y;grind
 abs:=λb x y=>h.abs b (by grind) y
 heap:=λB x y=>h.heap B x λb i p q=>by grind
 os:=h.os
 tape:=h.tape
 output:=h.output
theorem bE.En{v v':Φ}(h:bE σ v v')(h0:bA v):v'=v:=by
 by_cases hc:dC v=true;·exact h.mf hc
 ·cases v with
  |tuple vs=>
   obtain⟨a',rfl,ha⟩:=h.tV;congr 1;apply Tu;apply OG;intro j;cases H:vs.toList[j]? with
   |none=>exact M8 (by rw[<-ha.1];exact TZ.1 H)
   |some u=>have⟨u',hu,hr⟩:=ha.get H;rw[hu,hr.mf (Jl.1 h0 u (LZ H))]
  |_=>exact absurd h0 hc
theorem Ev.forget(H:fN P σ m w)(h:Ev P σ {m with low:=m.n} w σ' m' w')(hl:m.n<=m'.low):Ev P σ m w σ m w':=by
 have hk:∀B,B<w.heap.size->w'.heap[B]?=w.heap[B]?:=λB hB=>h.heap B hB λb i p _=>by have:=H.rT b i p;omega
 have a0:=h.hle;refine⟨λ_ _ x=>x,⟨H.rT,λb i hb=>(H.obj b i hb).aV (λ_ _ x=>x) (hk _ (H.lt b i hb)),λb i hb=>?_,H.inj,H.lz⟩,Ox _,Ox _,a0,λb i x y=>(by grind),λ_ _ _=>rfl,λB hB _=>hk B hB,h.os,h.tape,h.output⟩;have:=H.lt b i hb;omega
theorem Ev.iI{r:Nat}{o:Obj}(h:Ev P σ m w σ' m' w')(hb:w.heap.size<=r)(hr:∀b i,σ' b=some i->i.cY≠r):Ev P σ m w σ' m' (w'.putObj r o):=by have H:=h.vY;refine⟨h.ext,⟨H.rT,λb i x=>(H.obj b i x).aV (λ_ _ x=>x) (World.putObj_heap_other (hr b i x)),λb i x=>by rw[World.putObj_size];exact H.lt b i x,H.inj,H.lz⟩,h.low,h.Lc,by rw[World.putObj_size];exact h.hle,h.new,h.abs,λB x y=>?_,h.os,h.tape,h.output⟩;rw[World.putObj_heap_other (by omega)];exact h.heap B x y
theorem oL.iI{base r:Nat}{o:Obj}:∀{ds:List Deferred},oL base σ w ds->(∀d∈ds,d.target≠.collected r)->oL base σ (w.putObj r o) ds
 |[],_,_=>trivial
 |d::ds,h,hn=>by
  have⟨⟨q,h1,h2,h3,h4,h5⟩,h6⟩:=h;refine⟨⟨q,h1,h2,?_,h4,h5⟩,h6.iI λd' H=>hn d' (W6 _ H)⟩;rw[World.putObj_heap_other (λe=>hn d zN (by grind))];exact h3
theorem sV{fn:Func}{tmps:Array Φ}{R:Ending->World->Prop}:∀(ds:List Deferred) (w':World),oL w.heap.size σ' w' ds->Ev P σ m w σ' m' w'->
  (∀H,Ev P σ m w σ' m' H->∃v,(results fn tmps).run P H=.ok v H/\R (.returned v) H)->LeavesInM Fence.wide 0 P fn tmps R ds .returning w'
 |[],w',_,he,h=>h w' he
 |d::ds,w',hd,he,h=>by
  have⟨⟨r,h1,h2,h3,h4,h5⟩,h6⟩:=hd;exact⟨by simp,.inl ⟨r,_,h1,run_takeDeferred h3,sV ds _ (h6.iI h5) (he.iI h2 h4) h⟩⟩
theorem rO(hE:E.OK P){X:aK}(hX:dJ P X){n:Nat}(ih:dJ P (cC E X n)){f:FuncId}{args:Bt}{v:Φ}(h:cC E X (n+1) (.func f) args m=some (v,m')){args':Array Φ}(hs:fN P σ m w)(hl:bN σ args args'.toList):
  CallsIn Fence.wide 0 P f args' w (gD P σ m w v m')/\(callFunc f args').run P w=.ok (.enter f args') w:=by
 unfold cC at h
 split at h
 ·rename_i r hr
  cases h
  exact hX.func f args m v m' hr σ w args' hs hl
 split at h
 ·cases h
 ·rename_i fn l0
  have m0:=hE.fn f fn l0
  have d0:=hE.code l0
  unfold yr at d0
  simp only[JJ]at d0
  split at h
  ·cases h
  ·rename_i body a0
   rw[a0]at d0
   cases hle:Nat.ble args.length fn.ntmps with
   |false=>rw[hle]at h;simp at h
   |true=>
    rw[hle]at h
    simp only[cond_true]at h
    have hle:=JO hle
    have n0:(callFunc f args').run P w=.ok (.enter f args') w:=by
     have g0:(fn.name== "runtime.NumGoroutine")=false:=by simpa using d0.2.1
     unfold callFunc
     simp only[OY,run_program,Y1,m0,g0,a0]
     rfl
    refine⟨?_,n0⟩
    have p0:=hs.low m.n
    have o0:=KC (nt:=fn.ntmps) hl hle
    have go:∀(e:Ex) (fr:Fr),e=.normal\/e=.ret->bQ E (cC E X n) n body {T:=enter args 0,m:={m with low:=m.n}}=some (e,fr)->
      (match result? E fn fr.T fr.m with
       |none=>none
       |some v=>bif bA v && Nat.ble m.n fr.m.low then some (v,m)else some (v,{fr.m with low:=min m.low fr.m.low}))=some (v,m')->CallsIn Fence.wide 0 P f args' w (gD P σ m w v m'):=by
     intro e fr i0 hex H
     refine callsIn_of_wp_marks m0 a0 trivial ?_
     refine rI hE ih body _ e fr d0.1 hex none 0 w.heap.size σ _ w _ [] (.inl rfl) o0 p0 ⟨[],rfl,trivial⟩ (Ox _) λq0 a1 w1 r0 e0 _ s0=>?_
     have⟨ms,j0,e0⟩:=e0
     have j0:a1.defers=ms:=by rw[j0,Zu]
     rw[<-j0]at e0
     have b0:LeavesInM Fence.wide 0 P fn a1.tmps (gD P σ m w v m') a1.defers .returning w1:=by
      refine sV a1.defers w1 e0 s0 λw2 k0=>?_
      cases hr:result? E fn fr.T fr.m with
      |none=>rw[hr]at H;cases H
      |some v1=>
       rw[hr]at H
       dsimp only at H
       obtain⟨v',q1,q2⟩:=ac1 hE k0.vY r0 (λr hr=>by
        have:=Jl.1 d0.2.2 r hr
        cases r <;>exact this) hr
       refine⟨v',q1,?_⟩
       cases hb:(bA v1 && Nat.ble m.n fr.m.low)with
       |true=>
        rw[hb]at H
        cases H
        simp only[JJ]at hb
        have u0:=q2.En hb.1
        subst u0
        exact⟨_,σ,rfl,bE.kY hb.1,Ev.forget hs k0 (JO hb.2)⟩
       |false=>
        rw[hb]at H
        cases H
        exact⟨_,q0,rfl,q2,k0.Sr⟩
     rcases i0 with rfl |rfl
     ·exact b0
     ·exact b0
    split at h
    ·cases h
    ·cases h
    ·rename_i e fr g0 hex
     refine go e fr ?_ hex h
     cases e with
     |normal=>exact .inl rfl
     |ret=>exact .inr rfl
     |exit id=>exact absurd rfl (g0 id)
theorem xO:∀(ps:List Tmp) (args args':Bt) (T:Tr Φ) (tmps:Array Φ) (ds:List Deferred),eO σ T {tmps,defers:=ds} nt->(∀p∈ps,p<nt)->bN σ args args'->
  eO σ (ua T (ps.zip args)) {tmps:=(ps.zip args').foldl (λtmps x=>tmps.setIfInBounds x.1 x.2) tmps,defers:=ds} nt
 |[],_,_,_,_,_,h,_,_=>h
 |p::ps,[],args',T,tmps,ds,h,_,H=>by
  obtain rfl:=H.nil_eq;exact h
 |p::ps,v::args,x,T,tmps,ds,h,hp,H=>by
  obtain⟨v',args',rfl,hv,a0⟩:=H.cases;have h2:=h.put (dst:=some p) (λd hd=>by simp_all) hv;exact xO ps args args' (T.set p v) (tmps.setIfInBounds p v') ds h2 (λq hq=>hp q (W6 _ hq)) a0
theorem Ev.loop{b:Nat}{i:BI}{r r2:zx}{r' r2':Loop}(hs:fN P σ m w)(hb:σ b=some i)(hm:m.get b=.loop r)(hr:w.heap[i.cY]?=some (.loop r'))(hh:∀w',w'.heap[i.cY]?=some (.loop r2')->Holds σ i w' (.loop r2)):
  Ev P σ m w σ (m.set b (.loop r2)) (w.putObj i.cY (.loop r2')):=by have H:i.cY<w.heap.size:=(Ph.1 hr).1;exact Ev.write hs hb (by grind) (hh _ (World.putObj_heap_same H)) (λB hB=>World.putObj_heap_other hB) (by simp) rfl rfl rfl
theorem M.Cg{b:Nat}{r r2:zx}(h:m.get b=.loop r):(m.set b (.loop r2)).get b=.loop r2:=by have:b<m.n:=M.jN (by grind);rw[M.cj _ _ _ _ this,Tf rfl]
theorem Dm(hE:E.OK P){X:aK}{n:Nat}(ih:dJ P (cC E X n)){l:Nat}{args:Bt}{v:Φ}(h:ud (bQ E (cC E X n) n) E.G l args m=some (v,m')){i:BI}{args':Array Φ}(hs:fN P σ m w)(hl:σ l=some i)(ha:bN σ args args'.toList):
  eA P σ m w ((Instr.yield i.cY args').run P w) v m':=by
 unfold ud at h;split at h
 ·rename_i r hr;have ho:=hs.obj _ _ hl;rw[hr]at ho;have⟨N0,r',nt,q1,q2,q3,q4,q5,q6,q7,q8,q9,WB,r0,O0⟩:=ho;cases hb:(Nat.beq args.length r.ps.size && Nat.beq r.G E.G)with
  |false=>rw[hb]at h;simp at h
  |true=>
   rw[hb]at h;simp only[cond_true]at h;simp only[JJ]at hb;have hlen:=vZ hb.1;have hG:=vZ hb.2;rw[hE.G]at hG;rw[hG]at q9 WB;have s0:args'.size=r'.params.size:=by
    have:=ha.1;grind
   rw[run_yield q1 s0];let R:Ending->World->Prop:=gD P σ m w v m'
   suffices H:∀(ro:Option Nat) (k:Nat),RoundIn (iL ro) k P i.cY r'.fn ((r'.params.zip args').foldl (λtmps (t,a)=>tmps.setIfInBounds t a) r'.tmps) r'.assign r'.body w R by
    refine⟨?_,λro k o a next Q hk=>?_⟩
    ·obtain⟨e,w',⟨v',σ',_,hv,he⟩,_⟩:=(H none 0).2 default [] (room_wide _);grind
    ·refine⟨λhh=>by simp[iL,Fence.wide]at hh,(H ro (k-1)).mono λe w' he=>?_⟩;obtain⟨v',σ',rfl,hv,P0⟩:=he;grind
   intro ro k;refine roundIn_of_wpIn trivial ?_;have u0:eO σ (ua r.T (r.ps.toList.zip args)) {tmps:=((r'.params.zip args').foldl (λtmps (t,a)=>tmps.setIfInBounds t a) r'.tmps),defers:=[]} nt:=by
    have h0:eO σ r.T {tmps:=r'.tmps,defers:=[]} nt:=⟨q7,λt ht=>q8 t ht⟩
    have h1:=xO r.ps.toList args args'.toList r.T r'.tmps [] h0 r0 ha;have e:(r'.params.zip args').foldl (λtmps (t,a)=>tmps.setIfInBounds t a) r'.tmps=(r.ps.toList.zip args'.toList).foldl (λtmps x=>tmps.setIfInBounds x.1 x.2) r'.tmps:=by rw[<-zP,Array.toList_zip,q4]
    grind
   rw[q5,q6];split at h
   ·rename_i v0 hx;split at h
    ·rename_i r1 g0;split at h
     ·rename_i L0;split at h
      ·rename_i e i0 y0;split at h
       ·rename_i r2 k0;refine rI hE ih r.assign _ .normal v0 q9 hx (some i.cY) k 0 σ _ w _ [] (.inr ⟨l,i,r,rfl,hl,hr⟩) u0 (hs.low m.n) ⟨[],rfl,trivial⟩ (ZE _) λz0 a1 w1 A0 B0 _ b0=>?_;have d0:=b0.ext _ _ hl;have l0:=b0.vY.obj _ _ d0;rw[g0]at l0;have⟨m0,C0,D0,p1,p2,p3,p4,p5,p6,p7,p8,p9,E0,F0,G0⟩:=l0;refine⟨_,run_beginRound p1 (by grind),?_⟩;have a0:=Ev.loop (r2:={r1 with st:=.busy}) (r2':={C0 with state:=.busy}) b0.vY d0 g0 p1 λw' j0=>⟨m0,_,D0,j0,rfl,p3,p4,p5,p6,p7,p8,p9,E0,F0,G0⟩
        refine rI hE ih r.body _ e i0 WB y0 (some i.cY) k 0 z0 a1 _ _ [] (.inr ⟨l,i,_,rfl,d0,M.Cg g0⟩) A0 a0.vY (B0.ev a0) (ZE _) λH0 a2 w2 b1 c1 _ e0=>?_;have n0:=e0.ext _ _ d0;have o0:=e0.vY.obj _ _ n0;rw[k0]at o0;have⟨p0,r2',I0,z1,z2,z3,z4,z5,z6,z7,z8,z9,J0,K0,d1⟩:=o0;have q0:=(b0.trans a0).trans e0;have fin:∀(j:Option Ex),j≠some .normal->∃v' w',(Instr.endRound i.cY (j.map uP)).run P w2=.ok v' w'/\(v=.bool (j.map uP).isNone->m'={i0.m.set l (.loop {r2 with st:=if(j.map uP).isNone then .ready else .done,sJ:=j})with low:=min m.low (i0.m.set l (.loop {r2 with st:=if(j.map uP).isNone then .ready else .done,sJ:=j})).low}->R (.returned v') w'):=by intro j hj;refine⟨_,_,run_endRound (j.map uP) z1,λhv hm=>?_⟩;subst hv hm;refine⟨_,H0,rfl,.flat _ rfl,Ev.Sr (q0.trans ?_)⟩;exact Ev.loop e0.vY n0 k0 z1 λw' j0=>⟨p0,_,I0,j0,rfl,rfl,z4,z5,z6,z7,z8,z9,J0,K0,hj⟩
        cases e with
        |normal=>cases h;obtain⟨v',w',f1,f2⟩:=fin none (by simp);exact⟨v',w',f1,f2 rfl rfl⟩
        |exit id=>cases h;obtain⟨v',w',f1,f2⟩:=fin (some (.exit id)) (by simp);exact⟨v',w',f1,f2 rfl rfl⟩
        |ret=>cases h;obtain⟨v',w',f1,f2⟩:=fin (some .ret) (by simp);exact⟨v',w',f1,f2 rfl rfl⟩
       cases h
      cases h
     cases h
    cases h
   cases h
 cases h
theorem mh(hE:E.OK P){X:aK}(hX:dJ P X):∀n,dJ P (cC E X n)
 |0=>⟨λf args m v m' h=>by simp[cC]at h,λl args m v m' h=>by simp[cC]at h,Cw hX.aV 0⟩
 |n+1=>⟨λf args m v m' h σ w H hs hl=>rO hE hX (mh hE hX n) h hs hl,λl args m v m' h σ w i H hs hl ha=>by
   unfold cC at h;exact Dm hE (mh hE hX n) h hs hl ha,Cw hX.aV (n+1)⟩
theorem tC(hE:E.OK P){X:aK}(H:dJ P X){n:Nat}{f:FuncId}{args:Bt}{v:Φ}(h:cC E X n (.func f) args m=some (v,m')){args':Array Φ}(hs:fN P σ m w)(hl:bN σ args args'.toList):
  Calls P f args' w (gD P σ m w v m'):=by
 cases n with
 |zero=>simp[cC]at h
 |succ n=>exact callsIn_wide.1 (rO hE H (mh hE H n) h hs hl).1
def W7:aK:=λ_ _ _=>none
theorem abw:dJ P W7:=⟨λf args m v m' h=>by simp[W7]at h,λl args m v m' h=>by simp[W7]at h,λf args m v m' h=>by simp[W7]at h⟩
end
end
section
def M.wl(m:M)(l:Nat):M:={m with low:=l}
section
variable {m:M} {l k b:Nat} {o:Ob}
theorem M.eL:(m.wl l).get b=m.get b:=rfl
theorem M.xE:(m.wl l).low=l:=rfl
theorem M.GS:(m.wl l).wl k=m.wl k:=rfl
theorem M.GU:(m.wl l).push o=(m.push o).wl l:=rfl
theorem M.Li:(m.wl l).set b o=(m.set b o).wl (min l b):=rfl
theorem M.iQ:(m.push o).n=m.n+1:=rfl
end
structure cG{α:Type}(m:M)(f:M->Option (α×M)):Prop where
 eq:∀l,l<=m.n->f (m.wl l)=(f (m.wl m.n)).map (λr=>(r.1,r.2.wl (min l r.2.low)))
 Lc:∀r,f (m.wl m.n)=some r->m.n<=r.2.n
section
variable {α:Type} {m:M}
theorem cG.none:cG (α:=α) m (λ_=>none):=⟨λ_ _=>rfl,λ_ h=>by cases h⟩
theorem cG.same(v:α):cG m (λm=>some (v,m)):=⟨λl h=>by
 simp only[TN,M.xE,M.GS,BT h],λr h=>by cases h;exact Ox _⟩
theorem cG.push(v:α)(o:Ob):cG m (λm=>some (v,m.push o)):=⟨λl h=>by
 simp only[TN,M.GU,M.xE,M.GS,BT h],λr h=>by cases h;exact Pz _⟩
theorem cG.set(v:α)(b:Nat)(o:Ob):cG m (λm=>some (v,m.set b o)):=⟨λl h=>by
 simp only[TN,M.Li,M.xE,M.GS];congr 3;omega,λr h=>by cases h;exact Ox _⟩
theorem cG.QC(v:α)(b:Nat)(o H:Ob):cG m (λm=>some (v,(m.set b o).push H)):=⟨λl h=>by
 simp only[TN,M.Li,M.GU,M.xE,M.GS];congr 3;omega,λr h=>by cases h;exact Pz _⟩
theorem cG.of_eq{f g:M->Option (α×M)}(h:cG m g)(e:∀l,f (m.wl l)=g (m.wl l)):cG m f:=⟨λl H=>by rw[e,e,h.eq l H],λr hr=>h.Lc r (by grind)⟩
end
noncomputable section
variable {E:Env} {m:M}
theorem cf{l n:Nat}{a:Addr}:loadCells (m.wl l) a n=loadCells m a n:=rfl
theorem yA{l:Nat}{t:TypeId}{a:Addr}:loadVar E (m.wl l) t a=loadVar E m t a:=rfl
theorem dQ{l:Nat}{a:Addr}:Df (m.wl l) a=Df m a:=rfl
theorem cQ{l s n:Nat}{x:Φ}:first? (m.wl l) s n x=first? m s n x:=rfl
theorem eJ{l:Nat}{t:TypeId}{x:Φ}:wi E (m.wl l) t x=wi E m t x:=rfl
theorem abY{l:Nat}{t:TypeId}{x:Φ}{a b c:Option Φ}:slice? E (m.wl l) t x a b c=slice? E m t x a b c:=rfl
theorem adM{l:Nat}{t:TypeId}{x k:Φ}{ok:Bool}:kh E (m.wl l) t x k ok=kh E m t x k ok:=rfl
theorem V1{l:Nat}{s d:TypeId}{x:Φ}:SZ E (m.wl l) s d x=SZ E m s d x:=rfl
theorem xJ{v:Φ}{a:Addr}{vs:Bt}:cG m (λm=>(storeCells m a vs).map λm=>(v,m)):=by
 unfold storeCells;cases h:m.get a.block with
 |cells c e g=>
  cases H:(a.spot.isNone && Nat.ble (a.off+vs.length) c.length && vs.all one)with
  |true=>exact(cG.set v a.block _).of_eq (λl=>by simp only[M.eL,cf,cQ,eJ,dQ, *,cond_true,T4,TN,T8] <;>rfl)
  |false=>exact cG.none.of_eq (λl=>by simp only[M.eL,cf,cQ,eJ,dQ, *,cond_true,T4,TN,T8] <;>rfl)
 |_=>exact cG.none.of_eq (λl=>by simp only[M.eL,cf,cQ,eJ,dQ, *,cond_true,T4,TN,T8] <;>rfl)
theorem JT{e k:Nat}{base:Option Addr}{sl sc H:Nat}{news:Bt}:cG m (λm=>lY m e k base sl sc H news):=by
 unfold lY;cases base with
 |none=>
  cases (Nat.beq sl 0 && Nat.beq sc 0)with
  |true=>exact cG.of_eq (cG.push (KI m.n 0 H H) _) (λl=>rfl)
  |false=>exact cG.none
 |some a=>
  cases h:m.get a.block with
  |cells c te g=>
   cases ho:(bif Nat.beq sl 0 then some []else loadCells m a (sl*k))with
   |none=>exact cG.none.of_eq (λl=>by simp only[M.eL,cf,cQ,eJ,dQ, *,cond_true,T4,TN,T8] <;>rfl)
   |some fh=>
    cases h1:(g.isNone ||(g==some k && Nat.blt (a.off+sc*k) c.length))with
    |true=>exact cG.of_eq (cG.push (KI m.n 0 H H) (.cells (fh++news) e (some k))) (λl=>by simp only[M.eL,cf,cQ,eJ,dQ, *,cond_true,T4,TN,T8] <;>rfl)
    |false=>
     cases h2:(g==some k && Nat.beq a.off 0 && a.spot.isNone && Nat.beq (sl*k) c.length && Nat.beq sc sl && Nat.beq te e)with
     |true=>exact cG.of_eq (cG.QC (KI m.n 0 H H) a.block .dead (.cells (fh++news) e (some k))) (λl=>by simp only[M.eL,cf,cQ,eJ,dQ, *,cond_true,T4,TN,T8] <;>rfl)
     |false=>exact cG.none.of_eq (λl=>by simp only[M.eL,cf,cQ,eJ,dQ, *,cond_true,T4,TN,T8] <;>rfl)
  |_=>exact cG.none.of_eq (λl=>by simp only[M.eL,cf,cQ,eJ,dQ, *,cond_true,T4,TN,T8] <;>rfl)
theorem EC{t u:TypeId}{s x:Φ}:cG m (λm=>dU E m t u s x):=by
 unfold dU;split
 ·rename_i ti ui base sl sc n _ _ _;split;·exact cG.none
  ·rename_i e _ _;cases h1:E.ty.get e with
   |none=>exact cG.none
   |some H=>
    cases h2:first? m ti.es n x with
    |none=>exact cG.none.of_eq (λl=>by simp only[M.eL,cf,cQ,eJ,dQ, *,cond_true,T4,TN,T8] <;>rfl)
    |some news=>
     cases h3:(Nat.beq ti.es 0 ||Nat.blt 65536 H.bytes || !news.all one ||Nat.blt 268435456 (sl+n) || !Nat.beq news.length (n*ti.es) || !gw H.zero ti.es)with
     |true=>exact cG.none.of_eq (λl=>by simp only[M.eL,cf,cQ,eJ,dQ, *,cond_true,T4,TN,T8] <;>rfl)
     |false=>
      cases h4:Nat.ble (sl+n) sc with
      |false=>exact JT.of_eq (λl=>by simp only[M.eL,cf,cQ,eJ,dQ, *,cond_true,T4,TN,T8] <;>rfl)
      |true=>
       cases base with
       |none=>
        cases h5:Nat.beq n 0 with
        |true=>exact cG.of_eq (cG.same (.slice none sl sc)) (λl=>by simp only[M.eL,cf,cQ,eJ,dQ, *,cond_true,T4,TN,T8] <;>rfl)
        |false=>exact cG.none.of_eq (by grind)
       |some a=>
        cases h5:Nat.beq n 0 with
        |true=>exact cG.of_eq (cG.same (.slice (some a) (sl+n) sc)) (λl=>by simp only[M.eL,cf,cQ,eJ,dQ, *,cond_true,T4,TN,T8] <;>rfl)
        |false=>exact cG.of_eq (xJ (v:=.slice (some a) (sl+n) sc) (a:=a.add (sl*ti.es)) (vs:=news)) (λl=>by simp only[M.eL,cf,cQ,eJ,dQ, *,cond_true,T4,TN,T8] <;>rfl)
  exact cG.none
 exact cG.none
theorem Cx{b:Builtin}{ts:List TypeId}{args:Bt}:cG m (λm=>av E m b ts args):=by
 unfold av;split;·exact EC
 ·rename_i t x;cases h:wi E m t x with
  |none=>exact cG.none.of_eq (λl=>by simp only[M.eL,cf,cQ,eJ,dQ, *,cond_true,T4,TN,T8] <;>rfl)
  |some v=>exact(cG.same v).of_eq (λl=>by simp only[M.eL,cf,cQ,eJ,dQ, *,cond_true,T4,TN,T8] <;>rfl)
 ·cases h:(fy (λx y=>if y<x then y else x) args)with
  |none=>exact cG.none
  |some v=>exact cG.same v
 ·cases h:(fy (λx y=>if y >x then y else x) args)with
  |none=>exact cG.none
  |some v=>exact cG.same v
 exact cG.none
end
end
section
inductive KV where
 |u
 |v (x:Φ)
def KV.val:KV->Φ
 |.u=>undef
 |.v x=>x
inductive KT where
 |e
 |c (t:Nat) (x:Option KV) (r:KT)
def KT.get(K:KT):Nat->Option KV:=
 KT.rec (motive:=λ_=>Nat->Option KV) (λ_=>none) (λt x _ g i=>bif Nat.beq t i then x else g i) K
def KT.set(K:KT)(t:Nat)(x:KV):KT:=.c t (some x) K
def KT.del(K:KT)(t:Nat):KT:=.c t none K
theorem KT.SN{t i:Nat}{x:Option KV}{r:KT}:(KT.c t x r).get i=if i=t then x else r.get i:=by
 show(bif Nat.beq t i then x else r.get i)=_;cases h:Nat.beq t i with
 |true=>rw[Tf (vZ h).symm];rfl
 |false=>rw[QL λe=>Mm h e.symm];rfl
theorem KT.cj(K:KT)(t i:Nat)(x:KV):(K.set t x).get i=if i=t then some x else K.get i:=KT.SN
theorem KT.Rv(K:KT)(t i:Nat):(K.del t).get i=if i=t then none else K.get i:=KT.SN
structure St where
 K:KT
 m:M
 lo:Nat
def Kn(K:KT)(T:Tr Φ):Prop:=∀t v,K.get t=some v->T.get t=some v.val
noncomputable section
def QF(K:KT)(dst:Option Tmp)(v:KV):KT:=
 match dst with
 |some d=>K.set d v
 |none=>K
def oN(K:KT):Operand->Option Φ
 |.tmp t=>match K.get t with |some k=>some k.val |none=>none
 |.const v=>some v
 |.global g=>some (.pointer (some ⟨g,0,none⟩))
 |.func f=>some (.func (.func f) #[] #[])
def FZ(K:KT):List Operand->Option (Bt)
 |[]=>some []
 |x::xs=>match oN K x with
  |some v=>match FZ K xs with
   |some H=>some (v::H)
   |none=>none
  |none=>none
def Pk(K:KT):List (Nat×Operand)->Option (List (Nat×Φ))
 |[]=>some []
 |p::xs=>match oN K p.2 with
  |some v=>match Pk K xs with
   |some H=>some ((p.1,v)::H)
   |none=>none
  |none=>none
def Yx(K:KT):Option Operand->Option (Option Φ)
 |none=>some none
 |some x=>match oN K x with |some v=>some (some v) |none=>none
variable (E:Env) (X:aK)
def Cl(f:Fn)(args:Bt)(m:M)(b:Nat)(v:Φ)(m':M):Prop:=
 m.n<=m'.n/\b<=m.n/\∃H,∀n,H<=n->∀l,l<=m.n->cC E X n f args (m.wl l)=some (v,m'.wl (min l b))
def V(c:Code)(s:St)(Q:Ex->St->Prop):Prop:=
 ∀T,Kn s.K T->s.lo<=s.m.n->∃e H T',Q e H/\Kn H.K T'/\s.m.n<=H.m.n/\H.lo<=H.m.n/\∃n0,∀n,n0<=n->
  bQ E (cC E X n) n c ⟨T,s.m.wl s.lo⟩=some (e,⟨T',H.m.wl H.lo⟩)
def ai{α:Type}(r:Option α)(P:α->Prop):Prop:=match r with |some x=>P x |none=>False
def aO{α β:Type}(r:Option (α×β))(P:α->β->Prop):Prop:=match r with |some x=>P x.1 x.2 |none=>False
def bC(m:M)(P:M->Prop):Prop:=P m
def gH(b:Bool)(P Q:Prop):Prop:=match b with |true=>P |false=>Q
def aR(v:Φ)(P Q:Prop):Prop:=match v with |.bool b=>gH b P Q |_=>False
def gL(v:Φ)(P:Fn->Array Φ->Array Φ->Prop):Prop:=match v with |.func g H ca=>P g H ca |_=>False
def bs(f:Fn)(args:Bt)(m:M)(P:Φ->M->Nat->Prop):Prop:=∃v m' b,Cl E X f args m b v m'/\P v m' b
def S0(H:Bool)(c:Prop)(P:Prop):Prop:=match H with |true=>c/\P |false=>P
def un(vs:Bt)(P:Φ->Bt->Prop):Prop:=match vs with |v::r=>P v r |[]=>False
variable {E}
def eS(v:Φ):Option Φ:=match v with |.pointer (some a)=>some (.pointer (some a)) |.func (.func f) a b=>some (.func (.func f) a b) |_=>none
def bB(v:Φ)(i:Nat):Option Φ:=match v with |.tuple H=>H.toList[i]? |_=>none
variable (E)
def ah(m:M)(t:TypeId)(a:Φ):Option Φ:=match a with |.pointer (some a)=>loadVar E m t a |_=>none
def aD(m:M)(t:TypeId)(a x:Φ):Option (M×Nat):=match a with |.pointer (some a)=>(match storeVar E m t a x with |some m1=>some (m1,a.block) |none=>none) |_=>none
def iE(m:M)(t:TypeId)(x k y:Φ):Option (M×Nat):=match x with |.map (some r)=>(match dN E m t x k y with |some m1=>some (m1,r) |none=>none) |_=>none
def ptrTo(b:Nat):Φ:=.pointer (some ⟨b,0,none⟩)
def jn(G:(Bt->M->Nat->Prop)->Prop)(k:Bt->M->Nat->Prop):Prop:=G k
def Lp(F:(Bt->M->Nat->Prop)->Bt->M->Nat->Prop)(vs:Bt)(m:M)(lo:Nat):Prop:=
 ∃(H:Type) (μ:H->Nat) (I:H->Bt->M->Nat->Prop),(∃g,I g vs m lo)/\
  ∀g vs m lo,I g vs m lo->F (λvs m lo=>∃g',μ g' < μ g/\I g' vs m lo) vs m lo
def Ex.SC(e:Ex)(P Q:Prop):Prop:=match e with |.normal=>P |_=>Q
structure Ky(y:Nat)(m m':M):Prop where
 n:m.n<=m'.n
 get:∀c,c < m.n->c≠y->m'.get c=m.get c
structure Ext(m m':M):Prop where
 n:m.n<=m'.n
 get:∀b,b < m.n->m'.get b=m.get b
inductive WG where
 |ob (φ:Ob->Prop)
 |own (P:Nat)
def jJ(P:Nat)(m:M)(c:Nat):Prop:=∀v e g,m.get P=.cells [v] e g->∀a n k,v=.slice (some a) n k->c≠a.block
@[reducible] def WG.gen:WG->M->M->Nat->Prop
 |.ob H,m1,m2,c=>H (m1.get c)->m2.get c=m1.get c
 |.own P,m1,m2,c=>jJ P m1 c->m2.get c=m1.get c/\jJ P m2 c
@[reducible] def WG.rel:WG->Nat->M->M->M->Nat->Prop
 |.ob H,y,_,m2,m3,c=>(c=y\/H (m2.get c))->m3.get c=m2.get c
 |.own P,y,m1,m2,m3,c=>P < y/\(c=y->m3.get c=m2.get c)/\(jJ P m1 c->m3.get c=m2.get c/\jJ P m3 c)
def Sa(fr:WG)(g:Fn)(fi ca:Bt)(xs:List (Bt))(Dt:M->Prop):Prop:=
 ∀(y H B:Nat) (I:Nat->M->Prop) (J:M->Prop) (m:M),(∀i m1,I i m1->Dt m1)->(∀i m1 m2,I i m1->Ext m1 m2->I i m2)->(∀m1 m2,J m1->Ext m1 m2->J m2)->
  y < H->H<=m.n->B<=H->
  (∀i args m1,H<=m1.n->xs[i]?=some args->I i m1->∃v m2 b,Cl E X (.yield y) args m1 b v m2/\B<=b/\b<=y/\(∀c,H<=c->c < m1.n->fr.gen m1 m2 c)/\((v=.bool true/\I (i+1) m2)\/(v=.bool false/\J m2)))->
  I 0 m->∃v m2 b,Cl E X g (fi++ .func (.yield y) #[] #[]::ca) m b v m2/\B<=b/\(I xs.length m2\/J m2)
def RF(g:Fn)(fi ca:Bt)(m:M)(lo:Nat)(F:Bt->M->(M->Ex->M->Nat->Prop)->Prop)(Q:M->Nat->Prop)(Qs:List (Ex×(M->Nat->Prop))):Prop:=
 ∃(fr:WG) (xs:List (Bt)) (Dt:M->Prop) (I:Nat->M->Prop) (J:Ex->M->Prop) (B:Nat),(∃k,g=.func k)/\Sa E X fr g fi ca xs Dt/\B<=m.n/\
  (∀i m1,I i m1->Dt m1)/\(∀i m1 m2,I i m1->Ky m.n m1 m2->I i m2)/\(∀e m1 m2,J e m1->Ky m.n m1 m2->J e m2)/\I 0 m/\
  (∀i args m1,m.n+1<=m1.n->xs[i]?=some args->I i m1->F args m1 λm2 e m3 H=>B<=H/\(∀c,m.n<=c->c < m1.n->fr.rel m.n m1 m2 m3 c)/\e.SC (I (i+1) m3) (J e m3))/\
  (∀m2 fO,I xs.length m2->min lo B<=fO->Q m2 fO)/\(∀e m2 fO,e≠.normal->J e m2->min lo B<=fO->∃p∈Qs,p.1=e/\p.2 m2 fO)
def P7(y:Nat)(m1 m:M)(P:M->Prop):Prop:=(∀c,y<=c->c < m1.n->m.get c=m1.get c)/\∀m2,m2.n=m.n->(∀c,c≠y->m2.get c=m.get c)->P m2
def GX(vs:Bt)(P:Prop):Prop:=match vs with |[]=>P |_=>False
structure Words where
 ai:{α:Type}->Option α->(α->Prop)->Prop
 aO:{α β:Type}->Option (α×β)->(α->β->Prop)->Prop
 bC:M->(M->Prop)->Prop
 bs:Fn->Bt->M->(Φ->M->Nat->Prop)->Prop
 un:Bt->(Φ->Bt->Prop)->Prop
 GX:Bt->Prop->Prop
 jn:((Bt->M->Nat->Prop)->Prop)->(Bt->M->Nat->Prop)->Prop
 Lp:((Bt->M->Nat->Prop)->Bt->M->Nat->Prop)->Bt->M->Nat->Prop
 RF:Fn->Bt->Bt->M->Nat->(Bt->M->(M->Ex->M->Nat->Prop)->Prop)->(M->Nat->Prop)->List (Ex×(M->Nat->Prop))->Prop
 P7:Nat->M->M->(M->Prop)->Prop
@[reducible] def aL:Words:=⟨D.ai,D.aO,D.bC,D.bs E X,D.un,D.GX,D.jn,D.Lp,D.RF E X,D.P7⟩
variable (W:Words)
def WM(b:Builtin)(ts:List TypeId)(args:Bt)(H:Bool)(m:M)(lo:Nat)(P:Φ->M->Nat->Prop):Prop:=
 match b with
 |.len |.min |.max=>W.aO (av E m b ts args) λv _=>P v m lo
 |_=>W.aO (av E (m.wl m.n) b ts args) λv m1=>S0 H (m.n<=m1.low) (P v m1 (min lo m1.low))
def Y2(o:Op)(H:Bool)(K:KT)(m:M)(lo:Nat)(P:Φ->M->Nat->Prop):Prop:=
 match o with
 |.move x |.assign x=>ai (oN K x) λx=>P x m lo
 |.pick c a b=>ai (oN K c) λc=>aR c (ai (oN K a) λa=>P a m lo) (ai (oN K b) λb=>P b m lo)
 |.alloc t=>ai (vg E t) λz=>W.bC (m.push (.cells (cells z) t none)) λm1=>P (ptrTo m.n) m1 lo
 |.box t x=>ai (oN K x) λx=>W.bC (m.push (.cells (cells x) t none)) λm1=>P (ptrTo m.n) m1 lo
 |.build t ps=>ai (Pk K ps.toList) λps=>W.ai (aJ E t ps) λv=>P v m lo
 |.buildSlice t n ps=>ai (Pk K ps.toList) λps=>W.aO (aF E m t n ps) λv m1=>P v m1 lo
 |.load t a=>ai (oN K a) λa=>W.ai (ah E m t a) λv=>P v m lo
 |.store t a x=>ai (oN K a) λa=>ai (oN K x) λx=>W.aO (aD E m t a x) λm1 b=>S0 H (m.n<=b) (P undef m1 (min lo b))
 |.nilCheck x=>ai (oN K x) λx=>ai (eS x) λv=>P v m lo
 |.binOp op t x y _=>ai (oN K x) λx=>ai (oN K y) λy=>W.ai (aA E op t x y) λv=>P v m lo
 |.unOp op _ x=>ai (oN K x) λx=>W.ai (cU op x) λv=>P v m lo
 |.convert s d x=>ai (oN K x) λx=>W.ai (SZ E m s d x) λv=>P v m lo
 |.makeFunc f a b=>ai (FZ K a.toList) λa=>ai (FZ K b.toList) λb=>match f with
  |.func f=>P (.func (.func f) a.toArray b.toArray) m lo
  |_=>False
 |.makeMap _ r=>match r with
  |none=>W.bC (m.push (.map [] 0)) λm1=>P (.map (some m.n)) m1 lo
  |some _=>False
 |.slice t x a b c=>ai (oN K x) λx=>ai (Yx K a) λa=>ai (Yx K b) λb=>ai (Yx K c) λc=>W.ai (slice? E m t x a b c) λv=>P v m lo
 |.fieldAddr s x f=>ai (oN K x) λx=>W.ai (af E s x f) λv=>P v m lo
 |.indexAddr t x i=>ai (oN K x) λx=>ai (oN K i) λi=>W.ai (ak E t x i) λv=>P v m lo
 |.index t x i=>ai (oN K x) λx=>ai (oN K i) λi=>W.ai (index? E t x i) λv=>P v m lo
 |.lookup t x i ok=>ai (oN K x) λx=>ai (oN K i) λi=>W.ai (kh E m t x i ok) λv=>P v m lo
 |.mapUpdate t x k y=>ai (oN K x) λx=>ai (oN K k) λk=>ai (oN K y) λy=>W.aO (iE E m t x k y) λm1 b=>S0 H (m.n<=b) (P undef m1 (min lo b))
 |.insert t x k y=>ai (oN K x) λx=>ai (oN K k) λk=>ai (oN K y) λy=>W.aO (iE E m t x k y) λm1 b=>S0 H (m.n<=b) (P undef m1 (min lo b))
 |.extract x i=>ai (oN K x) λx=>W.ai (bB x i) λv=>P v m lo
 |.call c=>match c.callee with
  |.value f=>ai (oN K f) λf=>gL f λg fi ca=>ai (FZ K c.args.toList) λargs=>W.bs g (fi.toList++(args++ca.toList)) m λv m1 b=>S0 H (m.n<=b) (P v m1 (min lo b))
  |.builtin b=>ai (FZ K c.args.toList) λargs=>WM E W b c.argTypes.toList args H m lo P
  |_=>False
 |_=>False
def Lv(ops:Array Oper)(K:KT)(o:Oper)(P S:KT->Prop):Prop:=
 match o.guard with
 |none=>P K
 |some (j,want)=>match(ops.toList[j]?).bind (·.dst)with
  |some d=>match K.get d with
   |some (.v v)=>aR v (cond want (P (K.set d (.v (.bool true)))) (S (K.set d (.v (.bool true))))) (cond want (S (K.set d (.v (.bool false)))) (P (K.set d (.v (.bool false)))))
   |some .u=>S K
   |none=>False
  |none=>S K
def Lx(d:Bool)(ops:Array Oper):List Oper->Nat->St->(St->Prop)->Prop
 |[],_,s,P=>P s
 |o::rest,j,s,P=>Lv ops s.K o
   (λK=>Y2 E W o.op (d && !(gR ops j)) K s.m s.lo λv m lo=>Lx d ops rest (j+1) ⟨QF K o.dst (.v v),m,lo⟩ P)
   (λK=>Lx d ops rest (j+1) ⟨QF K o.dst .u,s.m,s.lo⟩ P)
def Ex.Ik(id:Nat)(e:Ex):Ex:=match e with |.exit H=>bif Nat.beq H id then .normal else .exit H |e=>e
def assigned:Code->List Nat
 |.region _ ops _=>ops.toList.filterMap (·.dst)
 |.seq a b=>assigned a++assigned b
 |.cond _ x y=>assigned x++assigned y
 |.block _ c |.loop c |.scope c=>assigned c
 |_=> []
def carried(K:KT):List Nat->List Nat->List Nat
 |[],acc=>acc
 |t::ts,acc=>bif acc.contains t then carried K ts acc else match K.get t with
  |some (.v _)=>carried K ts (acc++ [t])
  |_=>carried K ts acc
def forget(K:KT):List Nat->KT
 |[]=>K
 |t::ts=>forget (K.del t) ts
def Ew:List Nat->Bt->KT->(KT->Prop)->Prop
 |[],_,K,f=>f K
 |t::ts,H,K,f=>W.un H λv r=>Ew ts r (K.set t (.v v)) f
def Ip:List Nat->Bt->KT->(KT->Prop)->Prop
 |[],H,K,f=>W.GX H (f K)
 |t::ts,H,K,f=>W.un H λv r=>Ip ts r (K.set t (.v v)) f
def tR(K:KT):List Nat->Option (Bt)
 |[]=>some []
 |t::ts=>match K.get t with
  |some (.v v)=>match tR K ts with
   |some H=>some (v::H)
   |none=>none
  |_=>none
def Fo(xs:List Operand):List Nat:=xs.filterMap λ|.tmp t=>some t |_=>none
def reads:Code->List Nat
 |.region _ ops _=>ops.toList.flatMap λo=>Fo o.op.operands.toList
 |.seq a b=>reads a++reads b
 |.cond c x y=>Fo [c]++(reads x++reads y)
 |.block _ c |.loop c |.scope c=>reads c
 |.rangeFunc f _ a b=>Fo [f]++(reads a++reads b)
 |_=> []
def parts:Code->Bool
 |.region _ ops _=>ops.toList.any λo=>o.guard.isSome
 |_=>false
def dedup:List Nat->List Nat->List Nat
 |[],acc=>acc
 |t::ts,acc=>bif acc.contains t then dedup ts acc else dedup ts (acc++ [t])
def NR(a:Code)(rd:List Nat):List Nat:=(dedup (assigned a) []).filter rd.contains
def Wt(e:Ex)(l:List Ex):List Ex:=bif l.any (·==e)then l else l++ [e]
def jw:Code->List Ex->List Ex
 |.exit id,acc=>Wt (.exit id) acc
 |.ret,acc=>Wt .ret acc
 |.seq a b,acc=>jw b (jw a acc)
 |.cond _ x y,acc=>jw y (jw x acc)
 |.block id c,acc=>(jw c []).foldl (λacc e=>bif e==.exit id then acc else Wt e acc) acc
 |.loop c,acc |.scope c,acc=>jw c acc
 |.rangeFunc _ _ _ b,acc=>jw b acc
 |_,acc=>acc
def leaves(c:Code):List Ex:=jw c []
def jjN:Nat:=4294967295
def me(id:Nat):Code->Nat
 |.exit i=>bif Nat.beq i id then 1 else 0
 |.seq a b=>me id a+me id b
 |.cond _ x y=>me id x+me id y
 |.block _ c |.loop c |.scope c=>me id c
 |.rangeFunc _ _ _ b=>me id b
 |_=>0
def nc:Code->Bool
 |.exit _ |.ret |.loop _ |.goto _ |.refuse _=>false
 |.seq a b=>nc a && nc b
 |.cond _ x y=>nc x ||nc y
 |.block id c=>nc c ||Nat.blt 0 (me id c)
 |.scope c=>nc c
 |_=>true
def Ar:Code->Bool
 |.seq a b=>nc a && Ar b
 |.cond _ x y=>(nc x && nc y) ||((nc x && Ar x) ||(nc y && Ar y))
 |.block id c=>Nat.blt 1 (me id c+(bif nc c then 1 else 0)) ||(nc c && Ar c)
 |.scope c=>Ar c
 |_=>false
def Ql:Code->Bool
 |.skip |.ret |.exit _ |.label _=>true
 |.seq a b=>Ql a && Ql b
 |.scope c=>Ql c
 |_=>false
def Ng(rd:List Nat)(a b:Code):Bool:=parts a ||(rd.contains jjN && (Ar a && !Ql b))
def Be:Code->List Nat->St->(Ex->St->Prop)->Prop
 |.skip,_,s,Q=>Q .normal s
 |.label _,_,s,Q=>Q .normal s
 |.region _ ops d,_,s,Q=>Lx E W d ops ops.toList 0 s (Q .normal)
 |.seq a b,rd,s,Q=>
  bif Ng rd a b then
   W.jn (λR=>Be a (reads b++rd) s λe H=>e.SC (ai (tR H.K (NR a (reads b++rd))) λvs=>R vs H.m H.lo) (Q e H))
    (λvs m lo=>Ew W (NR a (reads b++rd)) vs (forget s.K (assigned a)) λK=>Be b rd ⟨K,m,lo⟩ Q)
  else Be a (reads b++rd) s λe s=>e.SC (Be b rd s Q) (Q e s)
 |.cond c x y,rd,s,Q=>ai (oN s.K c) λv=>aR v (Be x rd s Q) (Be y rd s Q)
 |.block id c,rd,s,Q=>Be c rd s λe s=>Q (e.Ik id) s
 |.exit id,_,s,Q=>Q (.exit id) s
 |.ret,_,s,Q=>Q .ret s
 |.loop c,rd,s,Q=>
  ai (tR s.K (carried s.K (assigned c) [])) λvs=>W.Lp (λP vs m lo=>Ew W (carried s.K (assigned c) []) vs (forget s.K (assigned c)) λK=>Be c (carried s.K (assigned c) []++rd) ⟨K,m,lo⟩ λe H=>
   e.SC (ai (tR H.K (carried s.K (assigned c) [])) λvs=>P vs H.m H.lo) (Q e H)) vs s.m s.lo
 |.scope c,rd,s,Q=>Be c rd s Q
 |.rangeFunc f ps a b,_,s,Q=>ai (oN s.K f) λf=>gL f λg fi ca=>W.RF g fi.toList ca.toList s.m s.lo
   (λargs m1 Qb=>Ip W ps.toList args s.K λK1=>Be a (reads b) ⟨K1,m1,m1.n⟩ λe s1=>e.SC (W.P7 s.m.n m1 s1.m λm2=>Be b [] ⟨s1.K,m2,min s1.lo s.m.n⟩ λe2 s2=>Qb m2 e2 s2.m s2.lo) False)
   (λm lo=>Q .normal ⟨s.K,m,lo⟩) ((leaves b).map λe=>(e,λm lo=>Q e ⟨s.K,m,lo⟩))
 |_,_,_,_=>False
end
section
variable {E:Env} {X:aK}
theorem ae{α:Type}{x:α}{P:α->Prop}:ai (some x) P=P x:=rfl
theorem az{α β:Type}{x:α}{y:β}{P:α->β->Prop}:aO (some (x,y)) P=P x y:=rfl
theorem bK{α:Type}{r:Option α}{P:α->Prop}:ai r P↔∃x,r=some x/\P x:=by
 cases r with
 |none=>exact⟨λh=>h.elim,λ⟨x,h,_⟩=>by cases h⟩
 |some y=>exact⟨λh=>⟨y,rfl,h⟩,λ⟨x,h,H⟩=>by cases h;exact H⟩
theorem qf{α β:Type}{r:Option (α×β)}{P:α->β->Prop}:aO r P↔∃x y,r=some (x,y)/\P x y:=by
 cases r with
 |none=>exact⟨λh=>h.elim,λ⟨x,y,h,_⟩=>by cases h⟩
 |some y=>exact⟨λh=>⟨y.1,y.2,rfl,h⟩,λ⟨x,y,h,H⟩=>by cases h;exact H⟩
theorem Rm{b:Bool}{P Q:Prop}:gH b P Q↔(b->P)/\(b=false->Q):=by
 cases b with
 |true=>exact⟨λh=>⟨λ_=>h,λe=>by cases e⟩,λh=>h.1 rfl⟩
 |false=>exact⟨λh=>⟨(λe=>by cases e),λ_=>h⟩,λh=>h.2 rfl⟩
theorem Ce{v:Φ}{P Q:Prop}:aR v P Q↔∃b,v=.bool b/\gH b P Q:=by
 constructor
 ·intro h;cases v with
  |bool b=>exact⟨b,rfl,h⟩
  |_=>exact h.elim
 rintro⟨b,rfl,h⟩;exact h
theorem DE{v:Φ}{P:Fn->Array Φ->Array Φ->Prop}:gL v P↔∃g H ca,v=.func g H ca/\P g H ca:=by
 constructor
 ·intro h;cases v with
  |func g H ca=>exact⟨g,H,ca,rfl,h⟩
  |_=>exact h.elim
 rintro⟨g,H,ca,rfl,h⟩;exact h
theorem LB{vs:Bt}{P:Φ->Bt->Prop}:un vs P↔∃v r,vs=v::r/\P v r:=by
 cases vs with
 |nil=>exact⟨λh=>h.elim,λ⟨v,r,h,_⟩=>by cases h⟩
 |cons v r=>exact⟨λh=>⟨v,r,rfl,h⟩,λ⟨v,r,h,H⟩=>by cases h;exact H⟩
theorem tB{H:Bool}{c P:Prop}:S0 H c P↔(H->c)/\P:=by
 cases H with
 |true=>exact⟨λh=>⟨λ_=>h.1,h.2⟩,λh=>⟨h.1 rfl,h.2⟩⟩
 |false=>exact⟨λh=>⟨(λe=>by cases e),h⟩,λh=>h.2⟩
theorem Kn.put{K:KT}{T:Tr Φ}(h:Kn K T)(d:Option Tmp)(v:KV):Kn (QF K d v) (put T d v.val):=by
 cases d with
 |none=>exact h
 |some d=>
  intro t x H;simp only[D.put,QF,Tr.cj,KT.cj]at H⊢;split;·grind
  rename_i e;rw[QL e]at H;exact h t x H
theorem Kn.again{K:KT}{T:Tr Φ}(h:Kn K T){d:Nat}{v:Φ}(hd:K.get d=some (.v v)):Kn (K.set d (.v v)) T:=by
 intro t x H;simp only[KT.cj]at H;split at H;·rename_i e;cases H;rw[e];exact h d _ hd
 exact h t x H
theorem Kn.set{K:KT}{T:Tr Φ}(h:Kn K T){d:Nat}{v:Φ}(hd:T.get d=some v):Kn (K.set d (.v v)) T:=by
 intro t x H;simp only[KT.cj]at H;split at H;·rename_i e;cases H;rw[e];exact hd
 exact h t x H
theorem bO{K:KT}{T:Tr Φ}(h:Kn K T){x:Operand}{v:Φ}(H:oN K x=some v):ev T x=v:=by
 cases x with
 |tmp t=>
  simp only[oN]at H;split at H;·rename_i k hk;cases H;simp only[ev,qB,h t k hk,VZ]
  cases H
 |const c=>cases H;rfl
 |global g=>cases H;rfl
 |func f=>cases H;rfl
theorem lE{K:KT}{T:Tr Φ}(h:Kn K T):∀{xs:List Operand} {vs:Bt},FZ K xs=some vs->xs.map (ev T)=vs
 |[],vs,H=>by cases H;rfl
 |x::xs,vs,H=>by
  unfold FZ at H;split at H
  ·rename_i v h1;split at H
   ·rename_i a0 h2;cases H;simp only[Kt,bO h h1,lE h h2]
   ·cases H
  ·cases H
theorem rK{K:KT}{T:Tr Φ}(h:Kn K T):∀{xs:List (Nat×Operand)} {vs:List (Nat×Φ)},Pk K xs=some vs->xs.map (λp=>(p.1,ev T p.2))=vs
 |[],vs,H=>by cases H;rfl
 |x::xs,vs,H=>by
  unfold Pk at H;split at H
  ·rename_i v h1;split at H
   ·rename_i a0 h2;cases H;simp only[Kt,bO h h1,rK h h2]
   ·cases H
  ·cases H
theorem uR{K:KT}{T:Tr Φ}(h:Kn K T){x:Option Operand}{v:Option Φ}(H:Yx K x=some v):x.map (ev T)=v:=by
 cases x with
 |none=>cases H;rfl
 |some x=>
  unfold Yx at H;dsimp only at H;split at H;·rename_i w h1;cases H;simp only[TN,bO h h1]
  cases H
def S3(E:Env)(X:aK)(o:Op)(H:Bool)(T:Tr Φ)(m:M)(lo:Nat)(P:Φ->M->Nat->Prop):Prop:=
 ∃v m1 w,P v m1 (min lo w)/\m.n<=m1.n/\(H=true->m.n<=w)/\
  ∃n0,∀n,n0<=n->∀l,l<=m.n->ew o E (cC E X n) T (m.wl l)=some (v,m1.wl (min l w))
theorem S3.push{o:Op}{H:Bool}{T:Tr Φ}{m:M}{lo:Nat}{P:Φ->M->Nat->Prop}{v:Φ}{m1:M}(a0:lo<=m.n)(hP:P v m1 lo)(hn:m.n<=m1.n)(h:∀n l,ew o E (cC E X n) T (m.wl l)=some (v,m1.wl l)):S3 E X o H T m lo P:=
 ⟨v,m1,m.n,by grind,hn,λ_=>Ox _,0,by grind⟩
theorem S3.aV{o:Op}{br:Bool}{T:Tr Φ}{m:M}{lo:Nat}{P:Φ->M->Nat->Prop}{v:Φ}(H:lo<=m.n)(hP:P v m lo)(h:∀n l,ew o E (cC E X n) T (m.wl l)=some (v,m.wl l)):S3 E X o br T m lo P:=
 .push H hP (Ox _) h
theorem vr{m m1:M}{t:TypeId}{a:Addr}{x:Φ}(h:storeVar E m t a x=some m1)(l:Nat):storeVar E (m.wl l) t a x=some (m1.wl (min l a.block))/\m1.n=m.n:=by
 unfold storeVar at h⊢;cases H:E.ty.get t with
 |none=>rw[H]at h;cases h
 |some ti=>
  rw[H]at h;dsimp only at h⊢;cases hb:Nat.beq (cells x).length ti.size with
  |false=>rw[hb]at h;cases h
  |true=>
   rw[hb]at h;unfold storeCells at h⊢;rw[M.eL];cases hg:m.get a.block with
   |cells c e g=>
    rw[hg]at h;dsimp only at h⊢;cases hc:(a.spot.isNone && Nat.ble (a.off+(cells x).length) c.length && (cells x).all one)with
    |false=>rw[hc]at h;cases h
    |true=>rw[hc]at h;cases h;exact⟨rfl,rfl⟩
   |_=>rw[hg]at h;cases h
theorem jh{m m1:M}{t:TypeId}{r:Nat}{k y:Φ}(h:dN E m t (.map (some r)) k y=some m1)(l:Nat):dN E (m.wl l) t (.map (some r)) k y=some (m1.wl (min l r))/\m1.n=m.n:=by
 unfold dN at h⊢;cases ht:E.ty.get t with
 |none=>rw[ht]at h;cases h
 |some ti=>
  rw[ht]at h;dsimp only at h⊢;rw[M.eL];cases H:ti.d with
  |map kt et=>
   cases hg:m.get r with
   |map es clock=>
    rw[H,hg]at h;dsimp only at h⊢;cases hk:keyed E kt k with
    |false=>rw[hk]at h;cases h
    |true=>
     rw[hk]at h;cases hf:findKey E kt k es 0 with
     |none=>rw[hf]at h;cases h
     |some p=>
      rw[hf]at h;cases p with
      |none=>cases h;exact⟨rfl,rfl⟩
      |some q=>cases h;exact⟨rfl,rfl⟩
   |_=>rw[H,hg]at h;cases h
  |_=>rw[H]at h;cases h
theorem pS{m m1:M}{t:TypeId}{n:Nat}{ps:List (Nat×Φ)}{v:Φ}(h:aF E m t n ps=some (v,m1))(l:Nat):aF E (m.wl l) t n ps=some (v,m1.wl l)/\m.n<=m1.n:=by
 unfold aF at h⊢;split at h;·cases h
 split at h
 ·split at h;·cases h
  ·rename_i ti ht _ e hd _ z hz;cases H:(Nat.beq (cells z).length ti.es && Nat.ble (n*ti.es) 1048576)with
   |false=>rw[H]at h;cases h
   |true=>
    rw[H]at h;cases hf:fill (λi=>some (i*ti.es,ti.es)) (lS (cells z) n) ps with
    |none=>rw[hf]at h;cases h
    |some cs=>rw[hf]at h;cases h;refine⟨?_,Pz _⟩;rfl
 cases h
theorem zK{m m1:M}{b:Builtin}{ts:List TypeId}{args:Bt}{v:Φ}(hb:b=.len\/b=.min\/b=.max)(h:av E m b ts args=some (v,m1))(l:Nat):av E (m.wl l) b ts args=some (v,m.wl l):=by
 rcases hb with rfl|rfl|rfl
 ·unfold av at h⊢;split at h;all_goals try (rename_i hq;first|cases hq|skip)
  all_goals first|(simp only[eJ];cases H:wi E m _ _ with|none=>rw[H]at h;cases h|some w=>rw[H]at h;cases h;rfl)|cases h|skip
 ·have h:(fy (λx y=>if y<x then y else x) args).map (·,m)=some (v,m1):=h
  show(fy (λx y=>if y<x then y else x) args).map (·,m.wl l)=some (v,m.wl l)
  cases H:fy (λx y=>if y<x then y else x) args with
  |none=>rw[H]at h;cases h
  |some w=>rw[H]at h;cases h;rfl
 ·have h:(fy (λx y=>if y >x then y else x) args).map (·,m)=some (v,m1):=h
  show(fy (λx y=>if y >x then y else x) args).map (·,m.wl l)=some (v,m.wl l)
  cases H:fy (λx y=>if y >x then y else x) args with
  |none=>rw[H]at h;cases h
  |some w=>rw[H]at h;cases h;rfl
noncomputable section
def Gb:Bt->Nat->KT
 |[],_=> .e
 |v::H,i=>(Gb H (i+1)).set i (.v v)
def M3(E:Env)(K:KT)(m:M):List ResultVar->(Bt->Prop)->Prop
 |[],f=>f []
 |.tmp t::rs,f=>ai (match K.get t with |some k=>some k.val |none=>none) λv=>M3 E K m rs λH=>f (v::H)
 |.cell a t::rs,f=>ai (match K.get a with |some k=>some k.val |none=>none) λa=>ai (ah E m t a) λv=>M3 E K m rs λH=>f (v::H)
def bh:Bt->Φ
 |[v]=>v
 |H=> .tuple H.toArray
def post(E:Env)(rs:List ResultVar)(R:Bt->M->Nat->Prop):Ex->St->Prop:=λe s=>match e with
 |.exit _=>False
 |_=>M3 E s.K s.m rs λH=>R H s.m s.lo
def Sq(rs:List ResultVar):List Nat:=rs.map λ|.tmp t=>t |.cell a _=>a
def WA(E:Env)(W:Words)(rd:List Nat)(fn:Func)(args:Bt)(m:M)(R:Bt->M->Nat->Prop):Prop:=
 match fn.body with
 |some body=>Be E W body rd ⟨Gb args 0,m,m.n⟩ (post E fn.results.toList R)
 |none=>False
def dP(E:Env)(W:Words)(fn:Func)(args:Bt)(m:M)(R:Bt->M->Nat->Prop):Prop:=WA E W (Sq fn.results.toList) fn args m R
def dk(E:Env)(W:Words)(fn:Func)(args:Bt)(m:M)(R:Bt->M->Nat->Prop):Prop:=WA E W (jjN::Sq fn.results.toList) fn args m R
end
end
end
section
section
variable {E:Env} {X:aK}
theorem KK{o:Op}{br:Bool}{T:Tr Φ}{m:M}{lo:Nat}{P:Φ->M->Nat->Prop}{v:Φ}{m1:M}{f:M->Option (Φ×M)}
  (H:∀n m,ew o E (cC E X n) T m=f m) (hl:cG m f) (h1:f (m.wl m.n)=some (v,m1)) (hP:S0 br (m.n<=m1.low) (P v m1 (min lo m1.low))):S3 E X o br T m lo P:=by have⟨hc,hP⟩:=tB.1 hP;refine⟨v,m1,m1.low,hP,hl.Lc _ h1,hc,0,λn _ l a0=>?_⟩;rw[H,hl.eq l a0,h1];rfl
theorem aes{o:Op}{br:Bool}{K:KT}{T:Tr Φ}{m:M}{lo:Nat}{P:Φ->M->Nat->Prop}(h:Y2 E (aL E X) o br K m lo P)(hk:Kn K T)(a0:lo<=m.n):S3 E X o br T m lo P:=by
 cases o <;>dsimp only[Y2]at h
 case move x=>have⟨x',hx,h⟩:=bK.1 h;exact .aV a0 h λn l=>by simp only[ew,BC,bO hk hx]
 case assign x=>have⟨x',hx,h⟩:=bK.1 h;exact .aV a0 h λn l=>by simp only[ew,BC,bO hk hx]
 case pick c a b=>
  have⟨c',hc,h⟩:=bK.1 h;obtain⟨q,rfl,h⟩:=Ce.1 h;cases q with
  |true=>have⟨x',hx,h⟩:=bK.1 h;exact .aV a0 h λn l=>by simp only[ew,rq,bO hk hc,bO hk hx,cond_true]
  |false=>have⟨x',hx,h⟩:=bK.1 h;exact .aV a0 h λn l=>by simp only[ew,rq,bO hk hc,bO hk hx,T4]
 case alloc t=>have⟨z,hz,h⟩:=bK.1 h;exact .push a0 h (Pz _) λn l=>by simp only[ew,wV,hz];rfl
 case box t x=>have⟨x',hx,h⟩:=bK.1 h;exact .push a0 h (Pz _) λn l=>by simp only[ew,SB,bO hk hx];rfl
 case build t ps=>have⟨g0,hp,h⟩:=bK.1 h;have⟨v,H,h⟩:=bK.1 h;exact .aV a0 h λn l=>by simp only[ew,sQ,rK hk hp,H]
 case buildSlice t k ps=>have⟨g0,hp,h⟩:=bK.1 h;have⟨v,m1,H,h⟩:=qf.1 h;exact .push a0 h (pS H 0).2 λn l=>by simp only[ew,nD,rK hk hp,(pS H l).1]
 case insert t x k y=>
  have⟨x',hx,h⟩:=bK.1 h;have⟨k',b0,h⟩:=bK.1 h;have⟨y',hy,h⟩:=bK.1 h;have⟨m1,b,H,hQ⟩:=qf.1 h;have⟨hc,hP⟩:=tB.1 hQ;unfold iE at H;split at H
  ·rename_i r;split at H;·rename_i m2 hu;cases H;refine⟨undef,m1,b,hP,by rw[(jh hu 0).2];exact Ox _,hc,0,λn _ l hl=>?_⟩;simp only[ew,eW,bO hk hx,bO hk b0,bO hk hy,(jh hu l).1]
   cases H
  cases H
 case load t a=>
  have⟨a',ha,h⟩:=bK.1 h;have⟨v,H,hP⟩:=bK.1 h;unfold ah at H;split at H;·exact .aV a0 hP λn l=>by simp only[ew,BD,bO hk ha,yA,H]
  cases H
 case store t a x=>
  have⟨a',ha,h⟩:=bK.1 h;have⟨x',hx,h⟩:=bK.1 h;have⟨m1,b,H,hQ⟩:=qf.1 h;have⟨hc,hP⟩:=tB.1 hQ;unfold aD at H;split at H
  ·rename_i ad _;split at H;·rename_i m2 hu;cases H;refine⟨undef,m1,ad.block,hP,by rw[(vr hu 0).2];exact Ox _,hc,0,λn _ l hl=>?_⟩;simp only[ew,wU,bO hk ha,bO hk hx,(vr hu l).1]
   cases H
  cases H
 case nilCheck x=>
  have⟨x',hx,h⟩:=bK.1 h;have⟨v,H,h⟩:=bK.1 h;unfold eS at H;split at H;·cases H;exact .aV a0 h λn l=>by simp only[ew,gW,bO hk hx]
  ·cases H;exact .aV a0 h λn l=>by simp only[ew,gW,bO hk hx]
  cases H
 case binOp op t x y _=>have⟨x',hx,h⟩:=bK.1 h;have⟨y',hy,h⟩:=bK.1 h;have⟨v,H,h⟩:=bK.1 h;exact .aV a0 h λn l=>by simp only[ew,DB,bO hk hx,bO hk hy,H]
 case unOp op t x=>have⟨x',hx,h⟩:=bK.1 h;have⟨v,H,h⟩:=bK.1 h;exact .aV a0 h λn l=>by simp only[ew,Nr,bO hk hx,H]
 case convert s d x=>have⟨x',hx,h⟩:=bK.1 h;have⟨v,H,h⟩:=bK.1 h;exact .aV a0 h λn l=>by simp only[ew,FB,bO hk hx,V1,H]
 case makeFunc f a b=>
  have⟨a',ha,h⟩:=bK.1 h;have⟨b',hb,h⟩:=bK.1 h;split at h;·exact .aV a0 h λn l=>by simp only[ew,iR,lE hk ha,lE hk hb]
  exact h.elim
 case makeMap t r=>
  cases r with
  |none=>exact .push (m1:=m.push (.map [] 0)) a0 h (Pz _) λn l=>by simp only[ew,qe];rfl
  |some r=>exact h.elim
 case slice t x a b c=>have⟨x',hx,h⟩:=bK.1 h;have⟨a',ha,h⟩:=bK.1 h;have⟨b',hb,h⟩:=bK.1 h;have⟨c',hc,h⟩:=bK.1 h;have⟨v,H,h⟩:=bK.1 h;exact .aV a0 h λn l=>by simp only[ew,BB,bO hk hx,uR hk ha,uR hk hb,uR hk hc,abY,H]
 case fieldAddr s x f=>have⟨x',hx,h⟩:=bK.1 h;have⟨v,H,h⟩:=bK.1 h;exact .aV a0 h λn l=>by simp only[ew,js,bO hk hx,H]
 case indexAddr t x i=>have⟨x',hx,h⟩:=bK.1 h;have⟨i',hi,h⟩:=bK.1 h;have⟨v,H,h⟩:=bK.1 h;exact .aV a0 h λn l=>by simp only[ew,jr,bO hk hx,bO hk hi,H]
 case index t x i=>have⟨x',hx,h⟩:=bK.1 h;have⟨i',hi,h⟩:=bK.1 h;have⟨v,H,h⟩:=bK.1 h;exact .aV a0 h λn l=>by simp only[ew,sP,bO hk hx,bO hk hi,H]
 case lookup t x i ok=>have⟨x',hx,h⟩:=bK.1 h;have⟨i',hi,h⟩:=bK.1 h;have⟨v,H,h⟩:=bK.1 h;exact .aV a0 h λn l=>by simp only[ew,yq,bO hk hx,bO hk hi,adM,H]
 case mapUpdate t x k y=>
  have⟨x',hx,h⟩:=bK.1 h;have⟨k',b0,h⟩:=bK.1 h;have⟨y',hy,h⟩:=bK.1 h;have⟨m1,b,H,hQ⟩:=qf.1 h;have⟨hc,hP⟩:=tB.1 hQ;unfold iE at H;split at H
  ·rename_i r;split at H;·rename_i m2 hu;cases H;refine⟨undef,m1,b,hP,by rw[(jh hu 0).2];exact Ox _,hc,0,λn _ l hl=>?_⟩;simp only[ew,eW,bO hk hx,bO hk b0,bO hk hy,(jh hu l).1]
   cases H
  cases H
 case extract x i=>
  have⟨x',hx,h⟩:=bK.1 h;have⟨v,H,hP⟩:=bK.1 h;unfold bB at H;split at H;·exact .aV a0 hP λn l=>by simp only[ew,kF,bO hk hx,H]
  cases H
 case call c=>
  split at h;·rename_i f hf;have⟨f',h1,h⟩:=bK.1 h;obtain⟨g,fi,ca,rfl,h⟩:=DE.1 h;have⟨args,h2,v,m1,b,⟨d0,_,n0,hc⟩,h⟩:=bK.1 h;have⟨i0,hP⟩:=tB.1 h;refine⟨v,m1,b,hP,d0,i0,n0,λn hn l hl=>?_⟩;simp only[ew,uz,hf,bO hk h1,lE hk h2,hc n hn l hl]
  ·rename_i b hb;have⟨args,h2,h⟩:=bK.1 h;have e0:∀n m,ew (.call c) E (cC E X n) T m=av E m b c.argTypes.toList args:=λn m=>by simp only[ew,uz,hb,lE hk h2]
   have aV:(b=.len\/b=.min\/b=.max)->(aO (av E m b c.argTypes.toList args) λv _=>P v m lo)->S3 E X (.call c) br T m lo P:=λj0 h=>by have⟨v,m1,H,h⟩:=qf.1 h;exact .aV a0 h λn l=>by rw[e0];exact zK j0 H l
   have gen:(aO (av E (m.wl m.n) b c.argTypes.toList args) λv m1=>S0 br (m.n<=m1.low) (P v m1 (min lo m1.low)))->S3 E X (.call c) br T m lo P:=λh=>by have⟨v,m1,H,h⟩:=qf.1 h;exact KK e0 Cx H h
   unfold WM at h;split at h;·exact aV (.inl rfl) h
   ·exact aV (.inr (.inl rfl)) h
   ·exact aV (.inr (.inr rfl)) h
   exact gen h
  exact h.elim
 all_goals exact h.elim
theorem wH{ops:Array Oper}{T:Tr Φ}{o:Oper}{b:Bool}(h:dq ops T o=b){m:M}:dq ops (Fr.T ⟨T,m⟩) o=b:=h
theorem CV{ops:Array Oper}{K:KT}{T:Tr Φ}{o:Oper}{P S:KT->Prop}(h:Lv ops K o P S)(hk:Kn K T):∃K',Kn K' T/\((dq ops T o/\P K')\/(dq ops T o=false/\S K')):=by
 unfold Lv at h;unfold dq;split at h;·grind
 rename_i j want hg;rw[hg];dsimp only;split at h
 ·rename_i d hd;rw[hd];dsimp only;split at h
  ·rename_i v hv;obtain⟨b,rfl,h⟩:=Ce.1 h;have e:qB T d=.bool b:=by simp only[qB,hk d _ hv,VZ,KV.val]
   rw[e];have H:=hk.again hv;cases b with
   |true=>
    cases want with
    |true=>exact⟨_,H,.inl ⟨rfl,h⟩⟩
    |false=>exact⟨_,H,.inr ⟨rfl,h⟩⟩
   |false=>
    cases want with
    |true=>exact⟨_,H,.inr ⟨rfl,h⟩⟩
    |false=>exact⟨_,H,.inl ⟨rfl,h⟩⟩
  ·rename_i hv;have e:qB T d=undef:=by simp only[qB,hk d _ hv,VZ,KV.val]
   rw[e];exact⟨K,hk,.inr ⟨rfl,h⟩⟩
  ·grind
 ·grind
theorem re{d:Bool}{ops:Array Oper}:∀(l:List Oper) (j:Nat) (s:St) (P:St->Prop),Lx E (aL E X) d ops l j s P->∀T,Kn s.K T->s.lo<=s.m.n->
  ∃s' T',P s'/\Kn s'.K T'/\s.m.n<=s'.m.n/\s'.lo<=s'.m.n/\∃n0,∀n,n0<=n->(bif d then oH E (cC E X n) ops l j ⟨T,s.m.wl s.lo⟩else zD E (cC E X n) ops l ⟨T,s.m.wl s.lo⟩)=some ⟨T',s'.m.wl s'.lo⟩
 |[],j,s,P,h,T,hk,a0=>⟨s,T,h,hk,Ox _,a0,0,λn _=>by cases d <;>rfl⟩
 |o::rest,j,s,P,h,T,hk,a0=>by
  unfold Lx at h;obtain⟨K1,hk,⟨hw,h⟩|⟨hw,h⟩⟩:=CV h hk
  ·have⟨v,m1,w,d0,l0,j0,n1,i0⟩:=aes h hk a0;obtain⟨s',T',hP,e0,H,b0,n2,hr⟩:=re rest (j+1) _ P d0 (put T o.dst v) (hk.put _ (.v v)) (by show min s.lo w<=m1.n;omega);dsimp only at H hr;refine⟨s',T',hP,e0,by omega,b0,max n1 n2,λn hn=>?_⟩;have e2:=hr n (by omega);cases d with
   |false=>
    rw[T4]at e2⊢;rw[mT,wH hw];dsimp only[cond_true];rw[i0 n (by omega) s.lo a0];exact e2
   |true=>
    rw[cond_true]at e2⊢;rw[lH,wH hw];dsimp only[cond_true];have k0:ew o.op E (cC E X n) T {s.m.wl s.lo with low:=(s.m.wl s.lo).n}=some (v,m1.wl (min s.m.n w)):=i0 n (by omega) s.m.n (Ox _);rw[k0];dsimp only;have g0:(Nat.ble (s.m.wl s.lo).n (m1.wl (min s.m.n w)).low ||gR ops j):=by
     cases hb:gR ops j with
     |true=>rw[Bool.or_true]
     |false=>
      have:=j0 (by rw[hb];rfl);have:Nat.ble (s.m.wl s.lo).n (m1.wl (min s.m.n w)).low:=Cc (by show s.m.n<=min s.m.n w;omega);rw[this];rfl
    rw[g0];have e3:m1.wl (min s.lo w)={m1.wl (min s.m.n w)with low:=min (s.m.wl s.lo).low (m1.wl (min s.m.n w)).low}:=by
     show m1.wl (min s.lo w)=m1.wl (min s.lo (min s.m.n w));congr 1;omega
    rw[e3]at e2;exact e2
  ·obtain⟨s',T',hP,e0,H,b0,n2,hr⟩:=re rest (j+1) _ P h (put T o.dst undef) (hk.put _ .u) a0;refine⟨s',T',hP,e0,H,b0,n2,λn hn=>?_⟩;have e2:=hr n hn;cases d with
   |false=>
    rw[T4]at e2⊢;rw[mT,wH hw];exact e2
   |true=>
    rw[cond_true]at e2⊢;rw[lH,wH hw];exact e2
theorem V.mono{c:Code}{s:St}{Q R:Ex->St->Prop}(h:V E X c s Q)(hq:∀e s,Q e s->R e s):V E X c s R:=λT hk H=>by
 have⟨e,s',T',h1,h2⟩:=h T hk H;exact⟨e,s',T',hq _ _ h1,h2⟩
theorem V.seq{a b:Code}{s:St}{Q:Ex->St->Prop}(h:V E X a s λe s=>e.SC (V E X b s Q) (Q e s)):V E X (.seq a b) s Q:=λT hk g0=>by
 have⟨e,s1,T1,h1,a0,d0,H,n1,b0⟩:=h T hk g0;cases e with
 |normal=>
  have⟨e,s2,T2,h2,i0,k0,e0,n2,j0⟩:=h1 T1 a0 H;exact⟨e,s2,T2,h2,i0,by omega,e0,max n1 n2,λn hn=>by simp only[bQ,b0 n (by omega),j0 n (by omega)]⟩
 |exit id=>exact⟨_,s1,T1,h1,a0,d0,H,n1,λn hn=>by simp only[bQ,b0 n hn]⟩
 |ret=>exact⟨_,s1,T1,h1,a0,d0,H,n1,λn hn=>by simp only[bQ,b0 n hn]⟩
theorem V.Xb{c:Code}{s:St}{Q:Ex->St->Prop}{γ:Type}(μ:γ->Nat)(A:γ->Tr Φ->M->Nat->Prop)(g0:γ)
  (h0:∀T,Kn s.K T->A g0 T s.m s.lo)
  (b0:∀g T m lo,A g T m lo->lo<=m.n->∃e s' T',(e.SC (∃g',μ g'<μ g/\A g' T' s'.m s'.lo) (Q e s'))/\Kn s'.K T'/\m.n<=s'.m.n/\s'.lo<=s'.m.n/\∃n0,∀n,n0<=n->
   bQ E (cC E X n) n c ⟨T,m.wl lo⟩=some (e,⟨T',s'.m.wl s'.lo⟩)):
  V E X (.loop c) s Q:=by
 have key:∀k g,μ g<=k->∀T m lo,A g T m lo->lo<=m.n->∃e s' T',Q e s'/\Kn s'.K T'/\m.n<=s'.m.n/\s'.lo<=s'.m.n/\∃n0,∀n,n0<=n->∀j,k+1<=j->
   ia (bQ E (cC E X n) n c) j ⟨T,m.wl lo⟩=some (e,⟨T',s'.m.wl s'.lo⟩):=by
  intro k;induction k with
  |zero=>
   intro g hg T m lo hA d0;have⟨e,s1,T1,hQ,e0,a0,H,n1,hr⟩:=b0 g T m lo hA d0;cases e with
   |normal=>have⟨g',k0,_⟩:=hQ;omega
   |exit id=>exact⟨_,s1,T1,hQ,e0,a0,H,n1,λn hn j hj=>by
    obtain⟨j,rfl⟩:∃j',j=j'+1:=⟨j-1,by omega⟩
    simp only[ia,hr n hn]⟩
   |ret=>exact⟨_,s1,T1,hQ,e0,a0,H,n1,λn hn j hj=>by
    obtain⟨j,rfl⟩:∃j',j=j'+1:=⟨j-1,by omega⟩
    simp only[ia,hr n hn]⟩
  |succ k ih=>
   intro g hg T m lo hA d0;have⟨e,s1,T1,hQ,e0,a0,H,n1,hr⟩:=b0 g T m lo hA d0;cases e with
   |normal=>
    have⟨g',k0,l0⟩:=hQ;obtain⟨e,s2,T2,m0,o0,p0,i0,n2,q0⟩:=ih g' (by omega) T1 s1.m s1.lo l0 H;refine⟨e,s2,T2,m0,o0,YB a0 p0,i0,max n1 n2,λn hn j hj=>?_⟩;obtain⟨j,rfl⟩:∃j',j=j'+1:=⟨j-1,by omega⟩
    simp only[ia,hr n (by omega),q0 n (by omega) j (by omega)]
   |exit id=>exact⟨_,s1,T1,hQ,e0,a0,H,n1,λn hn j hj=>by
    obtain⟨j,rfl⟩:∃j',j=j'+1:=⟨j-1,by omega⟩
    simp only[ia,hr n hn]⟩
   |ret=>exact⟨_,s1,T1,hQ,e0,a0,H,n1,λn hn j hj=>by
    obtain⟨j,rfl⟩:∃j',j=j'+1:=⟨j-1,by omega⟩
    simp only[ia,hr n hn]⟩
 intro T hk d0;obtain⟨e,s',T',hQ,r0,hn,j0,n0,hr⟩:=key (μ g0) g0 (Ox _) T s.m s.lo (h0 T hk) d0;exact⟨e,s',T',hQ,r0,hn,j0,max n0 (μ g0+1),λn hn=>by simp only[bQ,hr n (by omega) n (by omega)]⟩
theorem qc(T:Tr Φ)(dst:Option Tmp)(v:Φ)(t:Nat)(h:∀d,dst=some d->d≠t):(put T dst v).get t=T.get t:=by
 cases dst with
 |none=>rfl
 |some d=>simp only[put,Tr.cj];rw[QL (λe=>h d rfl e.symm)]
theorem rp{call:aK}{ops:Array Oper}{t:Nat}:∀(l:List Oper) (fr H:Fr),zD E call ops l fr=some H->(∀o∈l,∀d,o.dst=some d->d≠t)->H.T.get t=fr.T.get t
 |[],fr,H,h,_=>by cases h;rfl
 |o::rest,fr,H,h,hd=>by
  have hr:=λo' a0=>hd o' (W6 _ a0);have h0:=hd o zN;rw[mT]at h;cases hw:dq ops fr.T o with
  |true=>
   rw[hw,cond_true]at h;split at h;·rw[rp rest _ _ h hr];exact qc _ _ _ _ h0
   ·cases h
  |false=>
   rw[hw,T4]at h;rw[rp rest _ _ h hr];exact qc _ _ _ _ h0
theorem pK{call:aK}{ops:Array Oper}{t:Nat}:∀(l:List Oper) (j:Nat) (fr H:Fr),oH E call ops l j fr=some H->(∀o∈l,∀d,o.dst=some d->d≠t)->H.T.get t=fr.T.get t
 |[],j,fr,H,h,_=>by cases h;rfl
 |o::rest,j,fr,H,h,hd=>by
  have hr:=λo' a0=>hd o' (W6 _ a0);have h0:=hd o zN;rw[lH]at h;cases hw:dq ops fr.T o with
  |true=>
   rw[hw,cond_true]at h;split at h
   ·rename_i v m _;cases hb:(Nat.ble fr.m.n m.low ||gR ops j)with
    |true=>
     rw[hb,cond_true]at h;rw[pK rest _ _ _ h hr];exact qc _ _ _ _ h0
    |false=>rw[hb,T4]at h;cases h
   ·cases h
  |false=>
   rw[hw,T4]at h;rw[pK rest _ _ _ h hr];exact qc _ _ _ _ h0
theorem vE{body:Fr->Option (Ex×Fr)}{t:Nat}(hb:∀fr e H,body fr=some (e,H)->H.T.get t=fr.T.get t):∀(n:Nat) (fr:Fr) (e:Ex) (H:Fr),ia body n fr=some (e,H)->H.T.get t=fr.T.get t
 |0,_,_,_,h=>by cases h
 |n+1,fr,e,H,h=>by
  unfold ia at h;split at h
  ·rename_i a0 h1;rw[vE hb n _ _ _ h,hb _ _ _ h1]
  ·grind
theorem dH{call:aK}{n t:Nat}:∀(c:Code) (fr:Fr) (e:Ex) (H:Fr),bQ E call n c fr=some (e,H)->t∉assigned c->H.T.get t=fr.T.get t
 |.skip,fr,e,H,h,_=>by cases h;rfl
 |.label _,fr,e,H,h,_=>by cases h;rfl
 |.exit id,fr,e,H,h,_=>by cases h;rfl
 |.ret,fr,e,H,h,_=>by cases h;rfl
 |.goto _,fr,e,H,h,_=>by cases h
 |.refuse _,fr,e,H,h,_=>by cases h
 |.scope c,fr,e,H,h,ht=>by
  simp only[bQ]at h;exact dH c _ _ _ h ht
 |.region id ops d,fr,e,H,h,ht=>by
  have hd:∀o∈ops.toList,∀d,o.dst=some d->d≠t:=λo ho d hd he=>ht (Po.2 ⟨o,ho,by rw[hd,he]⟩);cases d with
  |true=>
   simp only[bQ,cond_true]at h;cases hq:oH E call ops ops.toList 0 fr with
   |none=>rw[hq]at h;cases h
   |some a0=>rw[hq]at h;cases h;exact pK _ _ _ _ hq hd
  |false=>
   simp only[bQ,T4]at h;cases hq:zD E call ops ops.toList fr with
   |none=>rw[hq]at h;cases h
   |some a0=>rw[hq]at h;cases h;exact rp _ _ _ hq hd
 |.seq a b,fr,e,H,h,ht=>by
  simp only[assigned,OH,not_or]at ht;simp only[bQ]at h;split at h
  ·rename_i a0 h1;rw[dH b _ _ _ h ht.2,dH a _ _ _ h1 ht.1]
  ·exact dH a _ _ _ h ht.1
 |.cond c x y,fr,e,H,h,ht=>by
  simp only[assigned,OH,not_or]at ht;simp only[bQ]at h;split at h
  ·rename_i b _;cases b with
   |true=>exact dH x _ _ _ h ht.1
   |false=>exact dH y _ _ _ h ht.2
  ·cases h
 |.block id c,fr,e,H,h,ht=>by
  simp only[bQ]at h;split at h
  ·rename_i b0 a0 h1;have:=dH c _ _ _ h1 ht;cases hb:Nat.beq b0 id with
   |true=>rw[hb]at h;cases h;exact this
   |false=>rw[hb]at h;cases h;exact this
  ·exact dH c _ _ _ h ht
 |.loop c,fr,e,H,h,ht=>by
  simp only[bQ]at h;exact vE (λfr e H h=>dH c fr e H h ht) _ _ _ _ h
 |.rangeFunc g ps a b,fr,e,H,h,ht=>by
  simp only[bQ]at h;grind
theorem lB:∀(ts:List Nat) (K:KT) {t:Nat} {k:KV},(forget K ts).get t=some k->t∉ts/\K.get t=some k
 |[],K,t,k,h=>⟨by simp,h⟩
 |a::ts,K,t,k,h=>by
  have⟨h1,H⟩:=lB ts (K.del a) h;rw[KT.Rv]at H;grind
end
end
section
section
variable {E:Env} {X:aK}
def TV(T:Tr Φ):List Nat->Bt->Prop
 |[],_=>True
 |t::ts,H=>match H with
  |v::r=>T.get t=some v/\TV T ts r
  |[]=>False
theorem rS{T:Tr Φ}:∀(ts:List Nat) (vs:Bt) (K:KT) (f:KT->Prop),Kn K T->TV T ts vs->Ew (aL E X) ts vs K f->∃H,Kn H T/\f H
 |[],_,K,f,hk,_,h=>⟨K,hk,h⟩
 |t::ts,vs,K,f,hk,hv,h=>by
  unfold Ew at h;obtain⟨v,r,rfl,h⟩:=LB.1 h;exact rS ts r _ f (hk.set hv.1) hv.2 h
theorem pY{K:KT}{T:Tr Φ}(hk:Kn K T):∀(ts:List Nat) (vs:Bt),tR K ts=some vs->TV T ts vs
 |[],_,_=>trivial
 |t::ts,vs,h=>by
  unfold tR at h;split at h
  ·rename_i v hv;split at h
   ·rename_i H a0;cases h;exact⟨hk _ _ hv,pY hk ts H a0⟩
   ·cases h
  ·cases h
theorem Af{T:Tr Φ}:∀(ps:List Tmp) (args:Bt) (K:KT) (f:KT->Prop) (T:Tr Φ),Kn K T->Ip (aL E X) ps args K f->args.length=ps.length/\∃H,Kn H (ua T (ps.zip args))/\f H
 |[],args,K,f,T,hk,h=>by
  cases args with
  |nil=>exact⟨rfl,K,hk,h⟩
  |cons v r=>exact(h:False).elim
 |p::ps,args,K,f,T,hk,h=>by
  obtain⟨v,r,rfl,h⟩:=LB.1 h;obtain⟨h1,h2⟩:=Af (T:=T) ps r _ f (T.set p v) (hk.put (some p) (.v v)) h;exact⟨by simp[h1],h2⟩
theorem V.rangeFunc{gv:Operand}{ps:Array Tmp}{a b:Code}{s:St}{Q:Ex->St->Prop}{z0 A0:List Nat}{gf:Fn}{fi ca:Array Φ}(ha:∀s Q,Be E (aL E X) a z0 s Q->V E X a s Q)(hb:∀s Q,Be E (aL E X) b A0 s Q->V E X b s Q)
  (hf:oN s.K gv=some (.func gf fi ca))
  (h:RF E X gf fi.toList ca.toList s.m s.lo (λargs m1 Qb=>Ip (aL E X) ps.toList args s.K λK1=>Be E (aL E X) a z0 ⟨K1,m1,m1.n⟩ λe s1=>e.SC (P7 s.m.n m1 s1.m λm2=>Be E (aL E X) b A0 ⟨s1.K,m2,min s1.lo s.m.n⟩ λe2 s2=>Qb m2 e2 s2.m s2.lo) False) (λm lo=>Q .normal ⟨s.K,m,lo⟩) ((leaves b).map λe=>(e,λm lo=>Q e ⟨s.K,m,lo⟩))):V E X (.rangeFunc gv ps a b) s Q:=λT hk d1=>by
 obtain⟨fr,xs,Dt,I,J,B,⟨fk,rfl⟩,hG,hB,hD,hI,hJ,h0,o0,p0,q0⟩:=h;have hy:(s.m.push (.loop ⟨T,ps,a,b,.ready,none,E.G⟩)).get s.m.n=.loop ⟨T,ps,a,b,.ready,none,E.G⟩:=by rw[M.lA,Tf rfl]
 have r0:Ky s.m.n s.m (s.m.push (.loop ⟨T,ps,a,b,.ready,none,E.G⟩)):=⟨Pz _,λc hc _=>by rw[M.lA,QL (by omega)]⟩
 have H:∀(m:M) (r:zx),s.m.n<m.n->Ky s.m.n m (m.set s.m.n (.loop r)):=λm r hm=>⟨Ox _,λc _ s0=>by rw[M.cj _ _ _ _ hm,QL s0]⟩
 have⟨vG,mG,bG,G0,g1,B0⟩:=hG s.m.n (s.m.n+1) B (λi m=>I i m/\m.get s.m.n=.loop ⟨T,ps,a,b,.ready,none,E.G⟩) (λm=>∃e:Ex,e≠Ex.normal/\J e m/\m.get s.m.n=.loop ⟨T,ps,a,b,.done,some e,E.G⟩) (s.m.push (.loop ⟨T,ps,a,b,.ready,none,E.G⟩)) (λi m1 h=>hD i m1 h.1) (λi m1 m2 h he=>⟨hI i m1 m2 h.1 ⟨he.n,λc hc _=>he.get c hc⟩,by rw[he.get _ (M.jN (by rw[h.2];simp)),h.2]⟩)
  (λm1 m2 ⟨e,h1,h2,h3⟩ he=>⟨e,h1,hJ e m1 m2 h2 ⟨he.n,λc hc _=>he.get c hc⟩,by rw[he.get _ (M.jN (by rw[h3];simp)),h3]⟩)
  (OS _) (Ox _) (by omega)
  (λi args mm H0 hx ⟨hi,l0⟩=>by
   obtain⟨hlen,K1,I0,hv⟩:=Af (T:=T) _ _ _ _ T hk (o0 i args mm H0 hx hi);obtain⟨e1,s1,T1,u0,C0,D0,a1,n1,J0⟩:=ha _ _ hv _ I0 (Ox _);cases e1 with
   |exit id=>exact u0.elim
   |ret=>exact u0.elim
   |normal=>
    have⟨e0,hP⟩:=u0;have g0:s1.m.get s.m.n=.loop ⟨T,ps,a,b,.ready,none,E.G⟩:=by rw[e0 _ (Ox _) (by omega),l0]
    have i0:s.m.n<s1.m.n:=M.jN (by rw[g0];simp);have K0:=hP (s1.m.set s.m.n (.loop ⟨T,ps,a,b,.busy,none,E.G⟩)) rfl (λc hc=>by rw[M.cj _ _ _ _ i0,QL hc]);obtain⟨e2,s2,T2,⟨i1,m0,v0⟩,b1,E0,c1,n2,L0⟩:=hb _ _ K0 T1 C0 (by show min s1.lo s.m.n<=s1.m.n;omega);have j0:s2.m.get s.m.n=.loop ⟨T,ps,a,b,.busy,none,E.G⟩:=by
     have h:=m0 _ (Ox _) (by omega);rw[show s2.m.get s.m.n=_ from(match fr,h with |.ob _,h=>h (.inl rfl) |.own _,h=>h.2.1 rfl),M.cj _ _ _ _ i0,Tf rfl]
    have a0:s.m.n<s2.m.n:=M.jN (by rw[j0];simp);have E0:s1.m.n<=s2.m.n:=E0;have D0:mm.n<=s1.m.n:=D0;have b0:∀(st:LoopState) (pe:Option Ex) (v:Φ),(match e2 with
       |.normal=>(v,st,pe)=(Ku,.ready,none)
       |e=>(v,st,pe)=(Zf,.done,some e))->
      Cl E X (.yield s.m.n) args mm (min s2.lo s.m.n) v (s2.m.set s.m.n (.loop ⟨T,ps,a,b,st,pe,E.G⟩)):=by
     intro st pe v hv;refine⟨by show mm.n<=s2.m.n;omega,by omega,max n1 n2+1,λn hn l hl=>?_⟩;obtain⟨k,rfl⟩:∃k,n=k+1:=⟨n-1,by omega⟩
     have e1:=J0 k (by omega);have y0:=L0 k (by omega);have F0:(Nat.beq args.length ps.size && Nat.beq E.G E.G):=by
      have:args.length=ps.size:=by simpa using hlen
      rw[this,QO,QO];rfl
     simp only[cC,ud];rw[M.eL,l0];dsimp only;rw[F0];simp only[cond_true];have e1:bQ E (cC E X k) k a {T:=ua T (ps.toList.zip args),m:={mm.wl l with low:=(mm.wl l).n}}=some (.normal,⟨T1,s1.m.wl s1.lo⟩):=e1;rw[e1];dsimp only;rw[M.eL,g0];dsimp only;have y0:bQ E (cC E X k) k b {T:=T1,m:=(s1.m.wl s1.lo).set s.m.n (.loop ⟨T,ps,a,b,.busy,none,E.G⟩)}=some (e2,⟨T2,s2.m.wl s2.lo⟩):=y0;rw[y0];dsimp only;rw[M.eL,j0];dsimp only;cases e2 with
     |normal=>cases hv;rfl
     |exit id=>cases hv;rfl
     |ret=>cases hv;rfl
    have d0:∀(r:zx) c,s.m.n+1<=c->c<mm.n->fr.gen mm (s2.m.set s.m.n (.loop r)) c:=λr c h1 h2=>by
     have h:=m0 c (by omega) h2;have e2:(s2.m.set s.m.n (.loop r)).get c=s2.m.get c:=by rw[M.cj _ _ _ _ a0,QL (by omega)]
     have e1:(s1.m.set s.m.n (.loop ⟨T,ps,a,b,.busy,none,E.G⟩)).get c=mm.get c:=by rw[M.cj _ _ _ _ i0,QL (by omega),e0 c (by omega) h2]
     match fr,h with
     |.ob φ,h=>exact λh3=>by rw[e2,h (.inr (by rw[e1];exact h3)),e1]
     |.own P,⟨hP,_,h⟩=>
      exact λh3=>⟨by rw[e2,(h h3).1,e1],λv e g hv=>(h h3).2 v e g (by rw[M.cj _ _ _ _ a0,QL (by omega)]at hv;exact hv)⟩
    cases e2 with
    |normal=>
     refine⟨Ku,_,_,b0 .ready none _ rfl,by omega,ET _ _,d0 _,.inl ⟨rfl,hI _ _ _ v0 (H _ _ a0),?_⟩⟩;rw[M.cj _ _ _ _ a0,Tf rfl]
    |exit id=>
     refine⟨Zf,_,_,b0 .done (some (.exit id)) _ rfl,by omega,ET _ _,d0 _,.inr ⟨rfl,.exit id,by simp,hJ _ _ _ v0 (H _ _ a0),?_⟩⟩;rw[M.cj _ _ _ _ a0,Tf rfl]
    |ret=>
     refine⟨Zf,_,_,b0 .done (some .ret) _ rfl,by omega,ET _ _,d0 _,.inr ⟨rfl,.ret,by simp,hJ _ _ _ v0 (H _ _ a0),?_⟩⟩;rw[M.cj _ _ _ _ a0,Tf rfl])
  ⟨hI 0 _ _ h0 r0,hy⟩
 have⟨k0,_,n0,eX⟩:=G0;have k0:s.m.n+1<=mG.n:=k0
 have hex:∀(r:zx),mG.get s.m.n=.loop r->r.st≠.busy->∀n,n0<=n->bQ E (cC E X n) n (.rangeFunc gv ps a b) ⟨T,s.m.wl s.lo⟩=
   some (r.sJ.getD .normal,⟨T,(mG.set s.m.n (.loop {r with st:=.exhausted})).wl (min (min s.lo bG) s.m.n)⟩):=by
  intro r hr N0 n hn;have hc:cC E X n (.func fk) (fi.toList++(.func (.yield (s.m.wl s.lo).n) #[] #[]::ca.toList)) ((s.m.wl s.lo).push (.loop ⟨T,ps,a,b,.ready,none,E.G⟩))=some (vG,mG.wl (min s.lo bG)):=eX n hn s.lo (by show s.lo<=s.m.n+1;omega);simp only[bQ];rw[bO hk hf];dsimp only;rw[hc];dsimp only;have O0:(mG.wl (min s.lo bG)).get (s.m.wl s.lo).n=.loop r:=hr;rw[O0];dsimp only;cases hs:r.st with
  |busy=>exact absurd hs N0
  |ready=>rfl
  |done=>rfl
  |exhausted=>rfl
 rcases B0 with⟨hi,hr⟩|⟨e,s0,hj,hr⟩;·refine⟨.normal,⟨s.K,mG.set s.m.n (.loop ⟨T,ps,a,b,.exhausted,none,E.G⟩),min (min s.lo bG) s.m.n⟩,T,p0 _ _ (hI _ _ _ hi (H _ _ k0)) (by omega),hk,by show s.m.n<=mG.n;omega,by show min (min s.lo bG) s.m.n<=mG.n;omega,n0,hex _ hr (by simp)⟩
 ·have P0:Q e ⟨s.K,mG.set s.m.n (.loop ⟨T,ps,a,b,.exhausted,some e,E.G⟩),min (min s.lo bG) s.m.n⟩:=by
   obtain⟨p,hp,he,hq⟩:=q0 _ _ (min (min s.lo bG) s.m.n) s0 (hJ _ _ _ hj (H _ ⟨T,ps,a,b,.exhausted,some e,E.G⟩ k0)) (by omega);obtain⟨e',_,rfl⟩:=LY.1 hp;cases he;exact hq
  refine⟨e,⟨s.K,mG.set s.m.n (.loop ⟨T,ps,a,b,.exhausted,some e,E.G⟩),min (min s.lo bG) s.m.n⟩,T,P0,hk,by show s.m.n<=mG.n;omega,by show min (min s.lo bG) s.m.n<=mG.n;omega,n0,hex _ hr (by simp)⟩
theorem eB:∀(c:Code) (rd:List Nat) (s:St) (Q:Ex->St->Prop),Be E (aL E X) c rd s Q->V E X c s Q
 |.skip,_,s,Q,h=>λT hk H=>⟨_,s,T,h,hk,Ox _,H,0,λn _=>rfl⟩
 |.label _,_,s,Q,h=>λT hk H=>⟨_,s,T,h,hk,Ox _,H,0,λn _=>rfl⟩
 |.exit id,_,s,Q,h=>λT hk H=>⟨_,s,T,h,hk,Ox _,H,0,λn _=>rfl⟩
 |.ret,_,s,Q,h=>λT hk H=>⟨_,s,T,h,hk,Ox _,H,0,λn _=>rfl⟩
 |.region id ops d,_,s,Q,h=>λT hk H=>by
  obtain⟨s',T',hP,b0,hn,a0,n0,hr⟩:=re ops.toList 0 s _ h T hk H;exact⟨_,s',T',hP,b0,hn,a0,n0,λn hn=>by simp only[bQ,hr n hn,TN]⟩
 |.seq a b,rd,s,Q,h=>by
  unfold Be at h;cases hp:Ng rd a b with
  |false=>
   rw[hp,T4]at h;exact V.seq ((eB a _ s _ h).mono λe s' hq=>by
    cases e with
    |normal=>exact eB b rd s' Q hq
    |exit id=>exact hq
    |ret=>exact hq)
  |true=>
   rw[hp,cond_true]at h;have ha:=eB a _ s _ h;intro T hk H;have⟨e,s1,T1,h1,k0,l0,d0,n1,e0⟩:=ha T hk H;cases e with
   |normal=>
    have⟨vs,q0,h1⟩:=bK.1 h1;have i0:Kn (forget s.K (assigned a)) T1:=by
     intro t k ht;have:=dH a _ _ _ (e0 n1 (Ox _)) (lB _ _ ht).1;dsimp only at this;rw[this];exact hk t k (lB _ _ ht).2
    obtain⟨K',b0,m0⟩:=rS _ _ _ _ i0 (pY k0 _ _ q0) h1;obtain⟨e,s2,T2,h2,j0,r0,o0,n2,s0⟩:=eB b rd _ Q m0 T1 b0 d0;exact⟨e,s2,T2,h2,j0,YB l0 r0,o0,max n1 n2,λn hn=>by simp only[bQ,e0 n (by omega),s0 n (by omega)]⟩
   |exit id=>exact⟨_,s1,T1,h1,k0,l0,d0,n1,λn hn=>by simp only[bQ,e0 n hn]⟩
   |ret=>exact⟨_,s1,T1,h1,k0,l0,d0,n1,λn hn=>by simp only[bQ,e0 n hn]⟩
 |.cond c x y,rd,s,Q,h=>λT hk H=>by
  have⟨_,hb,h⟩:=bK.1 h;obtain⟨b,rfl,h⟩:=Ce.1 h;cases b with
  |true=>
   have⟨e,s',T',hP,b0,hn,a0,n0,hr⟩:=eB x rd s Q h T hk H;exact⟨e,s',T',hP,b0,hn,a0,n0,λn hn=>by simp only[bQ,bO hk hb,hr n hn,cond_true]⟩
  |false=>
   have⟨e,s',T',hP,b0,hn,a0,n0,hr⟩:=eB y rd s Q h T hk H;exact⟨e,s',T',hP,b0,hn,a0,n0,λn hn=>by simp only[bQ,bO hk hb,hr n hn,T4]⟩
 |.block id c,rd,s,Q,h=>λT hk H=>by
  obtain⟨e,s',T',hP,b0,hn,a0,n0,hr⟩:=eB c rd s _ h T hk H;refine⟨_,s',T',hP,b0,hn,a0,n0,λn hn=>?_⟩;have e1:=hr n hn;cases e with
  |normal=>simp only[bQ,e1,Ex.Ik]
  |ret=>simp only[bQ,e1,Ex.Ik]
  |exit u0=>simp only[bQ,e1,Ex.Ik];cases Nat.beq u0 id <;>rfl
 |.loop c,rd,s,Q,h=>by
  unfold Be at h;have⟨v0,y0,γ,μ,I,⟨g0,z0⟩,hI⟩:=bK.1 h;refine V.Xb μ (λg T m lo=>∃vs,I g vs m lo/\TV T (carried s.K (assigned c) []) vs/\Kn (forget s.K (assigned c)) T) g0 (λT hk=>⟨v0,z0,pY hk _ _ y0,λt k ht=>hk t k (lB _ _ ht).2⟩) ?_;rintro g T m lo ⟨vs,A0,B0,i0⟩ H;obtain⟨K',b0,m0⟩:=rS _ _ _ _ i0 B0 (hI g vs m lo A0);obtain⟨e,s',T',hQ,j0,hn,a0,n0,hr⟩:=eB c _ _ _ m0 T b0 H;refine⟨e,s',T',?_,j0,hn,a0,n0,hr⟩;cases e with
  |normal=>
   have⟨C0,p0,g',D0,E0⟩:=bK.1 hQ;refine⟨g',D0,C0,E0,pY j0 _ _ p0,?_⟩;intro t k ht;have:=dH c _ _ _ (hr n0 (Ox _)) (lB _ _ ht).1;dsimp only at this;rw[this];exact i0 t k ht
  |exit id=>exact hQ
  |ret=>exact hQ
 |.scope c,rd,s,Q,h=>λT hk H=>by
  have⟨e,s',T',hP,b0,hn,a0,n0,hr⟩:=eB c rd s Q h T hk H;exact⟨e,s',T',hP,b0,hn,a0,n0,λn hn=>by simp only[bQ,hr n hn]⟩
 |.rangeFunc f ps a b,_,s,Q,h=>by
  have⟨_,hf,h⟩:=bK.1 h;obtain⟨gf,fi,ca,rfl,h⟩:=DE.1 h;exact V.rangeFunc (λs Q h=>eB a _ s Q h) (λs Q h=>eB b _ s Q h) hf h
 |.goto l,_,s,Q,h=>h.elim
 |.refuse y,_,s,Q,h=>h.elim
theorem AP:∀(vs:Bt) (i:Nat),Kn (Gb vs i) (enter vs i)
 |[],_=>λ_ _ h=>by cases h
 |v::vs,i=>by
  have:=(AP vs (i+1)).put (some i) (.v v);exact this
theorem rk{K:KT}{T:Tr Φ}(h:Kn K T){m:M}:∀{rs:List ResultVar} {f:Bt->Prop},M3 E K m rs f->∃vs,f vs/\∀l,fR E T (m.wl l) rs=some vs
 |[],f,H=>⟨[],H,λ_=>rfl⟩
 |.tmp t::rs,f,H=>by
  have⟨v,hv,H⟩:=bK.1 H;have⟨vs,hf,a0⟩:=rk h H;refine⟨_,hf,λl=>?_⟩;split at hv
  ·rename_i k hk;cases hv;simp only[fR,kD,qB,h t k hk,VZ,a0]
  ·cases hv
 |.cell a t::rs,f,H=>by
  have⟨p,hp,H⟩:=bK.1 H;have⟨v,hv,H⟩:=bK.1 H;have⟨vs,hf,a0⟩:=rk h H;refine⟨_,hf,λl=>?_⟩;split at hp
  ·rename_i k hk;cases hp;unfold ah at hv;split at hv
   ·rename_i p' a' b0;have e:qB T a=.pointer (some a'):=by simp only[qB,h a _ hk,VZ,b0]
    simp only[fR,kD,e,yA,hv,a0]
   ·cases hv
  ·cases hp
theorem aa3{T:Tr Φ}{m:M}{fn:Func}{vs:Bt}(h:fR E T m fn.results.toList=some vs):result? E fn T m=some (bh vs):=by
 unfold result?;rw[h];match vs with
 |[]=>rfl
 |[v]=>rfl
 |_::_::_=>rfl
def PV(X:aK)(f:Nat):Prop:=∀args m,X (.func f) args m=none
theorem Cl.S2{f:Nat}{fn fn':Func}{args:Bt}{m:M}{rd:List Nat}{R:Bt->M->Nat->Prop}(hX:∀l,X (.func f) args (m.wl l)=none)(hf:E.fn.get f=some fn)(hl:Nat.ble args.length fn.ntmps)
  (d0:fn'.results=fn.results) (hc:∀b',fn'.body=some b'->∃b,fn.body=some b/\∀call n fr r,bQ E call n b' fr=some r->bQ E call n b fr=some r) (h:WA E (aL E X) rd fn' args m R):
  ∃vs m' lo,R vs m' lo/\m.n<=m'.n/\∃n0,∀n,n0<=n->∀l,l<=m.n->
   cC E X n (.func f) args (m.wl l)=some (bif bA (bh vs) && Nat.ble m.n lo then(bh vs,m.wl l)else(bh vs,m'.wl (min l lo))):=by
 unfold WA at h;split at h
 ·rename_i l0 m0;obtain⟨body,hb,e0⟩:=hc _ m0;obtain⟨e,H,T',a0,o0,hn,q0,n0,hr⟩:=eB _ _ _ _ h (enter args 0) (AP _ _) (Ox _);have g0:(∀id,e≠.exit id)/\M3 E H.K H.m fn.results.toList λvs=>R vs H.m H.lo:=by
   rw[d0]at a0;cases e with
   |exit id=>exact a0.elim
   |normal=>exact⟨λ_ h=>(by cases h),a0⟩
   |ret=>exact⟨λ_ h=>(by cases h),a0⟩
  have⟨p0,b0⟩:=g0;have⟨vs,hR,b0⟩:=rk o0 b0;refine⟨vs,H.m,H.lo,hR,hn,n0+1,λn r0 l s0=>?_⟩;obtain⟨n,rfl⟩:∃k,n=k+1:=⟨n-1,by omega⟩
  have i0:bQ E (cC E X n) n body {T:=enter args 0,m:={m.wl l with low:=(m.wl l).n}}=some (e,⟨T',H.m.wl H.lo⟩):=e0 _ _ _ _ (hr n (by omega));have j0:=aa3 (fn:=fn) (b0 H.lo);have k0:X (.func f) args (m.wl l)=none:=hX l
  have fin:(bif bA (bh vs) && Nat.ble (m.wl l).n (H.m.wl H.lo).low then some (bh vs,m.wl l)else some (bh vs,{H.m.wl H.lo with low:=min (m.wl l).low (H.m.wl H.lo).low}))=
    some (bif bA (bh vs) && Nat.ble m.n H.lo then(bh vs,m.wl l)else(bh vs,H.m.wl (min l H.lo))):=by
   cases hc:(bA (bh vs) && Nat.ble m.n H.lo)with
   |true=>have:(bA (bh vs) && Nat.ble (m.wl l).n (H.m.wl H.lo).low):=hc;rw[this];rfl
   |false=>have:(bA (bh vs) && Nat.ble (m.wl l).n (H.m.wl H.lo).low)=false:=hc;rw[this];rfl
  cases e with
  |exit id=>exact(p0 id rfl).elim
  |normal=>simp only[cC,k0,hf,hb,hl,cond_true,i0,j0];exact fin
  |ret=>simp only[cC,k0,hf,hb,hl,cond_true,i0,j0];exact fin
 exact h.elim
theorem Cl.PB{f:Nat}{fn:Func}{args:Bt}{m:M}{rd:List Nat}{R:Bt->M->Nat->Prop}(H:PV X f)(hf:E.fn.get f=some fn)(hl:Nat.ble args.length fn.ntmps)
  (h:WA E (aL E X) rd fn args m R):
  ∃vs m' lo,R vs m' lo/\m.n<=m'.n/\∃n0,∀n,n0<=n->∀l,l<=m.n->
   cC E X n (.func f) args (m.wl l)=some (bif bA (bh vs) && Nat.ble m.n lo then(bh vs,m.wl l)else(bh vs,m'.wl (min l lo))):=
 Cl.S2 (λ_=>H _ _) hf hl rfl (λb h=>⟨b,h,λ_ _ _ _ h=>h⟩) h
theorem Cl.body{f:Nat}{fn:Func}{args:Bt}{m:M}{R:Bt->M->Nat->Prop}(H:PV X f)(hf:E.fn.get f=some fn)(hl:Nat.ble args.length fn.ntmps)
  (h:dP E (aL E X) fn args m R):
  ∃vs m' lo,R vs m' lo/\m.n<=m'.n/\∃n0,∀n,n0<=n->∀l,l<=m.n->
   cC E X n (.func f) args (m.wl l)=some (bif bA (bh vs) && Nat.ble m.n lo then(bh vs,m.wl l)else(bh vs,m'.wl (min l lo))):=Cl.PB H hf hl h
theorem Cl.wW{f:Nat}{args:Bt}{vs:Bt}{m m':M}{lo:Nat}(hn:m.n<=m'.n)(H:bA (bh vs)=false\/lo<m.n)
  (h:∃n0,∀n,n0<=n->∀l,l<=m.n->cC E X n (.func f) args (m.wl l)=some (bif bA (bh vs) && Nat.ble m.n lo then(bh vs,m.wl l)else(bh vs,m'.wl (min l lo)))):Cl E X (.func f) args m (min m.n lo) (bh vs) m':=by
 have⟨n0,h⟩:=h;refine⟨hn,RU _ _,n0,λn hn l hl=>?_⟩;have:(bA (bh vs) && Nat.ble m.n lo)=false:=by
  rcases H with hv|hv;·grind
  ·have:Nat.ble m.n lo=false:=by
    cases H:Nat.ble m.n lo with
    |false=>rfl
    |true=>have:=JO H;omega
   grind
 grind
theorem Cl.of_flat{f:Nat}{args:Bt}{vs:Bt}{m m':M}{lo:Nat}(hv:bA (bh vs))(H:m.n<=lo)
  (h:∃n0,∀n,n0<=n->∀l,l<=m.n->cC E X n (.func f) args (m.wl l)=some (bif bA (bh vs) && Nat.ble m.n lo then(bh vs,m.wl l)else(bh vs,m'.wl (min l lo)))):Cl E X (.func f) args m m.n (bh vs) m:=by
 have⟨n0,h⟩:=h;refine⟨Ox _,Ox _,n0,λn hn l hl=>?_⟩;have:Nat.ble m.n lo:=Cc H;grind
theorem Cl.flat{f:Nat}{fn:Func}{args:Bt}{m:M}{v:Φ}(hX:PV X f)(hf:E.fn.get f=some fn)(hl:Nat.ble args.length fn.ntmps)(hv:bA v)
  (h:dP E (aL E X) fn args m λvs m' lo=>bh vs=v/\m.n<=lo):Cl E X (.func f) args m m.n v m:=by obtain⟨vs,s,lo,⟨rfl,H⟩,_,hr⟩:=Cl.body hX hf hl h;exact .of_flat hv H hr
theorem Cl.heap{f:Nat}{fn:Func}{args:Bt}{m:M}{R:Φ->M->Nat->Prop}(H:PV X f)(hf:E.fn.get f=some fn)(hl:Nat.ble args.length fn.ntmps)
  (h:dP E (aL E X) fn args m λvs m' lo=>(bA (bh vs)=false\/lo<m.n)/\R (bh vs) m' (min m.n lo)):
  ∃v m' b,Cl E X (.func f) args m b v m'/\R v m' b:=by have⟨vs,s,lo,⟨hv,hR⟩,hn,hr⟩:=Cl.body H hf hl h;exact⟨_,_,_,.wW hn hv hr,hR⟩
theorem Cl.gen{f:Nat}{fn:Func}{args:Bt}{m:M}{R:Φ->M->Nat->Prop}(hX:PV X f)(hf:E.fn.get f=some fn)(hl:Nat.ble args.length fn.ntmps)
  (h:dP E (aL E X) fn args m λvs m' lo=>(bA (bh vs)/\m.n<=lo/\R (bh vs) m m.n)\/((bA (bh vs)=false\/lo<m.n)/\R (bh vs) m' (min m.n lo))):
  ∃v m' b,Cl E X (.func f) args m b v m'/\R v m' b:=by
 have⟨vs,s,lo,h,hn,hr⟩:=Cl.body hX hf hl h;rcases h with⟨H,a0,hR⟩|⟨H,hR⟩;·exact⟨_,_,_,.of_flat H a0 hr,hR⟩
 exact⟨_,_,_,.wW hn H hr,hR⟩
theorem Cl.th{f:Nat}{fn:Func}{args:Bt}{m:M}{v:Φ}(hX:PV X f)(hf:E.fn.get f=some fn)(hl:Nat.ble args.length fn.ntmps)(hv:bA v)
  (h:dk E (aL E X) fn args m λvs m' lo=>bh vs=v/\m.n<=lo):Cl E X (.func f) args m m.n v m:=by obtain⟨vs,s,lo,⟨rfl,H⟩,_,hr⟩:=Cl.PB hX hf hl h;exact .of_flat hv H hr
theorem Cl.FU{f:Nat}{fn:Func}{args:Bt}{m:M}{R:Φ->M->Nat->Prop}(hX:PV X f)(hf:E.fn.get f=some fn)(hl:Nat.ble args.length fn.ntmps)
  (h:dk E (aL E X) fn args m λvs m' lo=>(bA (bh vs)/\m.n<=lo/\R (bh vs) m m.n)\/((bA (bh vs)=false\/lo<m.n)/\R (bh vs) m' (min m.n lo))):
  ∃v m' b,Cl E X (.func f) args m b v m'/\R v m' b:=by
 have⟨vs,s,lo,h,hn,hr⟩:=Cl.PB hX hf hl h;rcases h with⟨H,a0,hR⟩|⟨H,hR⟩;·exact⟨_,_,_,.of_flat H a0 hr,hR⟩
 exact⟨_,_,_,.wW hn H hr,hR⟩
theorem Cl.known{f:Fn}{args:Bt}{m m':M}{v:Φ}(hX:∀l,X f args (m.wl l)=some (v,m'.wl l))(H:m.n<=m'.n)(hf:∃k,f=.func k):Cl E X f args m m.n v m':=by
 obtain⟨k,rfl⟩:=hf;refine⟨H,Ox _,1,λn H l hl=>?_⟩;obtain⟨n,rfl⟩:∃j,n=j+1:=⟨n-1,by omega⟩
 simp only[cC,hX,BT hl]
theorem Cl.NX{k:Nat}{args:Bt}{m m':M}{b:Nat}{v:Φ}(hX:∀l,l<=m.n->X (.func k) args (m.wl l)=some (v,m'.wl (min l b)))(H:m.n<=m'.n)(hb:b<=m.n):Cl E X (.func k) args m b v m':=by
 refine⟨H,hb,1,λn H l hl=>?_⟩;obtain⟨n,rfl⟩:∃j,n=j+1:=⟨n-1,by omega⟩
 simp only[cC,hX l hl]
theorem aG{f:Fn}{args:Bt}{m m1:M}{v:Φ}{b:Nat}{P:Φ->M->Nat->Prop}(h:Cl E X f args m b v m1)(H:P v m1 b):bs E X f args m P:=⟨v,m1,b,h,H⟩
end
end
section
section
variable {E:Env} {X:aK} {k:IntKind} {t:TypeId} {a b:Int}
theorem cz:aA E .leq t (.int k a) (.int k b)=some (.bool (decide (a<=b))):=by simp[aA,iH]
theorem aM:aA E .lss t (.int k a) (.int k b)=some (.bool (decide (a<b))):=by simp[aA,iH]
theorem cI:aA E .geq t (.int k a) (.int k b)=some (.bool (decide (b<=a))):=by simp[aA,iH]
theorem bP:aA E .gtr t (.int k a) (.int k b)=some (.bool (decide (b<a))):=by simp[aA,iH]
theorem aS:aA E .eql t (.int k a) (.int k b)=some (.bool (decide (a=b))):=by simp[aA,iH];rfl
theorem bL:aA E .neq t (.int k a) (.int k b)=some (.bool (!(decide (a=b)))):=by simp[aA,iH,bne];rfl
theorem aP:aA E .add t (.int k a) (.int k b)=some (.int k (k.wrap (a+b))):=by simp[aA,iH]
theorem dt:aA E .sub t (.int k a) (.int k b)=some (.int k (k.wrap (a-b))):=by simp[aA,iH]
theorem fH:aA E .mul t (.int k a) (.int k b)=some (.int k (k.wrap (a*b))):=by simp[aA,iH]
theorem km(h:b≠0):aA E .quo t (.int k a) (.int k b)=some (.int k (k.wrap (a.tdiv b))):=by simp[aA,iH,h]
theorem tF(h:b≠0):aA E .rem t (.int k a) (.int k b)=some (.int k (a.tmod b)):=by simp[aA,iH,h]
theorem bk{b:Bool}:cU .not (.bool b)=some (.bool (!b)):=rfl
theorem Bg:cU .neg (.int k a)=some (.int k (k.wrap (0-a))):=rfl
theorem im{α:Sort _}{c:Prop}[Decidable c]{a b:α}(h:¬c:=by omega):(if c then a else b)=b:=QL h
theorem WD{α:Sort _}{c:Prop}[Decidable c]{a b:α}(h:c:=by omega):(if c then a else b)=a:=Tf h
theorem tx{c:Prop}[Decidable c](h:¬c:=by omega):decide c=false:=Dh h
theorem CM{c:Prop}[Decidable c](h:c:=by omega):decide c:=IH h
theorem qp{α:Type}{l:List α}{i:Nat}(h:i<l.length:=by omega):l[i]?=some l[i]:=Fx h
theorem wrap64{x:Int}(h1: -9223372036854775808<=x:=by omega)(H:x<9223372036854775808:=by omega):IntKind.i64.wrap x=x:=by
 have e:IntKind.i64.wrap x=if x%18446744073709551616>=9223372036854775808 then x%18446744073709551616-18446744073709551616 else x%18446744073709551616:=by unfold IntKind.wrap;simp[IntKind.bits,IntKind.signed]
 grind
theorem aj{b:Bool}{P Q:Prop}:aR (.bool b) P Q=gH b P Q:=rfl
theorem cg{g:Fn}{H ca:Array Φ}{P:Fn->Array Φ->Array Φ->Prop}:gL (.func g H ca) P=P g H ca:=rfl
theorem aB{v:Φ}{r:Bt}{P:Φ->Bt->Prop}:un (v::r) P=P v r:=rfl
theorem gB{a:Addr}:eS (.pointer (some a))=some (.pointer (some a)):=rfl
theorem iS{f:FuncId}{a b:Array Φ}:eS (.func (.func f) a b)=some (.func (.func f) a b):=rfl
theorem aH{vs:Array Φ}{i:Nat}:bB (.tuple vs) i=vs.toList[i]?:=rfl
theorem aT{cs:Array Φ}:cells (.agg cs)=cs.toList:=rfl
theorem kN{x:Int}:cells (.int k x)=[.int k x]:=rfl
theorem ja{x:Bool}:cells (.bool x)=[.bool x]:=rfl
theorem ij{a:Option Addr}{n c:Nat}:cells (.slice a n c)=[.slice a n c]:=rfl
theorem kL{a:Option Addr}:cells (.pointer a)=[.pointer a]:=rfl
theorem kM{a:Option Nat}:cells (.map a)=[.map a]:=rfl
theorem iZ{f:Fn}{a b:Array Φ}:cells (.func f a b)=[.func f a b]:=rfl
theorem an{b:Bool}{P Q:Prop}(h1:b->P)(H:b=false->Q):gH b P Q:=Rm.2 ⟨h1,H⟩
theorem bH{P Q:Prop}:gH true P Q=P:=rfl
theorem aN{P Q:Prop}:gH false P Q=Q:=rfl
theorem Lp.intro{F:(Bt->M->Nat->Prop)->Bt->M->Nat->Prop}{vs:Bt}{m:M}{lo:Nat}{γ:Type}(H:γ->Nat)(I:γ->Bt->M->Nat->Prop)(g0:γ)(h0:I g0 vs m lo)
  (hs:∀g vs m lo,I g vs m lo->F (λvs m lo=>∃g',H g'<H g/\I g' vs m lo) vs m lo):Lp F vs m lo:=⟨γ,H,I,⟨g0,h0⟩,hs⟩
end
section
variable {m m' m1:M} {b c:Nat} {o:Ob}
theorem M.kH(h:b<m.n):m.get b=(m.st.get b).getD .dead:=by
 unfold M.get;have:Nat.blt b m.n:=by simp_all
 grind
theorem M.iV(h:m.n<=b):m.get b=.dead:=by
 unfold M.get;have:Nat.blt b m.n=false:=by
  cases H:Nat.blt b m.n with
  |false=>rfl
  |true=>rw[OZ]at H;omega
 grind
theorem M.aX:(m.push o).get m.n=o:=by rw[M.kH (by rw[M.iQ];omega)];show((m.st.set m.n o).get m.n).getD .dead=o;rw[Tr.cj,Tf rfl];rfl
theorem M.cy(h:b<m.n):(m.push o).get b=m.get b:=by rw[M.kH (by rw[M.iQ];omega),M.kH h];show((m.st.set m.n o).get b).getD .dead=_;rw[Tr.cj,QL (by omega)]
theorem M.dw(h:b<m.n):(m.set b o).get b=o:=by rw[M.kH (m:=m.set b o) h];show((m.st.set b o).get b).getD .dead=_;rw[Tr.cj,Tf rfl];rfl
theorem M.dg(h:c≠b):(m.set b o).get c=m.get c:=by
 by_cases H:c<m.n;·rw[M.kH H,M.kH (m:=m.set b o) H];show((m.st.set b o).get c).getD .dead=_;rw[Tr.cj,QL h]
 rw[M.iV (m:=m) (by omega),M.iV (m:=m.set b o) (by show m.n<=c;omega)]
theorem M.aU{cs:Bt}{e:TypeId}{g:Option Nat}(h:m.get b=.cells cs e g):b<m.n:=by
 by_cases H:b<m.n;·exact H
 rw[M.iV (by omega)]at h;cases h
theorem aw{P:M->Prop}(h:∀m1,m1.n=m.n+1->m1.get m.n=o->(∀b,b<m.n->m1.get b=m.get b)->P m1):bC (m.push o) P:=
 h _ rfl M.aX λ_ H=>M.cy H
theorem Ext.refl:Ext m m:=⟨Ox _,λ_ _=>rfl⟩
theorem Ext.trans(h:Ext m m1)(H:Ext m1 m'):Ext m m':=⟨YB h.n H.n,λb hb=>by rw[H.get b (IV hb h.n),h.get b hb]⟩
theorem Ext.push(h:Ext m m1):Ext m (m1.push o):=⟨YB h.n (Pz _),λb H=>by rw[M.cy (IV H h.n),h.get b H]⟩
theorem Ext.wl(h:Ext m m1){l:Nat}:Ext m (m1.wl l):=⟨h.n,h.get⟩
theorem Ext.cells{cs:Bt}{e:TypeId}{g:Option Nat}(h:Ext m m1)(H:m.get b=.cells cs e g):m1.get b=.cells cs e g:=by rw[h.get b (M.aU H),H]
theorem aI{cs:Bt}{e:TypeId}{g:Option Nat}{o:Nat}(h:m.get b=.cells cs e g):cellAt m ⟨b,o,none⟩=cs[o]?:=by unfold cellAt;simp only[h];rfl
theorem aQ{cs:Bt}{e:TypeId}{g:Option Nat}{o n:Nat}(h:m.get b=.cells cs e g)(H:o+n<=cs.length):loadCells m ⟨b,o,none⟩ n=some ((cs.drop o).take n):=by
 unfold loadCells;have:Nat.ble (o+n) cs.length:=Cc H;grind
theorem acq{cs vs:Bt}{e:TypeId}{g:Option Nat}{o:Nat}(h:m.get b=.cells cs e g)(H:o+vs.length<=cs.length)(h1:vs.all one):
  storeCells m ⟨b,o,none⟩ vs=some (m.set b (.cells (cs.take o++(vs++cs.drop (o+vs.length))) e g)):=by
 unfold storeCells;have:Nat.ble (o+vs.length) cs.length:=Cc H;grind
end
class aW (α:Type) where
 ty:TypeId
 sz:Nat
 agg:Bool
 cT:List TypeId
 rep:M->α->Bt->Prop
 pos:0 < sz
 one:agg=false->sz=1
 len:∀{m x cs},rep m x cs->cs.length=sz
 dS:∀{m x cs},rep m x cs->cs.all D.one=true
 aV:∀{m m' x cs},rep m x cs->(∀b c t g,m.get b=.cells c t g->t∈cT->m'.get b=.cells c t g)->rep m' x cs
namespace aW
def val(α:Type)[aW α](cs:Bt):Φ:=bif agg α then .agg cs.toArray else cs.headD undef
theorem aE{α:Type}[aW α]{m m':M}{x:α}{cs:Bt}(h:rep m x cs)(he:Ext m m'):rep m' x cs:=aV h λ_ _ _ _ H _=>he.cells H
end aW
def Sl{α:Type}[aW α](m:M)(l:List α)(v:Φ):Prop:=
 (v=.slice none 0 0/\l=[])\/∃b o c H g,v=.slice (some ⟨b,o,none⟩) l.length c/\m.get b=.cells H (aW.ty α) g/\o+l.length*aW.sz α<=H.length/\
  ∀i x,l[i]?=some x->aW.rep m x ((H.drop (o+i*aW.sz α)).take (aW.sz α))
theorem Sl.aV{α:Type}[aW α]{m m':M}{l:List α}{v:Φ}(h:Sl m l v)(hk:∀b c t g,m.get b=.cells c t g->t∈aW.ty α::aW.cT α->m'.get b=.cells c t g):Sl m' l v:=by
 rcases h with h|⟨b,o,c,H,g,h1,h2,h3,h4⟩;·exact .inl h
 exact .inr ⟨b,o,c,H,g,h1,hk _ _ _ _ h2 zN,h3,λi x hi=>aW.aV (h4 i x hi) λb c t g hb ht=>hk b c t g hb (W6 _ ht)⟩
theorem Sl.aE{α:Type}[aW α]{m m':M}{l:List α}{v:Φ}(h:Sl m l v)(he:Ext m m'):Sl m' l v:=h.aV λ_ _ _ _ H _=>he.cells H
theorem Sl.form{α:Type}[aW α]{m:M}{l:List α}{v:Φ}(h:Sl m l v):∃a c,v=.slice a l.length c:=by
 rcases h with⟨rfl,rfl⟩|⟨b,o,c,H,g,rfl,_⟩;·simp_all
 ·grind
theorem Sl.one{α:Type}[aW α]{m:M}{l:List α}{v:Φ}(h:Sl m l v):one v:=by obtain⟨a,c,rfl⟩:=h.form;rfl
theorem Sl.nil{α:Type}[aW α]{m:M}:Sl m ([]:List α) YM:=.inl ⟨rfl,rfl⟩
theorem Sl.cells{α:Type}[aW α]{m:M}{l:List α}{v:Φ}(h:Sl m l v):D.cells v=[v]:=by obtain⟨a,c,rfl⟩:=h.form;rfl
def oU(E:Env)(T t:TypeId)(α:Type)[aW α]:Prop:=
 ∃ti te,E.ty.get T=some ti/\(∃e,ti.d=.slice e)/\ti.es=aW.sz α/\E.ty.get t=some te/\te.d.agg=aW.agg α/\te.size=aW.sz α
section
variable {E:Env} {m:M} {T t:TypeId} {α:Type} [aW α] {l:List α} {v:Φ}
theorem Sl.len(h:Sl m l v)(H:oU E T t α):av E m .len [T] [v]=some (YR l.length,m):=by have⟨ti,te,h1,⟨e,h2⟩,_⟩:=H;obtain⟨a,c,rfl⟩:=h.form;simp only[av,wi,h1,h2,TN]
theorem Sl.index(h:Sl m l v)(hT:oU E T t α){k:IntKind}{i:Nat}{x:α}(hi:l[i]?=some x):
  ∃p cs,ak E T v (.int k i)=some p/\ah E m t p=some (aW.val α cs)/\aW.rep m x cs:=by
 have⟨ti,te,h1,⟨e,h2⟩,h3,h4,h5,h6⟩:=hT;have H:=(OJ.1 hi).1;rcases h with⟨_,rfl⟩|⟨b,o,c,bc,g,rfl,hb,hlen,a0⟩;·grind
 have hr:=a0 i x hi;have b0:=aW.pos (α:=α);refine⟨Ga b (o+i*aW.sz α),_,?_,?_,hr⟩
 ·have hc:0<=(i:Int)/\(i:Int)< (l.length:Int)/\0<ti.es:=⟨by omega,by omega,by omega⟩
  simp only[ak,h1,h2];rw[Tf hc,bj rfl,h3];rfl
 ·have hle:o+i*aW.sz α+aW.sz α<=bc.length:=by
   have:(i+1)*aW.sz α<=l.length*aW.sz α:=ZW _ H;grind
  simp only[ah,loadVar,h4];unfold aW.val;cases ha:aW.agg α with
  |true=>rw[h5,ha,h6];rw[aQ hb hle];rfl
  |false=>
   rw[aI hb];have d0:=aW.len hr;have hs:=aW.one ha;rw[List.headD_eq_head?_getD,List.head?_take,List.head?_drop,QL (by omega)];grind
end
theorem pg{E:Env}{m:M}{t:TypeId}{ti:TI}{b o:Nat}{cs:Bt}{e:TypeId}{g:Option Nat}{x:Φ}(H:E.ty.get t=some ti)(h:m.get b=.cells cs e g)(hs:(cells x).length=ti.size)(hl:o+(cells x).length<=cs.length)(h1:(cells x).all one):
  aD E m t (Ga b o) x=some (m.set b (.cells (cs.take o++(cells x++cs.drop (o+(cells x).length))) e g),b):=by
 have:Nat.beq (cells x).length ti.size:=by simp_all
 simp only[aD,storeVar,H,this,cond_true,acq h hl h1]
theorem bS{E:Env}{m:M}{t:TypeId}{ti:TI}{b o:Nat}{cs:Bt}{e:TypeId}{g:Option Nat}{x:Φ}{P:M->Nat->Prop}(H:E.ty.get t=some ti)(h:m.get b=.cells cs e g)(hs:(cells x).length=ti.size)(hl:o+(cells x).length<=cs.length)(h1:(cells x).all one)
  (hP:∀m1,m1.n=m.n->m1.get b=.cells (cs.take o++(cells x++cs.drop (o+(cells x).length))) e g->(∀c,c≠b->m1.get c=m.get c)->P m1 b):aO (aD E m t (Ga b o) x) P:=by rw[pg H h hs hl h1,az];exact hP _ rfl (M.dw (M.aU h)) λc hc=>M.dg hc
theorem Sl.fa{E:Env}{m:M}{T t:TypeId}{α:Type}[aW α]{l:List α}{v:Φ}(h:Sl m l v)(hT:oU E T t α){k:IntKind}{i:Nat}{x:α}(hi:l[i]?=some x):
  ∃b o H g cs,ak E T v (.int k i)=some (Ga b o)/\m.get b=.cells H (aW.ty α) g/\aW.rep m x cs/\o+aW.sz α<=H.length/\∀j,j<aW.sz α->H[o+j]?=cs[j]?:=by
 have⟨ti,te,h1,⟨e,h2⟩,h3,h4,h5,h6⟩:=hT;have a0:=(OJ.1 hi).1;rcases h with⟨_,rfl⟩|⟨b,o,c,H,g,rfl,hb,hlen,b0⟩;·grind
 have hr:=b0 i x hi;have d0:=aW.pos (α:=α);refine⟨b,o+i*aW.sz α,H,g,_,?_,hb,hr,?_,λj hj=>?_⟩
 ·have hc:0<=(i:Int)/\(i:Int)< (l.length:Int)/\0<ti.es:=⟨by omega,by omega,by omega⟩
  simp only[ak,h1,h2];rw[Tf hc,bj rfl,h3];rfl
 ·have:(i+1)*aW.sz α<=l.length*aW.sz α:=ZW _ a0;grind
 ·grind
theorem aC{E:Env}{m:M}{t:TypeId}{ti:TI}{b:Nat}{cs:Bt}{e:TypeId}{g:Option Nat}{x:Φ}{P:M->Nat->Prop}(H:E.ty.get t=some ti)(h:m.get b=.cells cs e g)(hs:(cells x).length=ti.size)(hl:(cells x).length=cs.length)(h1:(cells x).all one)
  (hP:∀m1,m1.n=m.n->m1.get b=.cells (cells x) e g->(∀c,c≠b->m1.get c=m.get c)->P m1 b):aO (aD E m t (Ga b 0) x) P:=by
 refine bS H h hs (by omega) h1 λm1 hn hg hk=>hP m1 hn ?_ hk;grind
end
section
structure WH(n1:Nat)(m m1:M):Prop where
 n:m.n<=m1.n
 get:∀c,c < n1->m1.get c=m.get c
theorem WH.refl{n1:Nat}{m:M}:WH n1 m m:=⟨Ox _,λ_ _=>rfl⟩
theorem WH.ext{m m1:M}(h:WH m.n m m1):Ext m m1:=⟨h.n,h.get⟩
theorem Ext.fr{m m1:M}(h:Ext m m1){n1:Nat}(H:n1<=m.n):WH n1 m m1:=⟨h.n,λc hc=>h.get c (by omega)⟩
def chunk(cs:Bt)(k i:Nat):Bt:=(cs.drop (i*k)).take k
theorem mg{a b:Bt}{k n i:Nat}(H:a.length=n*k)(hi:i<n):chunk (a++b) k i=chunk a k i:=by
 unfold chunk;have:(i+1)*k<=n*k:=ZW _ hi;grind
theorem lK{a b:Bt}{k n i:Nat}(H:a.length=n*k)(hi:n<=i):chunk (a++b) k i=chunk b k (i-n):=by unfold chunk;have:n*k<=i*k:=ZW _ hi;rw[List.drop_append,H,Gl (by omega),Zi,Ou]
theorem aeO{H:Bt}{o k n i:Nat}(hi:i<n):chunk ((H.drop o).take (n*k)) k i=(H.drop (o+i*k)).take k:=by
 unfold chunk;have:(i+1)*k<=n*k:=ZW _ hi;rw[List.drop_take,WL,Gx];grind
theorem zs{p:Φ->Bool}{k:Nat}:∀(n:Nat) (cs:Bt),cs.length=n*k->(∀i,i<n->(chunk cs k i).all p)->cs.all p=true
 |0,cs,H,_=>by
  grind
 |n+1,cs,H,h=>by
  rw[JY,KR]at H;have h0:=h 0 (by omega);simp only[chunk,JE,QA]at h0
  have hd:=zs (k:=k) n (cs.drop k) (by grind) λi hi=>by
   have:=h (i+1) (by omega);simp only[chunk,JY,KR]at this;simp only[chunk,WL];rw[Kv k];exact this
  rw[<-Gw k cs,VU,h0,hd];rfl
def Ow{α:Type}[aW α](n1:Nat)(m:M)(l:List α)(v:Φ):Prop:=
 (v=.slice none 0 0/\l=[])\/∃b cs,v=.slice (some ⟨b,0,none⟩) l.length l.length/\0 < l.length/\n1<=b/\m.get b=.cells cs (aW.ty α) (some (aW.sz α))/\cs.length=l.length*aW.sz α/\
  ∀i x,l[i]?=some x->aW.rep m x (chunk cs (aW.sz α) i)
theorem Ow.nil{α:Type}[aW α]{n1:Nat}{m:M}:Ow n1 m ([]:List α) YM:=.inl ⟨rfl,rfl⟩
theorem Ow.sl{α:Type}[aW α]{n1:Nat}{m:M}{l:List α}{v:Φ}(h:Ow n1 m l v):Sl m l v:=by
 rcases h with h|⟨b,cs,h1,h2,h3,H,h5,h6⟩;·exact .inl h
 refine .inr ⟨b,0,_,cs,_,h1,H,by omega,λi x hi=>?_⟩;rw[Wl];exact h6 i x hi
theorem Ow.aV{α:Type}[aW α]{n1:Nat}{m m':M}{l:List α}{v:Φ}(h:Ow n1 m l v)(hk:∀b c t g,m.get b=.cells c t g->t∈aW.ty α::aW.cT α->m'.get b=.cells c t g):Ow n1 m' l v:=by
 rcases h with h|⟨b,cs,h1,H,h3,h4,h5,h6⟩;·exact .inl h
 exact .inr ⟨b,cs,h1,H,h3,hk _ _ _ _ h4 zN,h5,λi x hi=>aW.aV (h6 i x hi) λb c t g hb ht=>hk b c t g hb (W6 _ ht)⟩
theorem Ow.aE{α:Type}[aW α]{n1:Nat}{m m':M}{l:List α}{v:Φ}(h:Ow n1 m l v)(he:Ext m m'):Ow n1 m' l v:=h.aV λ_ _ _ _ H _=>he.cells H
theorem Ow.mono{α:Type}[aW α]{n1 n2:Nat}{m:M}{l:List α}{v:Φ}(h:Ow n1 m l v)(hn:n2<=n1):Ow n2 m l v:=by
 rcases h with h|⟨b,cs,h1,H,h3,h4⟩;·exact .inl h
 exact .inr ⟨b,cs,h1,H,by omega,h4⟩
theorem Ow.flat{α:Type}[aW α]{n1:Nat}{m:M}{l:List α}{v:Φ}(h:Ow n1 m l v)(H:l≠ []):bA v=false:=by
 rcases h with⟨_,rfl⟩|⟨b,cs,rfl,_⟩;·grind
 rfl
def qH(E:Env)(T:TypeId)(α:Type)[aW α]:Prop:=
 ∃ti H,E.ty.get T=some ti/\ti.d=.slice (aW.ty α)/\ti.es=aW.sz α/\E.ty.get (aW.ty α)=some H/\H.bytes<=65536/\gw H.zero (aW.sz α)=true
section
variable {E:Env} {α:Type} [aW α] {n1:Nat} {m:M} {l ys:List α} {v y:Φ} {T:TypeId}
theorem Sl.first(h:Sl m ys y):∃news,lX y=some ys.length/\first? m (aW.sz α) ys.length y=some news/\news.length=ys.length*aW.sz α/\news.all D.one/\∀i x,ys[i]?=some x->aW.rep m x (chunk news (aW.sz α) i):=by
 rcases h with⟨rfl,rfl⟩|⟨b,o,c,bc,g,rfl,hb,hlen,a0⟩;·exact⟨[],rfl,rfl,by simp,rfl,by grind⟩
 have hl:((bc.drop o).take (ys.length*aW.sz α)).length=ys.length*aW.sz α:=by grind
 have H:∀i x,ys[i]?=some x->aW.rep m x (chunk ((bc.drop o).take (ys.length*aW.sz α)) (aW.sz α) i):=λi x hi=>by rw[aeO (OJ.1 hi).1];exact a0 i x hi
 refine⟨_,rfl,?_,hl,?_,H⟩
 ·unfold first?;cases hn:Nat.beq ys.length 0 with
  |true=>
   simp_all
  |false=>exact aQ hb hlen
 exact zs ys.length _ hl λi hi=>aW.dS (H i _ (Fx hi))
theorem Ow.append(hT:qH E T α)(m0:aW.ty α∉aW.cT α)(h:Ow n1 m l v)(hy:Sl m ys y)(hn:n1<=m.n)(hs:l.length+ys.length<=268435456):
  ∃v' m1,av E (m.wl m.n) .append [T,T] [v,y]=some (v',m1)/\Ow n1 m1 (l++ys) v'/\WH n1 m m1/\n1<=m1.low/\m1.n<=m.n+1:=by
 have⟨ti,ei,t1,t2,t3,t4,t5,t6⟩:=hT;have⟨news,e1,e2,e3,e4,e5⟩:=hy.first;have k0:=aW.pos (α:=α);have hc:(Nat.beq ti.es 0 ||Nat.blt 65536 ei.bytes || !news.all D.one ||Nat.blt 268435456 (l.length+ys.length) || !Nat.beq news.length (ys.length*ti.es) || !gw ei.zero ti.es)=false:=by
  have c1:Nat.beq ti.es 0=false:=by
   cases hb:Nat.beq ti.es 0 with
   |false=>rfl
   |true=>have:=vZ hb;omega
  have c2:Nat.blt 65536 ei.bytes=false:=by
   cases hb:Nat.blt 65536 ei.bytes with
   |false=>rfl
   |true=>rw[OZ]at hb;omega
  have c3:Nat.blt 268435456 (l.length+ys.length)=false:=by
   cases hb:Nat.blt 268435456 (l.length+ys.length)with
   |false=>rfl
   |true=>rw[OZ]at hb;omega
  simp_all
 have H:first? (m.wl m.n) ti.es ys.length y=some news:=by rw[cQ,t3];exact e2
 rcases h with⟨rfl,rfl⟩|⟨b,cs,rfl,h2,h3,h4,h5,h6⟩
 ·
  cases a0:ys with
  |nil=>subst a0;refine⟨YM,m.wl m.n,?_,.inl ⟨rfl,rfl⟩,⟨Ox _,λ_ _=>rfl⟩,hn,by show m.n<=_;omega⟩;simp only[av,dU,t1,e1,t2,t4,H];simp only[GK]at hc⊢;rw[hc];rfl
  |cons y0 g0=>
   rw[<-a0];have d0:0<ys.length:=by grind
   have b0:Nat.ble (0+ys.length) 0=false:=by
    cases hb:Nat.ble (0+ys.length) 0 with
    |false=>rfl
    |true=>have:=JO hb;omega
   refine⟨KI m.n 0 ys.length ys.length,(m.wl m.n).push (.cells news (aW.ty α) (some (aW.sz α))),?_,?_,⟨by show m.n<=m.n+1;omega,λc hc=>by rw[M.cy (by show c<m.n;omega)];rfl⟩,hn,by show m.n+1<=_;omega⟩;·simp only[av,dU,t1,e1,t2,t4,H];simp only[GK]at hc;rw[hc,b0];simp only[T4,lY];have:(Nat.beq 0 0 && Nat.beq 0 0):=rfl;rw[this,t3];simp only[cond_true,Wl];rfl
   refine .inr ⟨m.n,news,by simp,by grind,hn,M.aX (m:=m.wl m.n),by grind,λi x hi=>?_⟩;have:=e5 i x (by grind);exact aW.aE this ⟨by show m.n<=m.n+1;omega,λc hc=>by rw[M.cy (m:=m.wl m.n) hc];rfl⟩
 ·
  have n0:=M.aU h4;cases a0:ys with
  |nil=>
   subst a0;refine⟨KI b 0 l.length l.length,m.wl m.n,?_,?_,⟨Ox _,λ_ _=>rfl⟩,hn,by show m.n<=_;omega⟩
   ·simp only[av,dU,t1,e1,t2,t4,H];simp only[GK,PD]at hc⊢;rw[hc];have:Nat.ble l.length l.length:=Cc (Ox _);grind
   rw[Zu];exact .inr ⟨b,cs,rfl,h2,h3,h4,h5,λi x hi=>aW.aV (m:=m) (h6 i x hi) λ_ _ _ _ hb _=>hb⟩
  |cons y0 g0=>
   rw[<-a0];have d0:0<ys.length:=by grind
   have b0:Nat.ble (l.length+ys.length) l.length=false:=by
    cases hb:Nat.ble (l.length+ys.length) l.length with
    |false=>rfl
    |true=>have:=JO hb;omega
   have hold:(bif Nat.beq l.length 0 then some []else loadCells (m.wl m.n) ⟨b,0,none⟩ (l.length*aW.sz α))=some cs:=by
    cases hb:Nat.beq l.length 0 with
    |true=>have:=vZ hb;omega
    |false=>simp only[T4,cf];rw[aQ h4 (by omega),QA,QM (by omega)]
   have g1:((some (aW.sz α):Option Nat).isNone ||((some (aW.sz α):Option Nat)==some (aW.sz α) && Nat.blt (0+l.length*aW.sz α) cs.length))=false:=by
    have:Nat.blt (0+l.length*aW.sz α) cs.length=false:=by
     cases hb:Nat.blt (0+l.length*aW.sz α) cs.length with
     |false=>rfl
     |true=>rw[OZ]at hb;omega
    grind
   have g2:((some (aW.sz α):Option Nat)==some (aW.sz α) && Nat.beq 0 0 && (none:Option Nat).isNone && Nat.beq (l.length*aW.sz α) cs.length && Nat.beq l.length l.length && Nat.beq (aW.ty α) (aW.ty α)):=by
    simp_all
   refine⟨KI m.n 0 (l.length+ys.length) (l.length+ys.length),((m.wl m.n).set b .dead).push (.cells (cs++news) (aW.ty α) (some (aW.sz α))),?_,?_,⟨by show m.n<=m.n+1;omega,λc hc=>?_⟩,?_,by show m.n+1<=_;omega⟩;·simp only[av,dU,t1,e1,t2,t4,H];rw[hc,b0];simp only[T4,lY,t3];have hg:(m.wl m.n).get b=.cells cs (aW.ty α) (some (aW.sz α)):=h4;simp only[hg,hold,g1,T4];rw[g2];rfl
   ·have e0:∀c,c<m.n->c≠b->(((m.wl m.n).set b .dead).push (.cells (cs++news) (aW.ty α) (some (aW.sz α)))).get c=m.get c:=λc hc i0=>by rw[M.cy (by show c<m.n;exact hc),M.dg i0];rfl
    have l0:∀x c,aW.rep m x c->aW.rep (α:=α) (((m.wl m.n).set b .dead).push (.cells (cs++news) (aW.ty α) (some (aW.sz α)))) x c:=λx c hx=>by refine aW.aV hx λb' c' t g hb ht=>?_;rw[e0 b' (M.aU hb) (by grind),hb]
    refine .inr ⟨m.n,cs++news,by simp,by grind,hn,M.aX (m:=(m.wl m.n).set b .dead),by grind,λi x hi=>?_⟩;by_cases j0:i<l.length
    ·rw[mg h5 j0];grind
    ·rw[lK h5 (by omega)];grind
   ·rw[M.cy (by show c<m.n;omega),M.dg (by omega)];rfl
   show n1<=min m.n b;omega
end
end
section
section
variable {E:Env} {m:M} {T:TypeId} {ti:TI} {e:TypeId} {b n:Nat} {cs:Bt} {te:TypeId} {k:Nat}
theorem pT{i y:Nat}(h:i<=y):rR (YR i) y=some i:=by
 unfold rR;grind
end
section
variable {E:Env} {α:Type} [aW α] {n1:Nat} {m:M} {T:TypeId}
theorem ik(hT:qH E T α){ys:List α}{y:Φ}{b:Nat}{te:TypeId}(h:m.get b=.cells [] te none)(hy:Sl m ys y)(d0:ys≠ [])(hs:ys.length<=1000000):
  ∃v' m1,av E (m.wl m.n) .append [T,T] [KI b 0 0 0,y]=some (v',m1)/\Ow m.n m1 ys v'/\Ext m m1/\m1.low=m.n:=by
 have⟨ti,ei,t1,t2,t3,t4,t5,t6⟩:=hT;have⟨news,e1,e2,e3,e4,e5⟩:=hy.first;have g0:=aW.pos (α:=α);have a0:0<ys.length:=Fu.2 d0;have hc:(Nat.beq ti.es 0 ||Nat.blt 65536 ei.bytes || !news.all D.one ||Nat.blt 268435456 (0+ys.length) || !Nat.beq news.length (ys.length*ti.es) || !gw ei.zero ti.es)=false:=by
  have c1:Nat.beq ti.es 0=false:=by
   cases hb:Nat.beq ti.es 0 with
   |false=>rfl
   |true=>have:=vZ hb;omega
  have c2:Nat.blt 65536 ei.bytes=false:=by
   cases hb:Nat.blt 65536 ei.bytes with
   |false=>rfl
   |true=>rw[OZ]at hb;omega
  have c3:Nat.blt 268435456 (0+ys.length)=false:=by
   cases hb:Nat.blt 268435456 (0+ys.length)with
   |false=>rfl
   |true=>rw[OZ]at hb;omega
  simp_all
 have H:first? (m.wl m.n) ti.es ys.length y=some news:=by rw[cQ,t3];exact e2
 have b0:Nat.ble (0+ys.length) 0=false:=by
  cases hb:Nat.ble (0+ys.length) 0 with
  |false=>rfl
  |true=>have:=JO hb;omega
 have hg:(m.wl m.n).get b=.cells [] te none:=h;refine⟨KI m.n 0 ys.length ys.length,(m.wl m.n).push (.cells news (aW.ty α) (some (aW.sz α))),?_,?_,⟨Pz _,λc hc=>by rw[M.cy (m:=m.wl m.n) hc];rfl⟩,rfl⟩;·simp only[av,dU,t1,e1,t2,t4,H,hc,b0,T4,lY,hg];have e0:(bif Nat.beq 0 0 then some []else loadCells (m.wl m.n) ⟨b,0,none⟩ (0*ti.es))=some ([]:Bt):=rfl;simp only[e0,e1,cond_true,Wl,Zi,t3];rfl
 exact .inr ⟨m.n,news,rfl,a0,Ox _,M.aX (m:=m.wl m.n),e3,λi x hi=>aW.aE (e5 i x hi) ⟨Pz _,λc hc=>by rw[M.cy (m:=m.wl m.n) hc];rfl⟩⟩
end
end
section
section
variable {E:Env} {m m1:M} {T U:TypeId} {v':Φ} {c:Nat}
theorem tX{a:Addr}{vs:Bt}(h:storeCells m a vs=some m1)(H:c≠a.block):m1.get c=m.get c:=by
 unfold storeCells at h;cases hb:m.get a.block with
 |cells cs e g=>
  simp only[hb]at h;cases hc:(a.spot.isNone && Nat.ble (a.off+vs.length) cs.length && vs.all one)with
  |true=>rw[hc,cond_true]at h;cases h;exact M.dg H
  |false=>rw[hc,T4]at h;cases h
 |_=>simp only[hb]at h;cases h
theorem Ea{e k:Nat}{base:Option Addr}{sl sc H:Nat}{news:Bt}(h:lY m e k base sl sc H news=some (v',m1))(hc:c<m.n)(hs:∀a,base=some a->c≠a.block):m1.get c=m.get c:=by
 unfold lY at h;cases base with
 |none=>
  cases h1:(Nat.beq sl 0 && Nat.beq sc 0)with
  |true=>rw[h1,cond_true]at h;cases h;exact M.cy hc
  |false=>rw[h1,T4]at h;cases h
 |some a=>
  cases hb:m.get a.block with
  |cells cs te g=>
   cases ho:(bif Nat.beq sl 0 then some []else loadCells m a (sl*k))with
   |none=>simp only[hb,ho]at h;cases h
   |some fh=>
    simp only[hb,ho]at h;cases h1:(g.isNone ||(g==some k && Nat.blt (a.off+sc*k) cs.length))with
    |true=>rw[h1,cond_true]at h;cases h;exact M.cy hc
    |false=>
     rw[h1,T4]at h;cases h2:(g==some k && Nat.beq a.off 0 && a.spot.isNone && Nat.beq (sl*k) cs.length && Nat.beq sc sl && Nat.beq te e)with
     |true=>rw[h2,cond_true]at h;cases h;rw[M.cy (m:=m.set a.block .dead) hc,M.dg (hs a rfl)]
     |false=>rw[h2,T4]at h;cases h
  |_=>simp only[hb]at h;cases h
theorem adK{s x:Φ}(h:dU E m T U s x=some (v',m1))(hc:c<m.n)(hs:∀a n k,s=.slice (some a) n k->c≠a.block):m1.get c=m.get c:=by
 unfold dU at h;split at h
 ·rename_i ti ui base sl sc n _ _ _;split at h;·cases h
  ·rename_i e _ _;cases h1:E.ty.get e with
   |none=>simp only[h1]at h;cases h
   |some ei=>
    cases h2:first? m ti.es n x with
    |none=>simp only[h1,h2]at h;cases h
    |some news=>
     simp only[h1,h2]at h;cases h3:(Nat.beq ti.es 0 ||Nat.blt 65536 ei.bytes || !news.all one ||Nat.blt 268435456 (sl+n) || !Nat.beq news.length (n*ti.es) || !gw ei.zero ti.es)with
     |true=>rw[h3,cond_true]at h;cases h
     |false=>
      rw[h3,T4]at h;cases h4:Nat.ble (sl+n) sc with
      |false=>rw[h4,T4]at h;exact Ea h hc λa ha=>hs a sl sc (by rw[ha])
      |true=>
       rw[h4,cond_true]at h;cases base with
       |none=>
        cases H:Nat.beq n 0 with
        |true=>rw[H,cond_true]at h;cases h;rfl
        |false=>rw[H,T4]at h;cases h
       |some a=>
        dsimp only at h;cases H:Nat.beq n 0 with
        |true=>rw[H,cond_true]at h;cases h;rfl
        |false=>
         rw[H,T4]at h;cases h6:storeCells m (a.add (sl*ti.es)) news with
         |none=>rw[h6]at h;cases h
         |some m2=>
          rw[h6]at h;cases h;refine tX h6 ?_;have:(a.add (sl*ti.es)).block=a.block:=by unfold Addr.add;split <;>rfl
          rw[this];exact hs a sl sc rfl
  cases h
 cases h
theorem fg{s x:Φ}(h:av E (m.wl m.n) .append [T,U] [s,x]=some (v',m1))(H:c<m.n)(hs:∀a n k,s=.slice (some a) n k->c≠a.block):m1.get c=m.get c:=
 (adK (m:=m.wl m.n) h H hs).trans rfl
end
end
section
variable {m:M}
def GO{α:Type}[aW α](m:M)(l:List α)(v:Φ):Prop:=
 (v=.slice none 0 0/\l=[])\/∃b o c H,v=.slice (some ⟨b,o,none⟩) l.length c/\m.get b=.ro H/\
  ∀i x,l[i]?=some x->o+i*aW.sz α+aW.sz α<=H.length/\aW.rep m x ((H.drop (o+i*aW.sz α)).take (aW.sz α))
theorem Ext.ro{m m':M}(h:Ext m m'){b:Nat}{c:Bt}(H:m.get b=.ro c):m'.get b=.ro c:=by
 rw[h.get b ?_,H];rcases Gn b m.n with h'|h';·exact h'
 rw[M.iV h']at H;cases H
section
variable {α:Type} [aW α] {m':M} {l:List α} {v:Φ} {E:Env} {T t:TypeId}
theorem GO.aE(h:GO m l v)(he:Ext m m'):GO m' l v:=by
 rcases h with h|⟨b,o,c,bc,h1,h2,H⟩;·exact .inl h
 exact .inr ⟨b,o,c,bc,h1,Ext.ro he h2,λi x hi=>⟨(H i x hi).1,aW.aE (H i x hi).2 he⟩⟩
theorem GO.form(h:GO m l v):∃a c,v=.slice a l.length c:=by
 rcases h with⟨rfl,rfl⟩|⟨b,o,c,H,rfl,_⟩;·simp_all
 ·grind
theorem GO.len(h:GO m l v)(H:oU E T t α):av E m .len [T] [v]=some (YR l.length,m):=by have⟨ti,te,h1,⟨e,h2⟩,_⟩:=H;obtain⟨a,c,rfl⟩:=h.form;simp only[av,wi,h1,h2,TN]
theorem ad2{b o n:Nat}{cs:Bt}(h:m.get b=.ro cs)(H:o+n<=cs.length)(h1:((cs.drop o).take n).all one):D.loadCells m ⟨b,o,none⟩ n=some ((cs.drop o).take n):=by
 unfold D.loadCells;have:Nat.ble (o+n) cs.length:=Cc H;grind
theorem uW{b o:Nat}{cs:Bt}{u:Φ}(h:m.get b=.ro cs)(hu:cs[o]?=some u)(h1:one u):D.cellAt m ⟨b,o,none⟩=some u:=by
 unfold D.cellAt;grind
theorem GO.index(h:GO m l v)(hT:oU E T t α){k:IntKind}{i:Nat}{x:α}(hi:l[i]?=some x):
  ∃p cs,ak E T v (.int k i)=some p/\ah E m t p=some (aW.val α cs)/\aW.rep m x cs:=by
 have⟨ti,te,h1,⟨e,h2⟩,h3,h4,h5,h6⟩:=hT;have i0:=(OJ.1 hi).1;rcases h with⟨_,rfl⟩|⟨b,o,c,bc,rfl,hb,d0⟩;·grind
 have⟨hle,hr⟩:=d0 i x hi;have g0:=aW.pos (α:=α);refine⟨Ga b (o+i*aW.sz α),_,?_,?_,hr⟩
 ·have hc:0<=(i:Int)/\(i:Int)< (l.length:Int)/\0<ti.es:=⟨by omega,by omega,by omega⟩
  simp only[ak,h1,h2];rw[Tf hc,bj rfl,h3];rfl
 ·have H:=aW.dS hr;simp only[D.ah,D.loadVar,h4];unfold aW.val;cases ha:aW.agg α with
  |true=>rw[h5,ha,h6];rw[ad2 hb hle H];rfl
  |false=>
   rw[h5,ha];have hs:=aW.one ha;rw[hs]at H⊢;simp only[hs]at hle;have a0:o+i*1<bc.length:=by omega
   have b0:bc[o+i*1]?=some bc[o+i*1]:=Fx a0;have e0:(bc.drop (o+i*1)).take 1=[bc[o+i*1]]:=by rw[List.take_one,List.head?_drop,b0];rfl
   rw[e0]at H⊢;rw[uW hb b0 (by grind)];rfl
def oK{α:Type}[aW α](m:M)(l:List α)(v:Φ):Prop:=Sl m l v\/GO m l v
theorem oK.aE(h:oK m l v)(he:Ext m m'):oK m' l v:=h.elim (λh=> .inl (h.aE he)) λh=> .inr (h.aE he)
theorem oK.len(h:oK m l v)(H:oU E T t α):av E m .len [T] [v]=some (YR l.length,m):=h.elim (λh=>h.len H) λh=>h.len H
theorem oK.index(h:oK m l v)(H:oU E T t α){k:IntKind}{i:Nat}{x:α}(hi:l[i]?=some x):
  ∃p cs,ak E T v (.int k i)=some p/\ah E m t p=some (aW.val α cs)/\aW.rep m x cs:=h.elim (λh=>h.index H hi) λh=>h.index H hi
end
end
end Go.D
