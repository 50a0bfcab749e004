/- A region that does not draw. -/
import Derived.Test.YtigpcbodmjjaiaaGreatDoorG0J
import Derived.RecoverIn
import Derived.RangeFuncNested
noncomputable section
namespace Go.D
open Go
section
section
variable {E:Env} {P:Program} {σ:Sg} {m m':M} {w:World}
theorem bw.QF{v:aeM}{b:Bool}(h:bw σ v (.bool b)):v=.bool b:=by cases h;rfl
theorem sx{ops:Array Oper}{T:Tr aeM}{a:Act}{o:Oper}
  (hT:∀j want d,o.guard=some (j,want)->(ops[j]?).bind (·.dst)=some d->d < a.tmps.size/\bw σ (iT T d) (a.eval (.tmp d))):
  cE ops T o=Region.wanted o (yielded ops a.tmps):=by
 unfold cE Region.wanted
 cases hg:o.guard with
 |none=>rfl
 |some p=>
  have⟨j,want⟩:=p
  dsimp only
  unfold yielded
  simp only[acT]
  cases hd:(ops[j]?).bind (·.dst)with
  |none=>rfl
  |some d=>
   have⟨h1,H⟩:=hT j want d hg hd
   have he:a.tmps[d]?=some (a.eval (.tmp d)):=by simp[Act.eval,h1]
   simp only[acC,he]
   generalize a.eval (.tmp d)=u at H
   cases hv:iT T d with
   |bool b=>rw[hv]at H;rw[H.bool];simp
   |_=>
    rw[hv]at H
    cases u with
    |bool b=>have:=H.QF;cases this
    |_=>simp
theorem fh{nt G:Nat}{o:Oper}(h:ic nt G o):∀d,o.dst=some d->d < nt:=by
 intro d H
 unfold ic at h
 simp_all
theorem ib{nt G:Nat}{o:Oper}(h:ic nt G o):∀x∈o.op.operands.toList,rQ nt G x:=by
 intro x H
 unfold ic at h
 grind
theorem rP{nt G t:Nat}(h:rQ nt G (.tmp t)):t < nt:=by
 have h:Nat.blt t nt:=h
 simp_all
theorem dB.FP{T:Tr aeM}{a:Act}{nt:Nat}(h:dB σ T a nt)(hs:eN P σ m w){x:Operand}(H:rQ nt P.globals.size x):bw σ (ev T x) (a.eval x):=
 EE hs (λt ht=>by subst ht;exact h.2 t (rP H)) H
theorem dB.wanted{ops:Array Oper}{T:Tr aeM}{a:Act}{nt:Nat}(h:dB σ T a nt)(a0:∀o∈ops.toList,ic nt P.globals.size o)(o:Oper):cE ops T o=Region.wanted o (yielded ops a.tmps):=by refine sx (σ:=σ) λj want d _ hd=>?_;simp only[ab3]at hd;have⟨o',d0,b0⟩:=hd;have H:=fh (a0 o' (by grind)) d b0;exact⟨by rw[h.1];exact H,h.2 d H⟩
theorem uV(hE:E.OK P){call:aK}(cY:dc P call){nt:Nat}{ops:Array Oper}(b0:∀o∈ops.toList,ic nt P.globals.size o){ro:Option Nat}{n:Nat}{Q:Exit->Act->World->Prop}{ds:List Deferred}:
  ∀(l:List Oper),(∀o∈l,ic nt P.globals.size o)->∀(fr H:Fr),zR E call ops l fr=some H->∀(σ:Sg) (a:Act) (w:World),dB σ fr.T a nt->a.defers=ds->eN P σ fr.m w->(∀σ' a' w',dB σ' H.T a' nt->a'.defers=ds->Ev P σ fr.m w σ' H.m w'->Q .normal a' w')->wpListIn (eD ro) n P ops Q l a w
 |[],_,fr,H,h,σ,a,w,hf,hd,hs,k=>by
  simp only[DO,abf]at h
  subst h
  exact k σ a w hf hd (Ev.refl hs)
 |o::l,hl,fr,H,h,σ,a,w,hf,hd,hs,k=>by
  rw[mW]at h
  have hw:=hf.wanted b0 o
  have a0:=fh (hl o abN)
  have d0:=λo ho=>hl o (abS _ ho)
  unfold wpListIn
  rw[<-hw]
  cases e0:cE ops fr.T o with
  |false=>
   rw[e0]at h
   simp only[abm]at h
   rw[abd (by simp)]
   refine⟨λ_ _=>trivial,?_⟩
   refine uV hE cY b0 l d0 _ _ h σ (a.put o.dst undef) w (hf.put a0 bw.undef) ?_ hs k
   rw[<-hd];cases o.dst <;>rfl
  |true=>
   rw[e0]at h
   simp only[cond_true]at h
   rw[abe rfl]
   cases ho:dn o.op E call fr.T fr.m with
   |none=>rw[ho]at h;cases h
   |some p=>
    have⟨v,m1⟩:=p
    rw[ho]at h
    simp only at h
    refine⟨λ_ _=>trivial,?_⟩
    have g0:=tp hE cY hs ho (a:=a) (λx hx=>hf.FP hs (ib (hl o abN) x hx))
    rw[Oper.semAt_eq _ _ _ (λc hc=>by rw[hc]at ho;simp[dn]at ho)]
    refine g0.2 ro n o a _ Q λσ' w' v' hv he=>?_
    refine uV hE cY b0 l d0 _ _ h σ' (a.put o.dst v') w' ((hf.mono he.ext).put a0 hv) ?_ he.sH λh0 a2 w2 i0 j0 k0=>k h0 a2 w2 i0 j0 (he.trans k0)
    rw[<-hd];cases o.dst <;>rfl
end
end
section
inductive Reach (ops:Array Oper):Nat->Nat->Prop where
 |one {j:Nat} {o:Oper} {e:Edge} (ho:ops[j]?=some o) (he:e∈o.after) (hb:Region.binds .any e=true):Reach ops e.on j
 |step {i j:Nat} {o:Oper} {e:Edge} (ho:ops[j]?=some o) (he:e∈o.after) (hb:Region.binds .any e=true) (h:Reach ops i e.on):Reach ops i j
theorem sD{acc:Array Nat}{i:Nat}:∀(l:List Edge) (s:Nat),(l.foldl (λs e=>if Region.binds .any e then s |||2 ^ e.on |||acc.getD e.on 0 else s) s).testBit i->
  s.testBit i\/∃e∈l,Region.binds .any e/\(i=e.on\/(acc.getD e.on 0).testBit i)
 |[],s,h=> .inl h
 |e::l,s,h=>by
  rw[ac6]at h
  rcases sD l _ h with h1 |⟨H,h1,h2,h3⟩
  ·grind
  ·grind
theorem wB(ops:Array Oper):∀(l pre:List Oper) (acc:Array Nat),ops.toList=pre++l->acc.size=pre.length->(∀i j,(acc.getD j 0).testBit i->Reach ops i j)->
  ∀i j,((l.foldl (λacc o=>acc.push (o.after.foldl (λs e=>if Region.binds .any e then s |||2 ^ e.on |||acc.getD e.on 0 else s) 0)) acc).getD j 0).testBit i->Reach ops i j
 |[],pre,acc,_,_,h,i,j,hh=>h i j hh
 |o::l,pre,acc,hp,hs,h,i,j,hh=>by
  rw[ac6]at hh
  refine wB ops l (pre++ [o]) _ (by grind) (by grind) ?_ i j hh
  intro i j H
  have ho:ops[pre.length]?=some o:=by
   rw[<-acT,hp,acp (aa4 _)]
   simp
  rcases adn j acc.size with hj |hj |hj
  ·refine h i j ?_
   rw[acm,adH hj]at H
   rw[acm]
   grind
  ·subst hj
   rw[acm,Array.getElem?_push_size]at H
   simp only[acD]at H
   rw[<-adz]at H
   rcases sD o.after.toList 0 H with h1 |⟨e,h1,h2,h3⟩
   ·grind
   ·rw[hs]
    rcases h3 with rfl |h3
    ·exact .one ho (by grind) h2
    ·exact .step ho (by grind) h2 (h _ _ h3)
  ·grind
theorem iS{ops:Array Oper}{i j:Nat}(h:((Region.before ops).getD j 0).testBit i):Reach ops i j:=by unfold Region.before at h;rw[<-adz]at h;exact wB ops ops.toList [] #[] (by simp) rfl (by grind) i j h
def Da(ops:Array Oper)(L:Nat->Prop):Prop:=∀j o,ops[j]?=some o->L j->∀e∈o.after,Region.binds .any e=true->L e.on
theorem Reach.listed{ops:Array Oper}{L:Nat->Prop}(hc:Da ops L){i j:Nat}(h:Reach ops i j):(∀o,ops[j]?=some o->∀e∈o.after,Region.binds .any e->L e.on)->L i:=by
 induction h with
 |one H he hb=>exact λh=>h _ H _ he hb
 |step H he hb _ ih=>exact λh=>ih λo' a0 e' b0 d0=>hc _ o' a0 (h _ H _ he hb) e' b0 d0
theorem Reach.jh{ops:Array Oper}{L:Nat->Prop}(H:Da ops L){i j:Nat}(h:Reach ops i j)(hj:L j):L i:=h.listed H λo ho e he hb=>H j o ho hj e he hb
theorem Reach.lt{ops:Array Oper}(hl:∀j o,ops[j]?=some o->∀e∈o.after,Region.binds .any e->e.on < j){i j:Nat}(h:Reach ops i j):i < j:=by
 induction h with
 |one H he hb=>exact hl _ _ H _ he hb
 |step H he hb _ ih=>exact Nat.lt_trans ih (hl _ _ H _ he hb)
structure IS(ops:Array Oper):Prop where
 lt:∀j o,ops[j]?=some o->∀e∈o.after,Region.binds .any e=true->e.on < j
 apart:∀i j o' o,ops[i]?=some o'->ops[j]?=some o->i < j->Reach ops i j\/((∀d,o.dst=some d->d∉jv ops o')/\∀d,o'.dst=some d->d∉jv ops o)
theorem Ca{ops:Array Oper}(h:Cb ops):IS ops:=by
 have key:∀j o,ops[j]?=some o->_:=λj o ho=>abw.1 h (o,j) (by grind);simp only[abc]at key;refine⟨λj o ho e he hb=>?_,λi j o' o hi hj H=>?_⟩
 ·have:=abw.1 (key j o ho).1 e (by grind)
  simp_all
 have:=abw.1 (key j o hj).2 (o',i) (by grind);rw[kA]at this;simp only[H,decide_true,ab7,adt,acI,abc]at this;rcases this with h1 |⟨h1,h2⟩;·exact .inl (iS h1)
 ·grind
theorem mF{ops:Array Oper}{j:Nat}(h:eQ ops j):∀i o,ops[i]?=some o->i=j\/fg o.op\/Reach ops i j\/Reach ops j i:=by
 intro i o H;have:=abw.1 h (o,i) (by grind);simp only[acI,beq_iff_eq]at this;rcases this with((h1 |h1) |h1) |h1
 ·grind
 ·grind
 ·exact .inr (.inr (.inl (iS h1)))
 exact .inr (.inr (.inr (iS h1)))
section
variable {E:Env} {P:Program} {σ:Sg} {m m':M} {w:World}
theorem DJ{op:Op}{call:aK}{T:Tr aeM}{v:aeM}(H:fg op)(h:dn op E call T m=some (v,m')):m'=m:=by
 cases op <;>simp[fg]at H <;>simp only[dn]at h
 case move=>cases h;rfl
 case assign=>cases h;rfl
 case pick=>unfold rN at h;split at h <;>cases h;rfl
 case build=>unfold tx at h;split at h <;>cases h;rfl
 case nilCheck=>unfold hZ at h;split at h <;>cases h <;>rfl
 case binOp=>unfold DP at h;split at h <;>cases h;rfl
 case unOp=>unfold NJ at h;split at h <;>cases h;rfl
 case makeFunc=>unfold jg at h;split at h <;>cases h;rfl
 case fieldAddr=>unfold jE at h;split at h <;>cases h;rfl
 case field=>unfold tw at h;split at h <;>cases h;rfl
 case indexAddr=>unfold jD at h;split at h <;>cases h;rfl
 case index=>unfold tu at h;split at h <;>cases h;rfl
 case extract=>
  unfold kJ at h
  grind
theorem FI(hE:E.OK P){call:aK}{T:Tr aeM}{a:Act}{o:Oper}{v:aeM}(hp:fg o.op)(h:dn o.op E call T m=some (v,m'))
  (H:∀x∈o.op.operands.toList,bw σ (ev T x) (a.eval x)):∃v',(execOp a.eval o).run P w=.ok (.value v') w/\bw σ v v':=by
 have val:∀{s:Sem aeM} {v':aeM},s.run P w=.ok v' w->(do let x<-s;pure (Next.value x):Sem Next).run P w=.ok (.value v') w:=by
  simp_all
 unfold execOp
 cases ho:o.op with
 |move x=>rw[ho]at h H;cases h;exact⟨_,rfl,H x (by simp[Op.operands])⟩
 |assign x=>rw[ho]at h H;cases h;exact⟨_,rfl,H x (by simp[Op.operands])⟩
 |pick c x y=>
  rw[ho]at h H;dsimp only;simp only[dn,rN]at h;split at h
  ·rename_i t hc;obtain⟨rfl,rfl⟩:=h;have h1:=H c (by simp[Op.operands]);rw[hc]at h1;rw[h1.bool];refine⟨_,rfl,?_⟩;cases t;·exact H y (by simp[Op.operands])
   exact H x (by simp[Op.operands])
  cases h
 |build t ps=>
  rw[ho]at h H;simp only[dn,tx]at h;split at h
  ·rename_i z hz
   cases h
   obtain⟨v',h1,h2⟩:=wA (w:=w) hE (T:=ev T) (A:=a.eval) (λp hp=>H p.2 (by simp only[Op.operands];exact acP hp)) hz
   grind
  cases h
 |nilCheck x=>
  rw[ho]at h H;have h1:=H x (by simp[Op.operands]);simp only[dn,hZ]at h;split at h
  ·rename_i ad hx
   cases h
   rw[hx]at h1
   have⟨i,hi,_,he⟩:=h1.gW
   simp_all
  ·rename_i g a1 b1 hx
   cases h
   rw[hx]at h1
   have⟨a',b',he,_⟩:=h1.yX
   simp_all
  cases h
 |binOp op t x y yt=>
  rw[ho]at h H;simp only[dn,DP]at h;split at h
  ·rename_i z hz;cases h;obtain⟨q1,q2⟩:=Bo (w:=w) hE hz (H x (by simp[Op.operands])) (H y (by simp[Op.operands])) x y;exact⟨_,val q1,.flat _ q2⟩
  cases h
 |unOp op t x=>
  rw[ho]at h H;simp only[dn,NJ]at h;split at h
  ·rename_i z hz;cases h;obtain⟨q1,q2⟩:=Dq (P:=P) (w:=w) hz (H x (by simp[Op.operands]));exact⟨_,val q1,.flat _ q2⟩
  cases h
 |makeFunc f x y=>
  rw[ho]at h H;simp only[dn,jg]at h;split at h
  ·rename_i g;cases h;have e1:bK σ (x.toList.map (ev T)) (x.toList.map a.eval):=kN _ (λo hx=>H o (by simp[Op.operands];exact .inl (by grind)));have e2:bK σ (y.toList.map (ev T)) (y.toList.map a.eval):=kN _ (λo hx=>H o (by simp[Op.operands];exact .inr (by grind)));refine⟨_,rfl,?_⟩;refine .func g _ _ _ _ (by simp) (by simp) (λj u u' p q=>e1.2 j u u' (by grind) (by grind)) (λj u u' p q=>e2.2 j u u' (by grind) (by grind))
  cases h
 |fieldAddr s x f=>
  rw[ho]at h H;simp only[dn,jE]at h;split at h
  ·rename_i z hz
   cases h
   obtain⟨v',q1,q2⟩:=oz (w:=w) hE hz (H x (by simp[Op.operands]))
   grind
  cases h
 |field t x f=>
  rw[ho]at h H;simp only[dn,tw]at h;split at h
  ·rename_i z hz
   cases h
   obtain⟨v',q1,q2⟩:=wk (w:=w) hE hz (H x (by simp[Op.operands]))
   grind
  cases h
 |indexAddr t x y=>
  rw[ho]at h H;simp only[dn,jD]at h;split at h
  ·rename_i z hz
   cases h
   obtain⟨v',q1,q2⟩:=oo (w:=w) hE hz (H x (by simp[Op.operands])) (H y (by simp[Op.operands]))
   grind
  cases h
 |index t x y=>
  rw[ho]at h H;simp only[dn,tu]at h;split at h
  ·rename_i z hz
   cases h
   obtain⟨v',q1,q2⟩:=wg (w:=w) hE hz (H x (by simp[Op.operands])) (H y (by simp[Op.operands]))
   grind
  cases h
 |extract x i=>
  rw[ho]at h H;simp only[dn,kJ]at h;split at h
  ·rename_i vs hx;split at h
   ·rename_i z hz;cases h;have h1:=H x (by simp[Op.operands]);rw[hx]at h1;have⟨a0,he,hl⟩:=h1.uD;have⟨u',hu,hr⟩:=hl.get hz;refine⟨u',val ?_,hr⟩;rw[he];have:a0[i]?=some u':=by grind
    simp[Instr.extract,this]
   cases h
  cases h
 |_=>rw[ho]at hp;simp[fg]at hp
def DStep(E:Env)(call:aK)(ops:Array Oper)(fr:Fr)(o:Oper)(j:Nat)(H:Fr):Prop:=
 (cE ops fr.T o=false/\H={fr with T:=put fr.T o.dst undef})\/
 (cE ops fr.T o=true/\∃v m,dn o.op E call fr.T {fr.m with low:=fr.m.n}=some (v,m)/\(fr.m.n<=m.low\/eQ ops j=true\/zQ ops j fr.m fr.T o.op=true)/\
  H={T:=put fr.T o.dst v,m:={m with low:=min fr.m.low m.low}})
theorem zk{call:aK}{ops:Array Oper}:∀(l:List Oper) (j:Nat) (fr H:Fr),oH E call ops l j fr=some H->
  ∃tr:Nat->Fr,tr j=fr/\tr (j+l.length)=H/\∀i o,l[i]?=some o->DStep E call ops (tr (j+i)) o (j+i) (tr (j+i+1))
 |[],j,fr,H,h=>by
  simp only[Bg,abf]at h
  subst h
  exact⟨λ_=>fr,rfl,rfl,λi o h=>by simp at h⟩
 |o::l,j,fr,H,h=>by
  have key:∀a0,DStep E call ops fr o j a0->oH E call ops l (j+1) a0=some H->
    ∃tr:Nat->Fr,tr j=fr/\tr (j+(o::l).length)=H/\∀i o',(o::l)[i]?=some o'->DStep E call ops (tr (j+i)) o' (j+i) (tr (j+i+1)):=by
   intro a0 h1 h2
   have⟨tr,t1,t2,t3⟩:=zk l (j+1) a0 H h2
   refine⟨λk=>if k=j then fr else tr k,by simp,?_,?_⟩
   ·grind
   ·intro i o' hi
    cases i with
    |zero=>
     grind
    |succ i=>
     grind
  rw[lG]at h
  cases hw:cE ops fr.T o with
  |false=>
   rw[hw]at h
   exact key _ (.inl ⟨hw,rfl⟩) h
  |true=>
   rw[hw]at h
   simp only[cond_true]at h
   cases ho:dn o.op E call fr.T {fr.m with low:=fr.m.n}with
   |none=>rw[ho]at h;cases h
   |some p=>
    have⟨v,m⟩:=p
    rw[ho]at h
    simp only at h
    cases hb:(Nat.ble fr.m.n m.low ||(eQ ops j ||zQ ops j fr.m fr.T o.op))with
    |false=>rw[hb]at h;simp at h
    |true=>
     rw[hb]at h
     simp only[cond_true]at h
     refine key _ (.inr ⟨hw,v,m,ho,?_,rfl⟩) h
     simp only[acI]at hb
     exact hb.imp abB id
end
end
section
def Sg.cut(σ:Sg)(n:Nat):Sg:=λb=>if b < n then σ b else none
theorem Sg.cH{σ:Sg}{n b:Nat}{i:BI}:(σ.cut n) b=some i↔b < n/\σ b=some i:=by
 unfold Sg.cut
 grind
theorem Sg.CI{σ H:Sg}{n k:Nat}(h:σ.le H)(hn:n<=k):(σ.cut n).le (H.cut k):=by intro b i hb;rw[Sg.cH]at hb⊢;exact⟨by omega,h b i hb.2⟩
def M.kill(m:M)(l:List Nat):M:={m with st:=l.foldl (λt b=>t.set b .dead) m.st}
theorem Ig:∀(l:List Nat) (t:Tr Ob) (b:Nat),((l.foldl (λt b=>t.set b Ob.dead) t).get b).getD .dead=if b∈l then .dead else(t.get b).getD .dead
 |[],t,b=>by simp
 |x::l,t,b=>by
  rw[ac6,Ig l,Tr.bX]
  grind
theorem M.iM(m:M)(l:List Nat)(b:Nat):(m.kill l).get b=if b∈l then .dead else m.get b:=by
 rw[M.fo,M.fo]
 show(if b < m.n then((l.foldl (λt b=>t.set b Ob.dead) m.st).get b).getD .dead else .dead)=_
 rw[Ig]
 grind
theorem M.yO(m:M):m.kill []=m:=rfl
theorem BH{E:Env}{call:aK}{T:Tr aeM}{m0 m m1:M}{c:Call}{b:Nat}{v:aeM}(H:fK m0 T (.call c)=some b)(h:dn (.call c) E call T m=some (v,m1)):
  ∃f x a,c.callee=.value f/\c.args.toList=[x]/\ev T f=.func (.func Dw) #[] #[]/\ev T x=.pointer (some a)/\zu m0 a=some b/\call (.func Dw) [.pointer (some a)] m=some (v,m1):=by
 unfold fK at H;dsimp only at H;split at H
 ·rename_i f x hf hx;split at H
  ·rename_i g first captured a hg a0;rw[cond_eq_ite]at H;split at H
   ·rename_i hc
    simp only[abc]at hc
    have⟨⟨h1,h2⟩,h3⟩:=hc
    obtain rfl:=abn h1
    have e2:first= #[]:=by grind
    have e3:captured= #[]:=by grind
    subst e2
    subst e3
    refine⟨f,x,a,hf,hx,hg,a0,H,?_⟩
    simp only[dn,nI,hf,hg,hx,acN,adp,a0]at h
    grind
   ·grind
  ·grind
 ·grind
theorem JB{E:Env}{P:Program}{call:aK}(cY:dc P call){T:Tr aeM}{m0 m m1:M}{o:Op}{b:Nat}{v:aeM}(e0:∀a,zu m0 a=zu m a)(a0:fK m0 T o=some b)(h:dn o E call T m=some (v,m1))(hb:b < m.n):m1.n=m.n/\∀c,c≠b->m1.get c=m.get c:=by
 cases o with
 |store t a x=>
  unfold fK at a0;dsimp only at a0;split at a0
  ·rename_i ad g0;cases a0;simp only[dn,nH,g0]at h;split at h
   ·rename_i m2 H;cases h;unfold storeVar at H;split at H
    ·cases hq:Nat.beq (cells (ev T x)).length _ with
     |false=>rw[hq]at H;cases H
     |true=>
      rw[hq]at H;unfold storeCells at H;split at H
      ·cases d0:(ad.spot.isNone && Nat.ble (ad.off+(cells (ev T x)).length) _ && (cells (ev T x)).all one)with
       |false=>rw[d0]at H;cases H
       |true=>rw[d0]at H;cases H;exact⟨rfl,λc hc=>by rw[M.bX _ _ _ _ hb,abd hc]⟩
      ·grind
    ·grind
   cases h
  ·grind
 |call c=>have⟨f,x,a,_,_,_,_,b0,h0⟩:=BH a0 h;rw[e0]at b0;obtain⟨_,rfl,_⟩:=cY.LA a m v m1 b h0 b0;exact⟨rfl,λc hc=>by rw[M.bX _ _ _ _ hb,abd hc]⟩
 |_=>cases a0
section
variable {E:Env} {P:Program} {call:aK} {ops:Array Oper} {nt:Nat} {tr:Nat->Fr}
structure Ctx(E:Env)(P:Program)(call:aK)(ops:Array Oper)(nt:Nat)(tr:Nat->Fr):Prop where
 hE:E.OK P
 cY:dc P call
 ord:IS ops
 ok:∀o∈ops.toList,ic nt P.globals.size o=true
 step:∀j o,ops[j]?=some o->DStep E call ops (tr j) o j (tr (j+1))
 ghost:∀j,j<=ops.size->∃σ a w,eN P σ (tr j).m w/\dB σ (tr j).T a nt
theorem eN.low{σ:Sg}{m:M}{w:World}(h:eN P σ m w)(x:Nat):eN P σ {m with low:=x} w:=⟨h.sw,h.obj,h.lt,h.inj,h.kz⟩
theorem AT(hE:E.OK P)(cY:dc P call)(b0:∀o∈ops.toList,ic nt P.globals.size o)
  (H:∀j o,ops[j]?=some o->DStep E call ops (tr j) o j (tr (j+1))) {σ:Sg} {a:Act} {w:World} (hs:eN P σ (tr 0).m w) (hf:dB σ (tr 0).T a nt):
  ∀j,j<=ops.size->∃σ a w,eN P σ (tr j).m w/\dB σ (tr j).T a nt
 |0,_=>⟨σ,a,w,hs,hf⟩
 |j+1,hj=>by
  obtain⟨d0,a1,w1,h1,h2⟩:=AT hE cY b0 H hs hf j (by omega)
  have ho:ops[j]?=some ops[j]:=by grind
  have a0:=b0 ops[j] (by simp)
  rcases H j _ ho with⟨_,h⟩ |⟨_,v,m,e0,_,h⟩
  ·rw[h]
   exact⟨d0,a1.put ops[j].dst undef,w1,h1,h2.put (fh a0) bw.undef⟩
  ·rw[h]
   have⟨σ',w',v',hv,he⟩:=(tp hE cY (h1.low (tr j).m.n) e0 (a:=a1) (λx hx=>h2.FP h1 (ib a0 x hx))).1
   exact⟨σ',a1.put ops[j].dst v',w',he.sH.low _,(h2.mono he.ext).put (fh a0) hv⟩
def Wr(E:Env)(call:aK)(ops:Array Oper)(tr:Nat->Fr)(j:Nat):Prop:=
 ∃o v m,ops[j]?=some o/\cE ops (tr j).T o=true/\dn o.op E call (tr j).T {(tr j).m with low:=(tr j).m.n}=some (v,m)/\¬(tr j).m.n<=m.low
def Qt(E:Env)(call:aK)(ops:Array Oper)(tr:Nat->Fr)(j:Nat):Prop:=Wr E call ops tr j/\eQ ops j=true
def xQ(E:Env)(call:aK)(ops:Array Oper)(tr:Nat->Fr)(j b:Nat):Prop:=
 Wr E call ops tr j/\eQ ops j=false/\∃o,ops[j]?=some o/\fK (tr j).m (tr j).T o.op=some b/\nE ops j b (tr j).T=true
theorem Ctx.wr(c:Ctx E P call ops nt tr){j:Nat}(h:Wr E call ops tr j):Qt E call ops tr j\/∃b,xQ E call ops tr j b:=by
 cases hb:eQ ops j with
 |true=>exact .inl ⟨h,hb⟩
 |false=>
  refine .inr ?_;have⟨o,v,m,ho,hw,a0,hn⟩:=id h;rcases c.step j o ho with⟨h0,_⟩ |⟨_,v',m',H,hq,_⟩
  ·grind
  rw[a0]at H;cases H;rcases hq with hq |hq |hq
  ·grind
  ·grind
  unfold zQ at hq;split at hq
  ·rename_i b b0;exact⟨b,h,hb,o,ho,b0,hq⟩
  cases hq
theorem Wr.lt{j:Nat}(h:Wr E call ops tr j):j < ops.size:=by
 have⟨o,_,_,H,_⟩:=h
 grind
theorem xQ.lH{j b H:Nat}(h:xQ E call ops tr j b)(h':xQ E call ops tr j H):H=b:=by
 have⟨_,_,o,ho,hs,_⟩:=h
 have⟨_,_,o',a0,b0,_⟩:=h'
 grind
theorem Ctx.TN(c:Ctx E P call ops nt tr){j b:Nat}(h:xQ E call ops tr j b):b < (tr j).m.n:=by
 have⟨⟨o,v,m,ho,hw,b0,hn⟩,_,o',h0,H,_⟩:=h
 rw[ho]at h0
 cases h0
 cases d0:o.op with
 |store t a x=>
  rw[d0]at H b0;unfold fK at H;dsimp only at H;split at H
  ·rename_i ad j0;cases H;simp only[dn,nH,j0]at b0;split at b0
   ·rename_i m2 a0;refine abA λe0=>?_
    have hd:({(tr j).m with low:=(tr j).m.n}:M).get ad.block=.dead:=by rw[M.fo,abd e0]
    unfold storeVar at a0;split at a0
    ·cases hq:Nat.beq (cells (ev (tr j).T x)).length _ with
     |false=>rw[hq]at a0;cases a0
     |true=>
      rw[hq]at a0
      unfold storeCells at a0
      grind
    ·grind
   ·grind
  ·grind
 |call cc=>rw[d0]at H b0;have⟨f,x,a,_,_,_,_,i0,k0⟩:=BH H b0;obtain⟨g0,_⟩:=c.cY.LA a _ v m b k0 i0;refine abA λe0=>g0 ?_;rw[M.fo,abd e0]
 |_=>rw[d0]at H;cases H
theorem Ctx.fact(c:Ctx E P call ops nt tr){j:Nat}{o:Oper}(ho:ops[j]?=some o):(tr j).m.n<=(tr (j+1)).m.n/\(tr (j+1)).m.low<=(tr j).m.low/\
  (∀b,b < (tr (j+1)).m.low->b < (tr j).m.n->(tr (j+1)).m.get b=(tr j).m.get b)/\
  (¬Qt E call ops tr j->∀b,b < (tr j).m.n->¬xQ E call ops tr j b->(tr (j+1)).m.get b=(tr j).m.get b):=by
 have k0:j < ops.size:=(ab2.1 ho).1;have b0:=c.ok o (by grind);rcases c.step j o ho with⟨_,h⟩ |⟨hw,v,m,H,hb,h⟩
 ·grind
 obtain⟨l0,a1,w1,h1,h2⟩:=c.ghost j (by omega);have⟨σ',w',v',hv,he⟩:=(tp c.hE c.cY (h1.low (tr j).m.n) H (a:=a1) (λx hx=>h2.FP h1 (ib b0 x hx))).1;have hn:=he.LD;have ha:=he.abs;rw[h];refine⟨hn,adW _ _,λb hb a0=>ha b (by grind) a0,λn0 b a0 g0=>?_⟩;by_cases h0:(tr j).m.n<=m.low;·exact ha b (by omega) a0
 have hW:Wr E call ops tr j:=⟨o,v,m,ho,hw,H,h0⟩
 rcases c.wr hW with hB |⟨b',hP⟩
 ·grind
 have i0:=c.TN hP;have⟨_,_,o',d0,j0,_⟩:=id hP;rw[ho]at d0;cases d0;have e0:=(JB (m0:=(tr j).m) (m:={(tr j).m with low:=(tr j).m.n}) c.cY (λ_=>rfl) j0 H i0).2 b λe=>g0 (e ▸ hP);exact e0
theorem Ctx.qF(c:Ctx E P call ops nt tr){j:Nat}{o:Oper}(ho:ops[j]?=some o)(hp:fg o.op):(tr (j+1)).m.n=(tr j).m.n/\¬Wr E call ops tr j:=by
 constructor
 ·rcases c.step j o ho with⟨_,h⟩ |⟨hw,v,m,H,hb,h⟩;·rw[h]
  rw[h,DJ hp H]
 ·rintro⟨o',v,m,a0,_,H,hn⟩
  rw[ho]at a0
  cases a0
  rw[DJ hp H]at hn
  grind
theorem Ctx.bar(c:Ctx E P call ops nt tr){j:Nat}(h:Qt E call ops tr j):eQ ops j/\j < ops.size:=⟨h.2,h.1.lt⟩
theorem Bq{j:Nat}(h:j < ops.size):∃o,ops[j]?=some o:=⟨ops[j],by simp[h]⟩
theorem Ctx.mono(c:Ctx E P call ops nt tr){i:Nat}:∀k,i<=k->k<=ops.size->(tr i).m.n<=(tr k).m.n/\(tr k).m.low<=(tr i).m.low
 |0,h,_=>by
  grind
 |k+1,h,hk=>by
  by_cases H:i=k+1
  ·grind
  ·obtain⟨h1,h2⟩:=c.mono (i:=i) k (by omega) (by omega)
   obtain⟨o,ho⟩:=Bq (ops:=ops) (show k < ops.size by omega)
   have⟨h3,h4,_⟩:=c.fact ho
   omega
theorem Ctx.nh(c:Ctx E P call ops nt tr){i:Nat}:∀k,i<=k->k<=ops.size->(∀b,i<=b->b < k->¬Qt E call ops tr b)->∀x,x < (tr i).m.n->(∀p,i<=p->p < k->¬xQ E call ops tr p x)->(tr k).m.get x=(tr i).m.get x
 |0,h,_,_,x,_,_=>by
  grind
 |k+1,h,hk,H,x,hx,hp=>by
  by_cases a0:i=k+1
  ·grind
  ·obtain⟨o,ho⟩:=Bq (ops:=ops) (show k < ops.size by omega)
   have h1:=(c.mono k (show i<=k by omega) (by omega)).1
   rw[(c.fact ho).2.2.2 (H k (show i<=k by omega) (aee k)) x (acL hx h1) (hp k (by omega) (aee k))]
   exact c.nh k (by omega) (by omega) (λb h1 h2=>H b h1 (by omega)) x hx (λp h1 h2=>hp p h1 (by omega))
theorem Ctx.abs(c:Ctx E P call ops nt tr):∀k,k<=ops.size->∀x,x < (tr k).m.low->x < (tr 0).m.n->(tr k).m.get x=(tr 0).m.get x
 |0,_,_,_,_=>rfl
 |k+1,hk,x,H,hn=>by
  obtain⟨o,ho⟩:=Bq (ops:=ops) (show k < ops.size by omega)
  have h1:=(c.mono (i:=0) k (by omega) (by omega)).1
  have⟨_,h2,h3,_⟩:=c.fact ho
  rw[h3 x H (by omega)]
  exact c.abs k (by omega) x (by omega) hn
theorem Nu(T:Tr aeM){dst:Option Tmp}{t:Tmp}(h:dst≠some t)(v:aeM):iT (put T dst v) t=iT T t:=by
 cases dst with
 |none=>rfl
 |some d=>rw[GX,abd (λe=>h (by rw[e]))]
theorem Ctx.qJ(c:Ctx E P call ops nt tr){i t:Nat}:∀k,i<=k->k<=ops.size->(∀j o,i<=j->j < k->ops[j]?=some o->o.dst≠some t)->iT (tr k).T t=iT (tr i).T t
 |0,h,_,_=>by
  grind
 |k+1,h,hk,hb=>by
  by_cases a0:i=k+1
  ·grind
  ·obtain⟨o,ho⟩:=Bq (ops:=ops) (show k < ops.size by omega)
   have H:=hb k o (by omega) (by omega) ho
   have ih:=c.qJ k (by omega) (by omega) (λj o h1 h2=>hb j o h1 (by omega))
   rw[<-ih]
   rcases c.step k o ho with⟨_,h⟩ |⟨_,v,m,_,_,h⟩
   ·rw[h];exact Nu _ H _
   ·rw[h];exact Nu _ H _
structure Inv(E:Env)(P:Program)(call:aK)(ops:Array Oper)(nt:Nat)(tr:Nat->Fr)(σ0:Sg)(w0:World)(ds:List Deferred)(L:Nat->Prop)(σ:Sg)(a:Act)(w:World):Prop where
 lt:∀i,L i->i < ops.size
 closed:Da ops L
 Tu:a.tmps.size=nt
 defs:a.defers=ds
 tmp:∀t,t < nt->∃k,k<=ops.size/\bw (σ.cut (tr k).m.n) (iT (tr k).T t) (a.eval (.tmp t))/\(∀i o,L i->ops[i]?=some o->o.dst=some t->i < k)/\(k=0\/∃o,L (k-1)/\ops[k-1]?=some o/\o.dst=some t)
 SD:∀k l,k<=ops.size->(∀b,Qt E call ops tr b->(b < k↔L b))->(∀p b,xQ E call ops tr p b->(p < k↔L p)\/b∈l)->eN P (σ.cut (tr k).m.n) ((tr k).m.kill l) w
 LA:∀p b,L p->xQ E call ops tr p b->∃i,σ b=some i
 sw:∀b i,σ b=some i->b < (tr 0).m.n\/∃j,L j/\(tr j).m.n<=b/\b < (tr (j+1)).m.n
 base:σ0.le σ
 new:∀b i,σ b=some i->σ0 b=none->(tr 0).m.n<=b/\(w0.heap.size<=i.cI\/∃b0 i0,σ0 b0=some i0/\i0.cI=i.cI/\(tr ops.size).m.low<=b0)
 hle:w0.heap.size<=w.heap.size
 heap:∀B,B < w0.heap.size->(∀b i,σ0 b=some i->i.cI=B->b < (tr ops.size).m.low)->w.heap[B]?=w0.heap[B]?
 os:w.os=w0.os
 tape:w.tape=w0.tape
 output:w.output=w0.output
 kz:∀g,g < P.globals.size->g < (tr 0).m.n/\σ0 g=some ⟨g,none⟩
variable {σ0 σ:Sg} {w0 w:World} {ds:List Deferred} {L:Nat->Prop} {a:Act}
theorem Inv.names(c:Ctx E P call ops nt tr)(h:Inv E P call ops nt tr σ0 w0 ds L σ a w){j:Nat}{o:Oper}(hj:¬L j)(ho:ops[j]?=some o)(e0:∀e∈o.after,Region.binds .any e->L e.on)
  {t:Nat} (ht:t < nt) (hn:t∈jv ops o):bw (σ.cut (tr j).m.n) (iT (tr j).T t) (a.eval (.tmp t)):=by
 have g0:j < ops.size:=(ab2.1 ho).1;have⟨k,hk,hv,hw,H⟩:=h.tmp t ht
 have a0:k<=j:=by
  rcases H with rfl |⟨o',hL,b0,hd⟩;·omega
  refine abA λhc=>?_;have h0:k-1≠j:=λe=>hj (e ▸ hL);rcases c.ord.apart j (k-1) o o' ho b0 (by omega)with hr |⟨h1,_⟩;·exact hj (hr.jh h.closed hL)
  ·grind
 have hT:iT (tr j).T t=iT (tr k).T t:=c.qJ j a0 (by omega) λi oi h1 h2 d0 hd=>by
  rcases c.ord.apart i j oi o d0 ho h2 with hr |⟨_,h3⟩
  ·have:=hr.listed h.closed (by grind)
   grind
  ·grind
 rw[hT];exact hv.mono (Sg.CI (λ_ _ x=>x) (c.mono j a0 (by omega)).1)
theorem Inv.DW(c:Ctx E P call ops nt tr)(h:Inv E P call ops nt tr σ0 w0 ds L σ a w){j:Nat}{o:Oper}(hj:¬L j)(ho:ops[j]?=some o){v v':aeM}(hT:(tr (j+1)).T=put (tr j).T o.dst v)
  {σ':Sg} (hle:σ.le σ') (hv:bw (σ'.cut (tr (j+1)).m.n) v v'):∀t,t < nt->∃k,k<=ops.size/\bw (σ'.cut (tr k).m.n) (iT (tr k).T t) ((a.put o.dst v').eval (.tmp t))/\
   (∀i H,(i=j\/L i)->ops[i]?=some H->H.dst=some t->i < k)/\(k=0\/∃H,(k-1=j\/L (k-1))/\ops[k-1]?=some H/\H.dst=some t):=by
 intro t ht;have e0:j < ops.size:=(ab2.1 ho).1;by_cases hd:o.dst=some t
 ·refine⟨j+1,by omega,?_,?_,.inr ⟨o,.inl rfl,ho,hd⟩⟩
  ·rw[hT,hd,GX,abe rfl]
   have:(a.put (some t) v').eval (.tmp t)=v':=by simp[Act.put,Act.eval,h.Tu,ht]
   grind
  rintro i H (rfl |hL) b0 d0;·omega
  refine abA λhc=>?_;rcases c.ord.apart j i o H ho b0 (by omega)with hr |⟨h1,_⟩;·exact hj (hr.jh h.closed hL)
  exact h1 t d0 (by unfold jv;rw[hd];simp)
 have⟨k,hk,hv,hw,a0⟩:=h.tmp t ht;refine⟨k,hk,?_,?_,a0.imp id (λ⟨H,x,y,z⟩=>⟨H,.inr x,y,z⟩)⟩
 ·rw[Act.eval_put (by grind)];exact hv.mono (Sg.CI hle (aa4 _))
 ·grind
end
end
section
section
variable {E:Env} {P:Program} {call:aK} {ops:Array Oper} {nt:Nat} {tr:Nat->Fr} {σ0 σ:Sg} {w0 w:World} {ds:List Deferred} {L:Nat->Prop} {a:Act}
theorem put_defers(a:Act)(dst:Option Tmp)(v:aeM):(a.put dst v).defers=a.defers:=by cases dst <;>rfl
theorem DI(a:Act)(dst:Option Tmp)(v:aeM):(a.put dst v).tmps.size=a.tmps.size:=by cases dst <;>simp[Act.put]
theorem Inv.wo(h:Inv E P call ops nt tr σ0 w0 ds L σ a w){j:Nat}{o:Oper}(ho:ops[j]?=some o)(a0:∀e∈o.after,Region.binds .any e->L e.on):Da ops (λi=>i=j\/L i):=by
 rintro i o' H (rfl |hL) e he hb
 ·grind
 exact .inr (h.closed i o' H hL e he hb)
theorem Inv.same(c:Ctx E P call ops nt tr)(h:Inv E P call ops nt tr σ0 w0 ds L σ a w){j:Nat}{o:Oper}(hj:¬L j)(ho:ops[j]?=some o)(d0:∀e∈o.after,Region.binds .any e->L e.on)
  {v v':aeM} (hT:(tr (j+1)).T=put (tr j).T o.dst v) (H:¬Wr E call ops tr j) (hv:bw (σ.cut (tr (j+1)).m.n) v v'):
  Inv E P call ops nt tr σ0 w0 ds (λi=>i=j\/L i) σ (a.put o.dst v') w where
 lt:=by
  rintro i (rfl |hL)
  ·grind
  ·exact h.lt i hL
 closed:=h.wo ho d0
 Tu:=by rw[DI];exact h.Tu
 defs:=by rw[put_defers];exact h.defs
 tmp:=h.DW c hj ho hT (λ_ _ x=>x) hv
 SD:=λk l hk hw hp=>h.SD k l hk (λb a0=>(hw b a0).trans ⟨λx=>x.resolve_left (λe=>H (e ▸ a0.1)),.inr⟩) (λp b b0=>(hp p b b0).imp (λx=>x.trans ⟨λx=>x.resolve_left (λe=>H (e ▸ b0.1)),.inr⟩) id)
 LA:=by
  rintro p b (rfl |hL) hp
  ·exact absurd hp.1 H
  ·exact h.LA p b hL hp
 sw:=λb i H=>(h.sw b i H).imp id λ⟨q,x,y⟩=>⟨q,.inr x,y⟩
 base:=h.base
 new:=h.new
 hle:=h.hle
 heap:=h.heap
 os:=h.os
 tape:=h.tape
 output:=h.output
 kz:=h.kz
theorem Inv.LM(c:Ctx E P call ops nt tr)(h:Inv E P call ops nt tr σ0 w0 ds L σ a w){j:Nat}{o:Oper}(hj:¬L j)(ho:ops[j]?=some o)(a0:∀e∈o.after,Region.binds .any e->L e.on)
  (hp:fg o.op=false):∀b,Qt E call ops tr b->(b < j↔L b):=by
 intro b hb;have H:=(c.bar hb).1;rcases mF H j o ho with rfl |h1 |h1 |h1
 ·grind
 ·grind
 ·have:=h1.lt c.ord.lt;exact⟨λx=>by omega,λx=>absurd (h1.jh h.closed x) hj⟩
 exact⟨λ_=>h1.listed h.closed (by grind),λ_=>h1.lt c.ord.lt⟩
theorem uP{ops:Array Oper}{p b i:Nat}{T:Tr aeM}{o:Oper}(h:nE ops p b T)(ho:ops[i]?=some o)(hp:fg o.op=false):
  i=p\/Reach ops i p\/Reach ops p i\/(i < p/\((∃t,o.op=.alloc t)\/(∃t x,o.op=.box t x)\/(∃t s,o.op=.load t (.tmp s)/\(∀k q,i<=k->k < p->ops[k]?=some q->q.dst≠some s)/\
   (∀g w d,o.guard=some (g,w)->(ops[g]?).bind (·.dst)=some d->∀k q,i<=k->k < p->ops[k]?=some q->q.dst≠some d)/\(cE ops T o=false\/∃ad,iT T s=.pointer (some ad)/\ad.block≠b))\/
   nK o.op\/∃s,lenOf o.op=some s/\(∀k q,i<=k->k < p->ops[k]?=some q->q.dst≠some s)/\∀r,iT T s≠.map r)):=by
 unfold nE at h;have h:=abw.1 h (o,i) (by grind)
 have same:∀t,(ops.toList.zipIdx.all λ(q,k)=> !(Nat.ble i k && Nat.blt k p && q.dst==some t))->∀k q,i<=k->k < p->ops[k]?=some q->q.dst≠some t:=by intro t H k q h1 h2 hq e;have H:=abw.1 H (q,k) (by grind);dsimp only at H;rw[kA]at H;simp[abT h1,h2,e]at H
 dsimp only at h;simp only[acI,beq_iff_eq,abc,hp]at h;rcases h with(((h |h) |h) |h) |⟨h1,h2⟩
 ·grind
 ·cases h
 ·exact .inr (.inl (iS h))
 ·exact .inr (.inr (.inl (iS h)))
 ·rw[kA]at h1
  grind
theorem xQ.ok{p b:Nat}(h:xQ E call ops tr p b):nE ops p b (tr p).T:=by have⟨_,_,_,_,_,hk⟩:=h;exact hk
theorem Wr.op{j:Nat}(c:Ctx E P call ops nt tr)(h:Wr E call ops tr j):∃o,ops[j]?=some o/\fg o.op=false:=by
 have⟨o,v,m,H,hw,a0,hn⟩:=id h
 refine⟨o,H,?_⟩
 cases hp:fg o.op with
 |false=>rfl
 |true=>exact absurd h (c.qF H hp).2
theorem Inv.Qv(c:Ctx E P call ops nt tr)(h:Inv E P call ops nt tr σ0 w0 ds L σ a w){j:Nat}{o:Oper}(hj:¬L j)(ho:ops[j]?=some o)(h0:∀e∈o.after,Region.binds .any e->L e.on)
  (hp:fg o.op=false):∃l:List Nat,(∀p b,xQ E call ops tr p b->(p < j↔L p)\/b∈l)/\∀b∈l,∃p,L p/\xQ E call ops tr p b/\j < p/\nE ops p b (tr p).T/\¬Reach ops j p/\¬Reach ops p j:=by
 have key:∀n,∃l:List Nat,(∀p b,p < n->xQ E call ops tr p b->(p < j↔L p)\/b∈l)/\∀b∈l,∃p,L p/\xQ E call ops tr p b/\j < p/\nE ops p b (tr p).T/\¬Reach ops j p/\¬Reach ops p j:=by
  intro n
  induction n with
  |zero=>exact⟨[],λp b b0=>by omega,λb hb=>by cases hb⟩
  |succ n ih=>
   have⟨l,h1,h2⟩:=ih;by_cases hx:∃b,xQ E call ops tr n b/\¬(n < j↔L n)
   ·have⟨b,hb,a0⟩:=hx;refine⟨b::l,λp b' b0 H=>?_,λb' H=>?_⟩
    ·by_cases d0:p=n
     ·subst d0
      rw[hb.lH H]
      grind
     ·grind
    rcases abp.1 H with rfl |H
    ·have e0:nE ops n b' (tr n).T:=by have⟨_,_,_,_,_,hk⟩:=id hb;exact hk
     rcases uP e0 ho hp with rfl |hr |hr |⟨g0,_⟩
     ·grind
     ·exfalso;have:=hr.lt c.ord.lt;exact a0 ⟨λx=>by omega,λx=>absurd (hr.jh h.closed x) hj⟩
     ·exfalso;have:=hr.lt c.ord.lt;exact a0 ⟨λ_=>hr.listed h.closed (by grind),λ_=>this⟩
     have hL:L n:=abA λhc=>a0 ⟨λx=>by omega,λx=>absurd x hc⟩;refine⟨n,hL,hb,g0,e0,λhr=>hj (hr.jh h.closed hL),λhr=>?_⟩;have:=hr.lt c.ord.lt;omega
    ·grind
   ·refine⟨l,λp b' b0 H=>?_,h2⟩
    grind
 have⟨l,h1,h2⟩:=key ops.size;exact⟨l,λp b hb=>h1 p b hb.1.lt hb,h2⟩
theorem Inv.effect(c:Ctx E P call ops nt tr)(h:Inv E P call ops nt tr σ0 w0 ds L σ a w){j:Nat}{o:Oper}(hj:¬L j)(ho:ops[j]?=some o)(K0:∀e∈o.after,Region.binds .any e->L e.on)
  (hp:fg o.op=false) {v v':aeM} {m mk:M} {lk:List Nat} {τ:Sg} {w':World} (v1:mk.n=m.n) (N1:mk.low=m.low) (L0:∀b,b∉lk\/(tr j).m.n<=b->mk.get b=m.get b)
  (w1:∀p b,xQ E call ops tr p b->(p < j↔L p)\/b∈lk)
  (d0:Ev P (σ.cut (tr j).m.n) {(tr j).m.kill lk with low:=(tr j).m.n} w τ mk w') (hv:bw τ v v')
  (F0:tr (j+1)={T:=put (tr j).T o.dst v,m:={m with low:=min (tr j).m.low m.low}}) (hq:((tr j).m.n<=m.low/\¬Wr E call ops tr j)\/(Wr E call ops tr j/\lk=[]))
  (N0:∀b,xQ E call ops tr j b->(tr j).m.get b≠.dead/\∃i,σ b=some i/\∀B,B≠i.cI->w'.heap[B]?=w.heap[B]?):
  ∃σ',Inv E P call ops nt tr σ0 w0 ds (λi=>i=j\/L i) σ' (a.put o.dst v') w':=by
 have O1:j < ops.size:=(ab2.1 ho).1;have P1:(tr (j+1)).m.n=m.n:=by rw[F0]
 have O0:∀b,(tr (j+1)).m.get b=m.get b:=by intro b;rw[F0];rfl
 have y1:(tr (j+1)).m.low<=m.low:=by grind
 have hN:=(c.mono (i:=j+1) ops.size (by omega) (aa4 _)).2;have J1:(tr j).m.n<=m.n:=by have:=d0.LD;rw[v1]at this;exact this
 have z1:∀b i,σ b=some i->¬((tr j).m.n<=b/\b < m.n):=by
  rintro b i H ⟨h1,h2⟩;rcases h.sw b i H with h3 |⟨q,A0,h3,h4⟩
  ·have:=(c.mono (i:=0) j (by omega) (by omega)).1;omega
  have Q0:=h.lt q A0;rcases adn q j with A1 |rfl |A1
  ·have:=(c.mono (i:=q+1) j (by omega) (by omega)).1;omega
  ·grind
  have:=(c.mono (i:=j+1) q (by omega) (by omega)).1;omega
 have T1:∀b i,τ b=some i->b < (tr j).m.n->σ b=some i:=by
  intro b i H B1
  cases hs:(σ.cut (tr j).m.n) b with
  |some i'=>have:=d0.ext b i' hs;rw[H]at this;cases this;exact(Sg.cH.1 hs).2
  |none=>have h0:=(d0.new b i H hs).1;have h0:(tr j).m.n<=b:=h0;omega
 have a1:∀b i,τ b=some i->b < m.n:=λb i H=>by have:=d0.sH.sw b i H;omega
 let σ':Sg:=λb=>if(tr j).m.n<=b/\b < m.n then τ b else σ b
 have hle:σ.le σ':=by
  intro b i H
  grind
 have p0:∀k,m.n<=k->τ.le (σ'.cut k):=by
  intro k hk b i H
  have B1:=a1 b i H
  rw[Sg.cH]
  grind
 have s0:∀b i,σ' b=some i->(((tr j).m.n<=b/\b < m.n)/\τ b=some i)\/(¬((tr j).m.n<=b/\b < m.n)/\σ b=some i):=by
  grind
 have C1:=h.LM c hj ho K0 hp;have hs:=d0.sH;refine⟨σ',?_⟩;constructor
 ·rintro i (rfl |hL)
  ·grind
  exact h.lt i hL
 ·exact h.wo ho K0
 ·rw[DI];exact h.Tu
 ·rw[put_defers];exact h.defs
 ·exact h.DW c hj ho (by rw[F0]) hle (hv.mono (by grind))
 ·
  intro k l hk hw c1
  by_cases y0:Wr E call ops tr j
  ·
   obtain rfl:lk=[]:=(hq.resolve_left λx=>x.2 y0).2
   have d1:∀b,mk.get b=m.get b:=λb=>L0 b (.inl (by simp))
   have D1:∀p b,xQ E call ops tr p b->(p < j↔L p):=λp b H=>(w1 p b H).resolve_right (by simp)
   have E0:∀b i,σ b=some i->b < (tr j).m.n:=by
    intro b i H;rcases h.sw b i H with h3 |⟨q,A0,h3,h4⟩
    ·have:=(c.mono (i:=0) j (by omega) (by omega)).1;omega
    ·have Q0:=h.lt q A0
     have⟨oq,G0⟩:=Bq (ops:=ops) Q0
     have before:Reach ops q j->b < (tr j).m.n:=λh5=>by have:=h5.lt c.ord.lt;have:=(c.mono (i:=q+1) j (by omega) (by omega)).1;omega
     cases e1:fg oq.op with
     |true=>have:=(c.qF G0 e1).1;omega
     |false=>
      rcases c.wr y0 with g1 |⟨b0,u0⟩
      ·rcases mF g1.2 q oq G0 with rfl |h5 |h5 |h5
       ·grind
       ·grind
       ·grind
       exact absurd (h5.jh h.closed A0) hj
      rcases uP (xQ.ok u0) G0 e1 with rfl |h5 |h5 |⟨h5,_⟩
      ·grind
      ·grind
      ·exact absurd (h5.jh h.closed A0) hj
      have:=(c.mono (i:=q+1) j (by omega) (by omega)).1;omega
   by_cases l0:j < k
   ·have j1:∀b,j+1<=b->b < k->¬Qt E call ops tr b:=by
     grind
    have k1:∀p x,j+1<=p->p < k->xQ E call ops tr p x->x∈l:=by
     grind
    have l1:=(c.mono (i:=j+1) k (by omega) hk).1
    have heq:∀b i,(σ'.cut (tr k).m.n) b=some i->τ b=some i:=by
     intro b i H;rw[Sg.cH]at H;rcases s0 b i H.2 with⟨_,h1⟩ |⟨_,h1⟩;·exact h1
     exact d0.ext b i (Sg.cH.2 ⟨E0 b i h1,h1⟩)
    have q0:∀b i,τ b=some i->b∉l->(tr k).m.get b=mk.get b:=by intro b i H a0;rw[c.nh k (show j+1<=k by omega) hk j1 b (by grind) (λp h1 h2 h3=>a0 (k1 p b h1 h2 h3)),O0,d1]
    refine⟨λb i H=>(Sg.cH.1 H).1,λb i H=>?_,λb i H=>hs.lt b i (heq b i H),λb b' i i' H g0 hd e0=>?_,λg hg=>p0 _ (by omega) g _ (hs.kz g hg)⟩
    ·rw[M.iM];by_cases a0:b∈l;·rw[abe a0];trivial
     rw[abd a0,q0 b i (heq b i H) a0];exact(hs.obj b i (heq b i H)).aY (p0 _ (by omega)) rfl
    rw[M.iM]at hd e0;by_cases a0:b∈l
    ·grind
    by_cases n0:b'∈l
    ·grind
    rw[abd a0,q0 b i (heq b i H) a0]at hd;rw[abd n0,q0 b' i' (heq b' i' g0) n0]at e0;exact hs.inj b b' i i' (heq b i H) (heq b' i' g0) hd e0
   ·
    have B0:¬Qt E call ops tr j:=λH=>l0 ((hw j H).2 (.inl rfl))
    obtain⟨b0,u0⟩:=(c.wr y0).resolve_left B0
    have K1:b0∈l:=(c1 j b0 u0).resolve_left λx=>l0 (x.2 (.inl rfl))
    have⟨E1,i0,o1,F1⟩:=N0 b0 u0
    have H0:∀b,Qt E call ops tr b->(b < k↔L b):=λb H=>(hw b H).trans ⟨λx=>x.resolve_left (λe=>B0 (e ▸ H)),.inr⟩
    have D0:∀p b,xQ E call ops tr p b->(p < k↔L p)\/b∈l:=by
     grind
    have hA:=h.SD k l hk H0 D0
    have hJ:=h.SD j [] (by omega) C1 (λp b H=> .inl (D1 p b H))
    have l1:=(c.mono (i:=k) j (by omega) (by omega)).1
    have p1:∀b,b < (tr k).m.n->b∉l->(tr j).m.get b=(tr k).m.get b:=by
     intro b H a0;refine c.nh j (by omega) (by omega) (λq h1 h2 h3=>?_) b H (λp h1 h2 h3=>a0 ?_)
     ·grind
     ·grind
    have o0:(σ.cut (tr k).m.n).le (σ'.cut (tr k).m.n):=Sg.CI hle (aa4 _)
    have j0:∀b i,(σ'.cut (tr k).m.n) b=some i->(σ.cut (tr k).m.n) b=some i:=by
     intro b i H
     rw[Sg.cH]at H⊢
     grind
    have G1:∀b i,(σ.cut (tr k).m.n) b=some i->b∉l->(tr k).m.get b≠.dead->i.cI≠i0.cI:=by
     intro b i H a0 hd he
     have r1:=Sg.cH.1 H
     have H1:b < (tr j).m.n:=by omega
     have:=hJ.inj b b0 i i0 (Sg.cH.2 ⟨H1,r1.2⟩) (Sg.cH.2 ⟨E0 b0 i0 o1,o1⟩) (by rw[M.yO,p1 b r1.1 a0];exact hd) (by rw[M.yO];exact E1) he
     grind
    refine⟨λb i H=>(Sg.cH.1 H).1,λb i H=>?_,λb i H=>?_,λb b' i i' H g0 hd e0 he=>hA.inj b b' i i' (j0 b i H) (j0 b' i' g0) hd e0 he,λg hg=>o0 g _ (hA.kz g hg)⟩
    ·have g0:=j0 b i H;have I0:=hA.obj b i g0;rw[M.iM]at I0⊢;by_cases a0:b∈l;·rw[abe a0];trivial
     rw[abd a0]at I0⊢;by_cases hd:(tr k).m.get b=.dead;·rw[hd];trivial
     exact I0.aY o0 (F1 _ (G1 b i g0 a0 hd))
    ·have:=hA.lt b i (j0 b i H);have:=d0.hle;omega
  ·
   have a2:(tr j).m.n<=m.low:=(hq.resolve_right (λx=>y0 x.1)).1
   have H0:∀b,Qt E call ops tr b->(b < k↔L b):=λb H=>(hw b H).trans ⟨λx=>x.resolve_left (λe=>y0 (e ▸ H.1)),.inr⟩
   have D0:∀p b,xQ E call ops tr p b->(p < k↔L p)\/b∈l:=λp b H=>(c1 p b H).imp (λx=>x.trans ⟨λy=>y.resolve_left (λe=>y0 (e ▸ H.1)),.inr⟩) id
   have hA:=h.SD k l hk H0 D0
   have J0:∀B,B < w.heap.size->w'.heap[B]?=w.heap[B]?:=λB hB=>d0.heap B hB λb i H _=>by have:=(Sg.cH.1 H).1;omega
   have o0:(σ.cut (tr k).m.n).le (σ'.cut (tr k).m.n):=Sg.CI hle (aa4 _)
   have k0:∀b i,(σ'.cut (tr k).m.n) b=some i->(((tr j).m.n<=b/\b < m.n)/\τ b=some i/\j < k)\/(σ.cut (tr k).m.n) b=some i:=by
    intro b i H;rw[Sg.cH]at H;rcases s0 b i H.2 with⟨h1,h2⟩ |⟨_,h2⟩
    ·refine .inl ⟨h1,h2,?_⟩;refine abA λhc=>?_;have:=(c.mono (i:=k) j (by omega) (by omega)).1;omega
    exact .inr (Sg.cH.2 ⟨H.1,h2⟩)
   have q0:j < k->∀b,(tr j).m.n<=b->b < m.n->b∉l->(tr k).m.get b=mk.get b:=by
    intro l0 b I1 H a0
    rw[c.nh k (show j+1<=k by omega) hk (λb h1 h2 h3=>by
     grind) b (by grind) (λp h1 h2 h3=>by
      rcases D0 p b h3 with h4 |h4
      ·have⟨i,hi⟩:=h.LA p b (h4.1 h2) h3
       grind
      ·grind),O0,L0 b (.inr I1)]
   have v0:∀b i,(tr j).m.n<=b->τ b=some i->w.heap.size<=i.cI:=by
    intro b i h1 h2
    have r0:(σ.cut (tr j).m.n) b=none:=by
     cases hx:(σ.cut (tr j).m.n) b with
     |none=>rfl
     |some i'=>have:=(Sg.cH.1 hx).1;omega
    rcases(d0.new b i h2 r0).2 with h3 |⟨b0,i0,h3,_,h5⟩;·exact h3
    have:=(Sg.cH.1 h3).1;omega
   refine⟨λb i H=>(Sg.cH.1 H).1,λb i H=>?_,λb i H=>?_,λb b' i i' H g0 hd e0 he=>?_,λg hg=>o0 g _ (hA.kz g hg)⟩
   ·rcases k0 b i H with⟨h1,h2,l0⟩ |h1
    ·rw[M.iM];by_cases a0:b∈l;·rw[abe a0];trivial
     rw[abd a0,q0 l0 b h1.1 h1.2 a0];have l1:=(c.mono (i:=j+1) k (by omega) hk).1;exact(hs.obj b i h2).aY (p0 _ (by omega)) rfl
    exact(hA.obj b i h1).aY o0 (J0 _ (hA.lt b i h1))
   ·rcases k0 b i H with⟨_,h2,_⟩ |h1;·exact hs.lt b i h2
    ·have:=hA.lt b i h1
     grind
   ·rcases k0 b i H with⟨h1,h2,l0⟩ |h1 <;>rcases k0 b' i' g0 with⟨z0,u1,L1⟩ |z0
    ·rw[M.iM]at hd e0;by_cases a0:b∈l
     ·grind
     by_cases n0:b'∈l
     ·grind
     rw[abd a0,q0 l0 b h1.1 h1.2 a0]at hd;rw[abd n0,q0 l0 b' z0.1 z0.2 n0]at e0;exact hs.inj b b' i i' h2 u1 hd e0 he
    ·have:=v0 b i h1.1 h2;have:=hA.lt b' i' z0;omega
    ·have:=v0 b' i' z0.1 u1;have:=hA.lt b i h1;omega
    exact hA.inj b b' i i' h1 z0 hd e0 he
 ·
  rintro p b (rfl |hL) H
  ·grind
  ·have⟨i,hi⟩:=h.LA p b hL H
   grind
 ·intro b i H;rcases s0 b i H with⟨h1,_⟩ |⟨_,h1⟩
  ·grind
  exact(h.sw b i h1).imp id λ⟨q,x,y⟩=>⟨q,.inr x,y⟩
 ·exact λb i H=>hle b i (h.base b i H)
 ·intro b i H h0;rcases s0 b i H with⟨h1,h2⟩ |⟨_,h2⟩
  ·have r0:(σ.cut (tr j).m.n) b=none:=by
    cases hx:(σ.cut (tr j).m.n) b with
    |none=>rfl
    |some i'=>have:=(Sg.cH.1 hx).1;omega
   have b2:=(c.mono (i:=0) j (by omega) (by omega)).1;refine⟨by omega,?_⟩;have hh:=h.hle;rcases(d0.new b i h2 r0).2 with h3 |⟨b0,i0,h3,h4,h5⟩
   ·grind
   ·have h3:=(Sg.cH.1 h3).2
    cases C0:σ0 b0 with
    |some i1=>
     have:=h.base b0 i1 C0
     grind
    |none=>
     rcases(h.new b0 i0 h3 C0).2 with h6 |⟨b1,i1,h6,h7,h8⟩
     ·grind
     ·grind
  exact h.new b i h2 h0
 ·have:=h.hle;have:=d0.hle;omega
 ·intro B hB hc
  have hh:=h.hle
  rw[<-h.heap B hB hc]
  refine d0.heap B (by omega) λb i H he=>?_
  have H:=(Sg.cH.1 H).2
  cases C0:σ0 b with
  |some i1=>
   have:=h.base b i1 C0
   grind
  |none=>
   rcases(h.new b i H C0).2 with h6 |⟨b1,i1,h6,h7,h8⟩;·omega
   ·grind
 ·exact d0.os.trans h.os
 ·exact d0.tape.trans h.tape
 ·exact d0.output.trans h.output
 exact h.kz
end
end
section
theorem Sg.CJ{σ:Sg}{n:Nat}(h:∀b i,σ b=some i->b < n):σ.cut n=σ:=by
 funext b
 unfold Sg.cut
 by_cases H:b < n
 ·grind
 ·rw[abd H]
  cases hs:σ b with
  |none=>rfl
  |some i=>exact absurd (h b i hs) H
def LZ(l:Array Bool):Nat->Nat
 |0=>0
 |k+1=>LZ l k+(if l.getD k false=true then 0 else 1)
theorem Dp{l:Array Bool}:∀{k:Nat},LZ l k=0->∀i,i < k->l.getD i false=true
 |k+1,h,i,hi=>by
  unfold LZ at h
  by_cases hk:l.getD k false=true
  ·by_cases H:i=k
   ·grind
   ·exact Dp (k:=k) (by omega) i (by omega)
  ·grind
theorem yW(l:Array Bool){j:Nat}(H:j < l.size)(i:Nat):(l.setIfInBounds j true).getD i false↔i=j\/l.getD i false:=by
 rw[acm,acm,Array.getElem?_setIfInBounds]
 grind
theorem Hk{l:Array Bool}{j:Nat}(H:j < l.size)(hn:¬l.getD j false=true):∀k,LZ (l.setIfInBounds j true) k+(if j < k then 1 else 0)=LZ l k
 |0=>by simp[LZ]
 |k+1=>by
  have ih:=Hk H hn k
  have hs:=yW l H k
  unfold LZ
  grind
theorem Ei{E:Env}{m m':M}{t:TypeId}{H:Addr}(h:m'.get H.block=m.get H.block):loadVar E m' t H=loadVar E m t H:=by unfold loadVar D.loadCells D.cellAt;rw[h]
theorem NZ{E:Env}{m m1:M}{b:Builtin}{ts:List TypeId}{args:aeN}{v:aeM}(hb:b=.min\/b=.max)(h:aw E m b ts args=some (v,m1)):m1=m/\∀m2,aw E m2 b ts args=some (v,m2):=by
 rcases hb with rfl |rfl
 ·have h:(dw (λx y=>if y < x then y else x) args).map (·,m)=some (v,m1):=h
  cases H:dw (λx y=>if y < x then y else x) args with
  |none=>rw[H]at h;cases h
  |some w=>rw[H]at h;cases h;exact⟨rfl,λm2=>by show(dw (λx y=>if y < x then y else x) args).map (·,m2)=_;rw[H];rfl⟩
 ·have h:(dw (λx y=>if y >x then y else x) args).map (·,m)=some (v,m1):=h
  cases H:dw (λx y=>if y >x then y else x) args with
  |none=>rw[H]at h;cases h
  |some w=>rw[H]at h;cases h;exact⟨rfl,λm2=>by show(dw (λx y=>if y >x then y else x) args).map (·,m2)=_;rw[H];rfl⟩
theorem Oq{E:Env}{m m1:M}{ts:List TypeId}{x v:aeM}(hx:∀r,x≠.map r)(h:aw E m .len ts [x]=some (v,m1)):m1=m/\∀m2,aw E m2 .len ts [x]=some (v,m2):=by
 match ts,h with
 |[],h=>cases h
 |t::_::_,h=>cases h
 |[t],h=>
  have h:(oL E m t x).map (·,m)=some (v,m1):=h
  have e:∀m2,oL E m2 t x=oL E m t x:=by
   intro m2
   unfold oL
   cases E.ty.get t with
   |none=>rfl
   |some ti=>
    grind
  cases H:oL E m t x with
  |none=>rw[H]at h;cases h
  |some w=>rw[H]at h;cases h;exact⟨rfl,λm2=>by show(oL E m2 t x).map (·,m2)=_;rw[e,H];rfl⟩
theorem Rx{E:Env}{call:aK}{T:Tr aeM}{m m1:M}{o:Op}{v:aeM}{lk:List Nat}{x:Nat}(h:dn o E call T {m with low:=x}=some (v,m1))
  (hk:∀b∈lk,(∃t,o=.alloc t)\/(∃t y,o=.box t y)\/(∃t s ad,o=.load t (.tmp s)/\iT T s=.pointer (some ad)/\ad.block≠b)\/nK o\/∃s,lenOf o=some s/\∀r,iT T s≠.map r):
  ∃mk,dn o E call T {m.kill lk with low:=x}=some (v,mk)/\mk.n=m1.n/\mk.low=m1.low/\∀b,b∉lk\/m.n<=b->mk.get b=m1.get b:=by
 cases lk with
 |nil=>exact⟨m1,h,rfl,rfl,λ_ _=>rfl⟩
 |cons b0 r=>
  have a0:∀(o:Ob) b,b∉b0::r\/m.n<=b->(({m.kill (b0::r)with low:=x}:M).push o).get b=(({m with low:=x}:M).push o).get b:=by
   intro o b hb;rw[M.iL,M.iL];show(if b=m.n then o else(m.kill (b0::r)).get b)=if b=m.n then o else m.get b
   rw[M.iM];by_cases h1:b=m.n
   ·grind
   rw[abd h1,abd h1];rcases hb with hb |hb
   ·grind
   ·have:m.get b=.dead:=by rw[M.fo,abd (by omega)]
    grind
  have d0:∀b,b∉b0::r\/m.n<=b->({m.kill (b0::r)with low:=x}:M).get b=({m with low:=x}:M).get b:=by
   intro b hb;show(m.kill (b0::r)).get b=m.get b;rw[M.iM];rcases hb with hb |hb
   ·grind
   ·have:m.get b=.dead:=by rw[M.fo,abd (by omega)]
    grind
  rcases hk b0 abN with⟨t,rfl⟩ |⟨t,y,rfl⟩ |⟨t,s,ad,rfl,hs,_⟩ |e0 |⟨s,H,g0⟩
  ·simp only[dn,tz]at h⊢
   cases hz:iZ E t with
   |none=>rw[hz]at h;cases h
   |some z=>rw[hz]at h;cases h;exact⟨_,rfl,rfl,rfl,a0 _⟩
  ·simp only[dn,NK]at h⊢;cases h;exact⟨_,rfl,rfl,rfl,a0 _⟩
  ·have hn:ad.block∉b0::r:=by
    intro hm
    rcases hk _ hm with⟨t',h'⟩ |⟨t',y,h'⟩ |⟨t',s',j0,h',k0,l0⟩ |h' |⟨_,h',_⟩
    ·cases h'
    ·cases h'
    ·grind
    ·cases h'
    ·cases h'
   have h0:ev T (.tmp s)=.pointer (some ad):=hs
   simp only[dn,yD,h0]at h⊢
   have hl:loadVar E {m.kill (b0::r)with low:=x} t ad=loadVar E {m with low:=x} t ad:=Ei (by
    grind)
   rw[hl]
   cases hz:loadVar E {m with low:=x} t ad with
   |none=>rw[hz]at h;cases h
   |some z=>
    rw[hz]at h
    cases h
    refine⟨_,rfl,rfl,rfl,λb hb=>?_⟩
    grind
  ·obtain⟨c,rfl⟩:∃c,o=.call c:=by cases o <;>first |exact⟨_,rfl⟩ |cases e0
   have hb:c.callee=.builtin .min\/c.callee=.builtin .max:=by
    unfold nK at e0
    grind
   obtain⟨bb,i0,hc⟩:∃bb,(bb=.min\/bb=.max)/\c.callee=.builtin bb:=by
    grind
   simp only[dn,nI,hc]at h⊢;obtain⟨rfl,hw⟩:=NZ i0 h;exact⟨_,hw _,rfl,rfl,d0⟩
  obtain⟨c,rfl⟩:∃c,o=.call c:=by cases o <;>first |exact⟨_,rfl⟩ |cases H
  unfold lenOf at H;dsimp only at H;split at H
  ·rename_i hc;split at H
   ·rename_i t ha;cases H;simp only[dn,nI,hc,ha]at h⊢;obtain⟨rfl,hw⟩:=Oq (x:=iT T s) g0 h;exact⟨_,hw _,rfl,rfl,d0⟩
   ·grind
  ·grind
theorem Bw{ops:Array Oper}{T H:Tr aeM}{o:Oper}(h:∀g w d,o.guard=some (g,w)->(ops[g]?).bind (·.dst)=some d->iT H d=iT T d):cE ops H o=cE ops T o:=by
 unfold cE
 cases hg:o.guard with
 |none=>rfl
 |some p=>
  have⟨g,w⟩:=p
  simp only[acT]
  cases hd:(ops[g]?).bind (·.dst)with
  |none=>rfl
  |some d=>dsimp only;rw[h g w d hg hd]
theorem zO{E:Env}{m m':M}{t:TypeId}{H:Addr}{v:aeM}(h:storeVar E m t H v=some m'):m.get H.block≠.dead:=by
 unfold storeVar at h;split at h
 ·cases hq:Nat.beq (cells v).length _ with
  |false=>rw[hq]at h;cases h
  |true=>
   rw[hq]at h
   unfold D.storeCells at h
   grind
 cases h
section
variable {E:Env} {P:Program} {call:aK} {ops:Array Oper} {nt:Nat} {tr:Nat->Fr} {σ0 σ:Sg} {w0 w:World} {ds:List Deferred} {L:Nat->Prop} {a:Act} {ro:Option Nat} {n:Nat} {Q:Exit->Act->World->Prop}
theorem Inv.step(c:Ctx E P call ops nt tr)(h:Inv E P call ops nt tr σ0 w0 ds L σ a w){j:Nat}{o:Oper}(hj:¬L j)(ho:ops[j]?=some o)(g0:∀e∈o.after,Region.binds .any e->L e.on)
  {K:Act->World->Prop} (hK:∀σ' a' w',Inv E P call ops nt tr σ0 w0 ds (λi=>i=j\/L i) σ' a' w'->K a' w'):wpOpIn (eD ro) n P ops Q j K a w:=by
 have p1:j < ops.size:=(ab2.1 ho).1;have y0:=c.ok o (by grind);have d0:∀t,t < nt->t∈jv ops o->bw (σ.cut (tr j).m.n) (iT (tr j).T t) (a.eval (.tmp t)):=λt ht hn=>h.names c hj ho g0 ht hn
 have hw:cE ops (tr j).T o=Region.wanted o (yielded ops a.tmps):=by
  refine sx (σ:=σ.cut (tr j).m.n) λq want d hg hd=>?_
  have r1:=hd
  simp only[ab3]at hd
  have⟨o',p0,Q0⟩:=hd
  have D0:=fh (c.ok o' (by grind)) d Q0
  refine⟨by rw[h.Tu];exact D0,d0 d D0 ?_⟩
  unfold jv
  grind
 unfold wpOpIn;rw[ho];dsimp only;rw[<-hw];rcases c.step j o ho with⟨s0,l0⟩ |⟨s0,v,m,a0,hb,l0⟩
 ·rw[s0,abd (by simp)]
  refine⟨λ_ _=>trivial,hK σ _ w (h.same c hj ho g0 (v:=undef) (by rw[l0]) ?_ bw.undef)⟩
  rintro⟨o',v,m,p0,u1,_⟩
  grind
 ·rw[s0,abe rfl]
  refine⟨λ_ _=>trivial,?_⟩
  rw[Oper.semAt_eq _ _ _ (λc hc=>by rw[hc]at a0;simp[dn]at a0)]
  cases hp:fg o.op with
  |true=>
   have H:∀x∈o.op.operands.toList,bw (σ.cut (tr j).m.n) (ev (tr j).T x) (a.eval x):=by
    intro x hx
    have n0:=ib y0 x hx
    cases x with
    |tmp t=>exact d0 t (rP n0) (by unfold jv;simp only[abC];exact .inr (.inl (adx.2 ⟨.tmp t,hx,rfl⟩)))
    |const v=>exact .jG n0
    |global g=>
     have hg:g < P.globals.size:=by
      have h:Nat.blt g P.globals.size:=n0
      simp_all
     have⟨h1,h2⟩:=h.kz g hg;have h3:=(c.mono (i:=0) j (by omega) (by omega)).1;exact .ptr ⟨g,0,none⟩ ⟨g,none⟩ (Sg.cH.2 ⟨by grind,h.base g _ h2⟩) rfl
    |func f=>exact .flat _ rfl
   have⟨v',hr,hv⟩:=FI (w:=w) c.hE hp a0 H;rw[hr];refine hK σ _ w (h.same c hj ho g0 (v:=v) (by rw[l0]) (c.qF ho hp).2 ?_);rw[(c.qF ho hp).1];exact hv
  |false=>
   have⟨lk,j0,z0⟩:=h.Qv c hj ho g0 hp;have k0:=h.SD j lk (by omega) (h.LM c hj ho g0 hp) j0
   have H:∀x∈o.op.operands.toList,bw (σ.cut (tr j).m.n) (ev (tr j).T x) (a.eval x):=by
    intro x hx;have n0:=ib y0 x hx
    exact EE k0 (λt ht=>by subst ht;exact d0 t (rP n0) (by unfold jv;simp only[abC];exact .inr (.inl (adx.2 ⟨.tmp t,hx,rfl⟩)))) n0
   have i0:∀b∈lk,(∃t,o.op=.alloc t)\/(∃t y,o.op=.box t y)\/(∃t s ad,o.op=.load t (.tmp s)/\iT (tr j).T s=.pointer (some ad)/\ad.block≠b)\/nK o.op\/∃s,lenOf o.op=some s/\∀r,iT (tr j).T s≠.map r:=by
    intro b hb;have⟨p,hL,q0,a1,E0,b1,c1⟩:=z0 b hb;have v1:=q0.1.lt;rcases uP E0 ho hp with rfl |hr |hr |⟨_,h4⟩;·omega
    ·grind
    ·grind
    ·rcases h4 with h4 |h4 |⟨t,s,h4,h5,h6,h7⟩ |h4 |⟨s,h4,h5,h6⟩
     ·grind
     ·grind
     rotate_left
     ·grind
     ·have hT:iT (tr p).T s=iT (tr j).T s:=c.qJ p (by omega) (by omega) λq oq h1 h2 hq=>h5 q oq h1 h2 hq
      grind
     ·refine .inr (.inr (.inl ⟨t,s,?_⟩))
      have hT:iT (tr p).T s=iT (tr j).T s:=c.qJ p (by omega) (by omega) λq oq h1 h2 hq=>h5 q oq h1 h2 hq
      have hW:cE ops (tr p).T o=cE ops (tr j).T o:=Bw λg w d hg hd=>c.qJ p (by omega) (by omega) λq oq h1 h2 hq=>h6 g w d hg hd q oq h1 h2 hq
      grind
   by_cases B0:∃b0,xQ E call ops tr j b0
   ·have⟨b0,r0⟩:=B0
    have⟨_,_,o',p0,e0,_⟩:=id r0
    rw[ho]at p0
    cases p0
    cases h0:o.op with
    |store t x y=>
     rw[h0]at e0;unfold fK at e0;dsimp only at e0;split at e0
     ·rename_i ad u0;cases e0
      obtain rfl:lk=[]:=by refine acZ.2 λb hb=>?_;rcases i0 b hb with⟨_,h'⟩ |⟨_,_,h'⟩ |⟨_,_,_,h',_⟩ |h' |⟨_,h',_⟩ <;>rw[h0]at h' <;>cases h'
      rw[h0]at a0 H;simp only[dn,nH,u0]at a0;split at a0
      ·rename_i m2 hz;cases a0;have hx:=H x (by simp[Op.operands]);rw[u0]at hx;have⟨i,hi,_,he⟩:=hx.gW;obtain⟨w',q1,q2,_,q4⟩:=oV c.hE (k0.low (tr j).m.n) hi (H y (by simp[Op.operands])) hz
       have hr:(Instr.storeAt t (a.eval x) (a.eval y)).run P w=.ok () w':=by rw[he];simpa[Instr.storeAt,Instr.sureAddr]using q1
       have o0:Wr E call ops tr j:=r0.1
       obtain⟨σ',hI⟩:=h.effect c (v':=undef) (mk:=m) (lk:=[]) hj ho g0 hp rfl rfl (λ_ _=>rfl) j0 q2 bw.undef l0 (.inr ⟨o0,rfl⟩) (λb hb=>by have:=r0.lH hb;subst this;exact⟨λhd=>zO hz hd,i,(Sg.cH.1 hi).2,q4⟩)
       unfold execOp;rw[h0];simp only[abo,hr,abg,abD];exact hK σ' _ w' hI
      ·grind
     ·grind
    |call cc=>
     rw[h0]at e0 a0 H
     have⟨f,x,ad,v0,F0,d1,hex,G0,e1⟩:=BH e0 a0
     obtain rfl:lk=[]:=by
      refine acZ.2 λb hb=>?_;rcases i0 b hb with⟨_,h'⟩ |⟨_,_,h'⟩ |⟨_,_,_,h',_⟩ |h' |⟨_,h',_⟩ <;>rw[h0]at h'
      ·cases h'
      ·cases h'
      ·cases h'
      ·simp[nK,v0]at h'
      simp[lenOf,v0]at h'
     obtain⟨C0,w1,H0⟩:=c.cY.LA ad _ v m b0 e1 G0
     have I0:=H x (by simp[Op.operands,Call.operands];exact .inr (by rw[<-Array.mem_toList_iff,F0];simp))
     rw[hex]at I0
     have J0:=H f (by simp[Op.operands,Call.operands,v0])
     rw[d1]at J0
     have g1:a.eval f=.func (.func Dw) #[] #[]:=by exact J0.bM rfl
     obtain⟨i,hi,i1,K0⟩:=H0 _ w #[a.eval x] ((k0.low (tr j).m.n)) (.cons I0 .nil)
     have o0:Wr E call ops tr j:=r0.1
     unfold execOp
     rw[h0]
     have j1:cc.args.map a.eval= #[a.eval x]:=by apply ac0;simp[F0]
     simp only[resolve,v0,g1,Deferred.ofValue,abo,abD,abg,invoke,j1,Array.empty_append,Array.append_empty,K0]
     refine Gr i1 ro n o a K Q λe w' he=>?_
     obtain⟨⟨v',y1,rfl,hv,u0⟩,L0⟩:=he
     obtain⟨σ',hI⟩:=h.effect c (v':=v') (mk:=m) (lk:=[]) hj ho g0 hp rfl rfl (λ_ _=>rfl) j0 u0 hv l0 (.inr ⟨o0,rfl⟩) (λb hb=>by have:=r0.lH hb;subst this;exact⟨C0,i,(Sg.cH.1 hi).2,L0⟩)
     grind
    |_=>rw[h0]at e0;cases e0
   ·obtain⟨mk,N0,k1,l1,o1⟩:=Rx a0 i0
    refine(tp c.hE c.cY (k0.low (tr j).m.n) N0 H).2 ro n o a K Q λτ w' v' hv he=>?_
    obtain⟨σ',hI⟩:=h.effect c hj ho g0 hp k1 l1 o1 j0 he hv l0 (by
     by_cases hq:(tr j).m.n<=m.low
     ·refine .inl ⟨hq,?_⟩
      rintro⟨o',v',m',p0,_,A0,hn⟩
      grind
     have o0:Wr E call ops tr j:=⟨o,v,m,ho,s0,a0,hq⟩
     have O0:eQ ops j:=((c.wr o0).resolve_right B0).2;refine .inr ⟨o0,acZ.2 λb hb=>?_⟩;have⟨p,hL,q0,a1,E0,b1,c1⟩:=z0 b hb;have⟨op,A0,z1⟩:=Wr.op c q0.1;rcases mF O0 p op A0 with rfl |h1 |h1 |h1;·omega
     ·grind
     ·grind
     ·grind) (λb hb=>absurd ⟨b,hb⟩ B0)
    grind
theorem Lo(c:Ctx E P call ops nt tr)(hQ:∀σ a w,Inv E P call ops nt tr σ0 w0 ds (λi=>i < ops.size) σ a w->Q .normal a w):
  ∀(fuel:Nat) (listed:Array Bool) (σ:Sg) (a:Act) (w:World),listed.size=ops.size->LZ listed ops.size<=fuel->Inv E P call ops nt tr σ0 w0 ds (λi=>listed.getD i false=true) σ a w->
   wpAnyIn (eD ro) n P .any ops Q fuel listed a w:=by
 have fin:∀(listed:Array Bool) (σ:Sg) (a:Act) (w:World),listed.size=ops.size->(∀i,i < ops.size->listed.getD i false)->Inv E P call ops nt tr σ0 w0 ds (λi=>listed.getD i false=true) σ a w->Q .normal a w:=by
  intro listed σ a w H a0 h
  have:(λi=>listed.getD i false=true)=(λi=>i < ops.size):=by
   grind
  grind
 have b0:∀(listed:Array Bool),listed.size=ops.size->(∀i,i < ops.size->listed.getD i false)->Region.ready .any ops listed=[]:=by
  intro listed H a0
  refine acZ.2 λj hj=>?_
  have h1:=(mem_ready.1 hj).1
  grind
 have ready_all:∀(listed:Array Bool),listed.size=ops.size->Region.ready .any ops listed=[]->∀i,i < ops.size->listed.getD i false:=by
  intro listed H hr i
  induction i using Nat.strongRecOn with
  |_ i ih=>
   intro hi
   refine abA λhn=>?_
   have⟨o,ho⟩:=Bq (ops:=ops) hi
   have:i∈Region.ready .any ops listed:=mem_ready.2 ⟨by grind,o,ho,λe he hb=>by
    have:=c.ord.lt i o ho e he hb
    grind⟩
   grind
 intro fuel
 induction fuel with
 |zero=>intro listed σ a w H hu h;have a0:=λi hi=>Dp (l:=listed) (k:=ops.size) (by omega) i hi;exact⟨b0 listed H a0,fin listed σ a w H a0 h⟩
 |succ fuel ih=>
  intro listed σ a w H hu h;refine⟨λhr=>fin listed σ a w H (ready_all listed H hr) h,λj hj=>?_⟩;obtain⟨h1,o,ho,e0⟩:=mem_ready.1 hj;have g0:j < ops.size:=(ab2.1 ho).1
  have d0:¬listed.getD j false=true:=by
   grind
  refine h.step c d0 ho e0 λσ' a' w' hI=>?_;refine ih _ σ' a' w' (by grind) ?_ ?_
  ·have:=Hk (l:=listed) (j:=j) (by omega) d0 ops.size
   grind
  ·have:(λi=>(listed.setIfInBounds j true).getD i false=true)=(λi=>i=j\/listed.getD i false):=by
    funext i
    exact propext (yW listed (by omega) i)
   grind
theorem Gw(hE:E.OK P)(cY:dc P call)(i0:∀o∈ops.toList,ic nt P.globals.size o)(hd:Cb ops){fr b0:Fr}(h:oH E call ops ops.toList 0 fr=some b0)
  (hf:dB σ fr.T a nt) (hs:eN P σ fr.m w) (k:∀σ' a' w',dB σ' b0.T a' nt->a'.defers=a.defers->Ev P σ fr.m w σ' b0.m w'->Q .normal a' w'):
  wpAnyIn (eD ro) n P .any ops Q ops.size (Array.replicate ops.size false) a w:=by
 have⟨tr,t0,tN,o0⟩:=zk ops.toList 0 fr b0 h
 have j0:∀j o,ops[j]?=some o->DStep E call ops (tr j) o j (tr (j+1)):=by
  grind
 subst t0;have tN:tr ops.size=b0:=by grind
 subst tN;have c:Ctx E P call ops nt tr:=⟨hE,cY,Ca hd,i0,j0,AT hE cY i0 j0 hs hf⟩
 refine Lo (σ0:=σ) (w0:=w) (ds:=a.defers) c ?_ ops.size _ σ a w (by simp) ?_ ?_
 ·intro σ' a' w' hI
  have k0:∀b i,σ' b=some i->b < (tr ops.size).m.n:=by
   intro b i H;rcases hI.sw b i H with h1 |⟨q,hq,_,h2⟩
   ·have:=(c.mono (i:=0) ops.size (by omega) (aa4 _)).1;omega
   have:=(c.mono (i:=q+1) ops.size (by omega) (aa4 _)).1;omega
  have e0:=hI.SD ops.size [] (aa4 _) (λb H=>Iff.rfl) (λp b H=> .inl Iff.rfl);rw[Sg.CJ k0,M.yO]at e0;refine k σ' a' w' ⟨hI.Tu,λt ht=>?_⟩ hI.defs ⟨hI.base,e0,(c.mono (i:=0) ops.size (by omega) (aa4 _)).2,(c.mono (i:=0) ops.size (by omega) (aa4 _)).1,hI.hle,hI.new,λb H hn=>c.abs ops.size (aa4 _) b H hn,hI.heap,hI.os,hI.tape,hI.output⟩;have⟨q,hq,hv,hw,_⟩:=hI.tmp t ht
  have hT:iT (tr ops.size).T t=iT (tr q).T t:=c.qJ ops.size hq (aa4 _) λi o h1 h2 ho r0=>by
   grind
  rw[hT];refine hv.mono λb i H=>(Sg.cH.1 H).2
 ·have:∀k,LZ (Array.replicate ops.size false) k<=k:=by
   intro k
   induction k with
   |zero=>simp[LZ]
   |succ k ih=>
    unfold LZ
    grind
  grind
 have hL:∀i,¬(Array.replicate ops.size false).getD i false=true:=by
  intro i
  simp[acm,aef]
  grind
 have l0:σ.cut (tr 0).m.n=σ:=Sg.CJ hs.sw
 exact{
  lt:=λi hi=>absurd hi (hL i)
  closed:=λj o ho hj=>absurd hj (hL j)
  Tu:=hf.1
  defs:=rfl
  tmp:=λt ht=>⟨0,by omega,by rw[l0];exact hf.2 t ht,λi o hi=>absurd hi (hL i),.inl rfl⟩
  SD:=λk l hk hw p0=>by
   have h0:σ.cut (tr k).m.n=σ:=Sg.CJ λb i H=>by have:=hs.sw b i H;have:=(c.mono (i:=0) k (by omega) hk).1;omega
   rw[h0]
   have d0:∀b,b < (tr 0).m.n->b∉l->(tr k).m.get b=(tr 0).m.get b:=λb H a0=>c.nh (i:=0) k (by omega) hk (λb _ h2 h3=>hL b ((hw b h3).1 h2)) b H
    (λp _ h2 h3=>(p0 p b h3).elim (λx=>hL p (x.1 h2)) a0)
   have q0:=(c.mono (i:=0) k (by omega) hk).1;refine⟨λb i H=>?_,λb i H=>?_,hs.lt,λb b' i i' H n0 h1 h2=>?_,hs.kz⟩
   ·have:=hs.sw b i H;show b < (tr k).m.n;omega
   ·rw[M.iM];by_cases a0:b∈l;·rw[abe a0];trivial
    rw[abd a0,d0 b (hs.sw b i H) a0];exact hs.obj b i H
   rw[M.iM]at h1 h2;by_cases a0:b∈l
   ·grind
   by_cases g0:b'∈l
   ·grind
   rw[abd a0,d0 b (hs.sw b i H) a0]at h1;rw[abd g0,d0 b' (hs.sw b' i' n0) g0]at h2;exact hs.inj b b' i i' H n0 h1 h2
  LA:=λp b hp=>absurd hp (hL p)
  sw:=λb i H=> .inl (hs.sw b i H)
  base:=λ_ _ x=>x
  new:=by grind
  hle:=aa4 _
  heap:=λ_ _ _=>rfl
  os:=rfl
  tape:=rfl
  output:=rfl
  kz:=λg hg=>⟨hs.sw g _ (hs.kz g hg),hs.kz g hg⟩}
end
end
section
section
variable {E:Env} {P:Program} {call:aK} {nt:Nat} {σ:Sg} {w:World} {a:Act} {ro:Option Nat} {k:Nat}
def Ex.to:Ex->Exit
 |.normal=> .normal
 |.exit id=> .exit id
 |.ret=> .ret
def mj(base:Nat)(σ:Sg)(w:World):List Deferred->Prop
 |[]=>True
 |d::ds=>(∃r,d.target=.collected r/\base<=r/\w.heap[r]?=some (.deferred (some []))/\(∀b i,σ b=some i->i.cI≠r)/\∀H∈ds,H.target≠.collected r)/\mj base σ w ds
theorem mj.ev{base:Nat}{σ':Sg}{m m':M}{w':World}(he:Ev P σ m w σ' m' w'):∀{ds:List Deferred},mj base σ w ds->mj base σ' w' ds
 |[],_=>trivial
 |d::ds,h=>by
  have⟨⟨r,h1,h2,h3,h4,h5⟩,h6⟩:=h
  have hr:r < w.heap.size:=(ab2.1 h3).1
  refine⟨⟨r,h1,h2,?_,?_,h5⟩,h6.ev he⟩
  ·rw[he.heap r hr (λb i H e=>absurd e (h4 b i H))]
   exact h3
  ·intro b i H e
   cases hs:σ b with
   |some i'=>
    have:=he.ext b i' hs
    grind
   |none=>
    rcases(he.new b i H hs).2 with h |⟨b0,i0,h,h',_⟩
    ·omega
    ·grind
theorem mj.lt{base:Nat}:∀{ds:List Deferred},mj base σ w ds->∀d∈ds,∃r,d.target=.collected r/\r < w.heap.size
 |d::ds,h,d',H=>by
  have⟨⟨r,h1,_,h3,_,_⟩,h6⟩:=h
  rcases abp.1 H with rfl |H
  ·grind
  ·exact h6.lt d' H
def CZ(base:Nat)(σ:Sg)(w:World)(tl ds:List Deferred):Prop:=∃ms,ds=ms++tl/\mj base σ w ms
theorem CZ.ev{base:Nat}{tl ds:List Deferred}{σ':Sg}{m m':M}{w':World}(he:Ev P σ m w σ' m' w')(h:CZ base σ w tl ds):CZ base σ' w' tl ds:=by have⟨ms,h1,H⟩:=h;exact⟨ms,h1,H.ev he⟩
theorem Fh{F:Fence}{n:Nat}{c:Code}{Q:Exit->Act->World->Prop}(h:c.wpIn F n P (Exit.noGoto Q) a w):(Code.scope c).wpIn F n P Q a w:=by
 intro b k cs d0 hb hr
 have h1:step P (lone (b.atR a (.code (.scope c)::k)) cs w)=.next (lone (b.atR a (.code c::.inScope c::k)) cs w):=step_lone_go (by simp[stepG,stepG.exec,Frame.atR])
 have i1:(lone (b.atR a (.code (.scope c)::k)) cs w).fenced P F:=fenced_calm hb hr rfl
 have⟨e,H,a0,hq,b0⟩:=h b (.inScope c::k) cs d0 hb hr
 have h2:step P (lone (b.atR H (.inScope c::k)) cs a0)=.next (lone (b.atR H k) cs a0):=step_lone_go (by simp[stepG,stepG.exec,Frame.atR])
 have i2:(lone (b.atR H (.inScope c::k)) cs a0).fenced P F:=fenced_calm hb hr rfl
 cases e with
 |normal=>exact⟨.normal,H,a0,hq,StepsIn.head i1 h1 (StepsIn.trans b0 (.one i2 h2))⟩
 |exit id=>exact⟨.exit id,H,a0,hq,.of_steps (.one i1 h1) ⟨λk' hk=>b0.1 k' (by simp[exitTo,hk]),λe0 hk=>b0.2 e0 (by simp[exitTo,hk])⟩⟩
 |goto l=>exact hq.elim
 |ret=>exact⟨_,H,a0,hq,.of_steps (.one i1 h1) b0⟩
 |panic ch=>exact⟨_,H,a0,hq,.of_steps (.one i1 h1) b0⟩
 |outgrown=>exact⟨_,H,a0,hq,.of_steps (.one i1 h1) b0⟩
theorem Ev.extra{m:M}(H:eN P σ m w)(o:Obj):Ev P σ m w σ m (w.alloc o):=by
 have hk:∀B,B < w.heap.size->(w.alloc o).heap[B]?=w.heap[B]?:=λB hB=>heap_alloc_old w o hB
 refine⟨λ_ _ x=>x,⟨H.sw,λb i hb=>(H.obj b i hb).aY (λ_ _ x=>x) (hk _ (H.lt b i hb)),λb i hb=>?_,H.inj,H.kz⟩,aa4 _,aa4 _,by simp,λb i x y=>(by grind),λ_ _ _=>rfl,λB hB _=>hk B hB,rfl,rfl,rfl⟩
 have:=H.lt b i hb
 grind
def Ss(ro:Option Nat)(σ:Sg)(m:M):Prop:=ro=none\/∃l i r,ro=some i.cI/\σ l=some i/\m.get l=.loop r
theorem Ss.next{ro:Option Nat}{σ':Sg}{m m':M}(h:Ss ro σ m)(he:σ.le σ')(hk:LK m m'):Ss ro σ' m':=by
 rcases h with h |⟨l,i,r,h1,H,h3⟩;·exact .inl h
 have⟨r',h4⟩:=hk l r h3;exact .inr ⟨l,i,r',h1,he _ _ H,h4⟩
def WK(P:Program)(nt:Nat)(c:Code)(fr:Fr)(e:Ex)(H:Fr):Prop:=
 ∀(ro:Option Nat) (k base:Nat) (σ:Sg) (a:Act) (w:World) (Q:Exit->Act->World->Prop) (tl:List Deferred),Ss ro σ fr.m->dB σ fr.T a nt->eN P σ fr.m w->CZ base σ w tl a.defers->base<=w.heap.size->
  (∀σ' a' w',dB σ' H.T a' nt->CZ base σ' w' tl a'.defers->(my c=true->a'.defers=a.defers)->Ev P σ fr.m w σ' H.m w'->Q e.to a' w')->c.wpIn (eD ro) k P Q a w
def least(p:Nat->Prop):Nat:=by
 classical
 exact if h:∃j,p j/\∀i,i < j->¬p i then Classical.choose h else 0
theorem yL{p:Nat->Prop}{j:Nat}(h:p j):p (least p)/\least p<=j:=by
 have ex:∃j,p j/\∀i,i < j->¬p i:=by
  induction j using Nat.strongRecOn with
  |_ j H=>
   grind
 have hs:=Classical.choose_spec ex
 have he:least p=Classical.choose ex:=by
  unfold least
  simp_all
 grind
theorem Ga{c:Code}{body:Fr->Option (Ex×Fr)}(p0:∀fr e H,body fr=some (e,H)->LK fr.m H.m)(hb:∀fr e H,body fr=some (e,H)->WK P nt c fr e H){n:Nat}{fr:Fr}{e:Ex}{H:Fr}(h:jH body n fr=some (e,H)):
  WK P nt (.loop c) fr e H:=by
 intro ro k base σ a w Q tl q0 hf hs hd r0 hQ
 let I:Nat->Act->World->Prop:=λj a' w'=>∃a0 d0,jH body j a0=some (e,H)/\dB d0 a0.T a' nt/\CZ base d0 w' tl a'.defers/\(my c->a'.defers=a.defers)/\LK fr.m a0.m/\Ev P σ fr.m w d0 a0.m w'
 refine wpIn_loop (λa' w'=>∃j,I j a' w') (λa' w'=>least λj=>I j a' w') ⟨n,fr,σ,h,hf,hd,λ_=>rfl,LK.refl,Ev.refl hs⟩ λa1 w1 ⟨j,hI⟩=>?_
 have⟨⟨a0,d0,hl,s0,u0,v0,l0,b0⟩,_⟩:=yL (p:=λj=>I j a1 w1) hI
 generalize hq:(least λj=>I j a1 w1)=q at hl
 cases q with
 |zero=>simp[jH]at hl
 |succ q=>
  unfold jH at hl
  cases g0:body a0 with
  |none=>rw[g0]at hl;cases hl
  |some p=>
   have⟨e2,n0⟩:=p
   rw[g0]at hl
   refine hb a0 e2 n0 g0 ro k base d0 a1 w1 _ tl (q0.next b0.ext l0) s0 b0.sH u0 (acb r0 b0.hle) λh0 a2 w2 i0 j0 y0 k0=>?_
   have e0:my c->a2.defers=a.defers:=λx=>(y0 x).trans (v0 x)
   cases e2 with
   |normal=>
    have o0:I q a2 w2:=⟨n0,h0,hl,i0,j0,e0,l0.trans (p0 _ _ _ g0),b0.trans k0⟩
    refine⟨⟨q,o0⟩,?_⟩;have:=(yL (p:=λj=>I j a2 w2) o0).2;omega
   |exit id=>cases hl;exact hQ h0 a2 w2 i0 j0 e0 (b0.trans k0)
   |ret=>cases hl;exact hQ h0 a2 w2 i0 j0 e0 (b0.trans k0)
theorem jo(hE:E.OK P)(cY:dc P call){n:Nat}:∀(c:Code) (fr:Fr) (e:Ex) (b0:Fr),dz nt P.globals.size c->bN E call n c fr=some (e,b0)->WK P nt c fr e b0:=by
 intro c
 induction c with
 |skip=>intro fr e b0 _ h ro k base σ a w Q tl e0 hf hs hd g0 hQ;cases h;exact wpIn_skip (hQ σ a w hf hd (λ_=>rfl) (Ev.refl hs))
 |label l=>intro fr e b0 _ h ro k base σ a w Q tl e0 hf hs hd g0 hQ;cases h;exact wpIn_label (hQ σ a w hf hd (λ_=>rfl) (Ev.refl hs))
 |region id ops d=>
  intro fr e b0 H h ro k base σ a w Q tl e0 hf hs K0 g0 hQ
  unfold dz at H
  simp only[abc]at H
  have s0:∀o∈ops.toList,ic nt P.globals.size o:=abw.1 H.1
  unfold bN at h
  simp only[abq,abP]at h
  obtain⟨o0,h,rfl,rfl⟩:=h
  cases d with
  |false=>simp only[abm]at h;exact wpIn_region_list (uV hE cY s0 ops.toList s0 fr o0 h σ a w hf rfl hs λσ' a' w' h1 h2 h3=>hQ σ' a' w' h1 (by rw[h2];exact K0.ev h3) (λ_=>h2) h3)
  |true=>
   simp only[cond_true]at h;have hd:Cb ops:=by grind
   have hw:Ev P σ fr.m w σ fr.m {w with drawn:=w.drawn+1}:=Ev.of_heap hs rfl rfl rfl rfl;exact wpIn_region_any hE.mixed (Gw hE cY s0 hd h hf hw.sH λσ' a' w' h1 h2 h3=>hQ σ' a' w' h1 (by rw[h2];exact K0.ev (hw.trans h3)) (λ_=>h2) (hw.trans h3))
 |seq x y E0 F0=>
  intro fr e b0 H h ro k base σ a w Q tl e0 hf hs hd g0 hQ
  unfold dz at H
  simp only[abc]at H
  unfold bN at h
  refine wpIn_seq ?_
  cases hx:bN E call n x fr with
  |none=>rw[hx]at h;cases h
  |some p=>
   have⟨e1,o0⟩:=p
   rw[hx]at h
   refine E0 fr e1 o0 H.1 hx ro k base σ a w _ tl e0 hf hs hd g0 λk0 a1 w1 l0 n0 j0 i0=>?_
   have hn:my (.seq x y)->my x/\my y:=λhh=>by unfold my at hh;simp only[abc]at hh;exact hh
   cases e1 with
   |normal=>exact F0 o0 e b0 H.2 h ro k base k0 a1 w1 Q tl (e0.next i0.ext (fq cY.aY x _ _ _ hx)) l0 i0.sH n0 (acb g0 i0.hle) λp0 a2 w2 d1 g1 i1 j1=>hQ p0 a2 w2 d1 g1 (λx=>(i1 (hn x).2).trans (j0 (hn x).1)) (i0.trans j1)
   |exit id=>cases h;exact hQ k0 a1 w1 l0 n0 (λx=>j0 (hn x).1) i0
   |ret=>cases h;exact hQ k0 a1 w1 l0 n0 (λx=>j0 (hn x).1) i0
 |cond c x y E0 F0=>
  intro fr e b0 H h ro k base σ a w Q tl e0 hf hs hd g0 hQ
  unfold dz at H
  simp only[abc]at H
  unfold bN at h
  have hc:=hf.FP hs H.1
  cases hv:ev fr.T c with
  |bool t=>
   rw[hv]at h hc
   refine wpIn_cond hc.bool ?_
   cases t with
   |true=>exact E0 fr e b0 H.2.1 h ro k base σ a w Q tl e0 hf hs hd g0 λσ' a' w' q1 q2 q3=>hQ σ' a' w' q1 q2 λhh=>q3 (by unfold my at hh;simp only[abc]at hh;exact hh.1)
   |false=>exact F0 fr e b0 H.2.2 h ro k base σ a w Q tl e0 hf hs hd g0 λσ' a' w' q1 q2 q3=>hQ σ' a' w' q1 q2 λhh=>q3 (by unfold my at hh;simp only[abc]at hh;exact hh.2)
  |_=>rw[hv]at h;cases h
 |block id c ih=>
  intro fr e b0 H h ro k base σ a w Q tl e0 hf hs hd g0 hQ
  unfold dz at H
  unfold bN at h
  refine wpIn_block ?_
  cases hc:bN E call n c fr with
  |none=>rw[hc]at h;cases h
  |some p=>
   have⟨e1,o0⟩:=p
   rw[hc]at h
   refine ih fr e1 o0 H hc ro k base σ a w _ tl e0 hf hs hd g0 λk0 a1 w1 l0 n0 j0 i0=>?_
   have j0:my (.block id c)->a1.defers=a.defers:=λhh=>j0 (by unfold my at hh;exact hh)
   cases e1 with
   |normal=>cases h;exact hQ k0 a1 w1 l0 n0 j0 i0
   |exit k1=>
    simp only at h;simp only[Ex.to,Exit.inBlock];by_cases G0:k1=id
    ·subst G0;simp only[acq,cond_true,abf,abP]at h;obtain⟨rfl,rfl⟩:=h;rw[abe rfl];exact hQ k0 a1 w1 l0 n0 j0 i0
    rw[ig G0]at h;simp only[abm,abf,abP]at h;obtain⟨rfl,rfl⟩:=h;rw[abd G0];exact hQ k0 a1 w1 l0 n0 j0 i0
   |ret=>cases h;exact hQ k0 a1 w1 l0 n0 j0 i0
 |loop c ih=>intro fr e b0 H h;unfold dz at H;unfold bN at h;exact Ga (c:=c) (λfr e b0 hb=>fq cY.aY c fr e b0 hb) (λfr e b0 hb=>ih fr e b0 H hb) h
 |scope c ih=>intro fr e b0 H h ro k base σ a w Q tl e0 hf hs hd g0 hQ;unfold dz at H;unfold bN at h;refine Fh (ih fr e b0 H h ro k base σ a w _ tl e0 hf hs hd g0 λσ' a' w' q1 q2 q3 q4=>?_);have:=hQ σ' a' w' q1 q2 (λhh=>q3 (by unfold my at hh;exact hh)) q4;cases e <;>exact this
 |exit id=>intro fr e b0 _ h ro k base σ a w Q tl e0 hf hs hd g0 hQ;cases h;exact wpIn_exit (hQ σ a w hf hd (λ_=>rfl) (Ev.refl hs))
 |ret=>intro fr e b0 _ h ro k base σ a w Q tl e0 hf hs hd g0 hQ;cases h;exact wpIn_ret (hQ σ a w hf hd (λ_=>rfl) (Ev.refl hs))
 |rangeFunc g ps assign body _ _=>
  intro fr e b0 H h ro k base σ a w Q tl e0 hf hs hd g0 hQ;unfold dz at H;simp only[abc]at H;have⟨l1,o1,p1,r1⟩:=H;unfold bN at h;have hg:=hf.FP hs l1;split at h
  ·rename_i f first captured u1
   rw[u1]at hg
   cases hc:call (.func f) (first.toList++(.func (.yield fr.m.n) #[] #[]::captured.toList)) (fr.m.push (.loop ⟨fr.T,ps,assign,body,.ready,none,E.G⟩))with
   |none=>rw[hc]at h;cases h
   |some p=>
    have⟨v,m⟩:=p;rw[hc]at h;simp only at h;split at h
    ·rename_i r hr
     have L0:r.st≠.busy/\e=r.sY.getD .normal/\b0={fr with m:=m.set fr.m.n (.loop {r with st:=.exhausted})}:=by
      grind
     obtain⟨K1,rfl,rfl⟩:=L0;have v1:∃d0 a0,a.eval g=.func (.func f) d0 a0/\bK σ first.toList d0.toList/\bK σ captured.toList a0.toList:=hg.yX;have⟨d0,a0,y1,z1,A1⟩:=v1;refine wpIn_rangeFunc λfn _=>?_
     have⟨wa,mark,D,y0,H0,I0⟩:∃(wa:World) (mark:List Deferred) (D:Nat),
       (Instr.enterLoop fn a.tmps ps assign body (eD ro).round).run P w=.ok (wa.heap.size,mark) (wa.alloc (.loop {state:=.ready,pending:=none,fn,tmps:=a.tmps,params:=ps,assign,body,defers:=D}))/\
       Ev P σ fr.m w σ fr.m wa/\∀σ' m' W',Ev P σ fr.m wa σ' m' W'->CZ base σ' W' tl (mark++a.defers):=by
      rcases e0 with rfl |⟨l,i,r0,rfl,hl,B1⟩
      ·refine⟨w.alloc (.deferred (some [])),[{target:=.collected w.heap.size,args:= #[]}],w.heap.size,?_,Ev.extra hs _,λσ' m' W' u0=>?_⟩
       ·have C1:(w.alloc (.deferred (some []))).heap.size=w.heap.size+1:=by simp
        rw[C1];exact run_enterLoop_outer fn a.tmps ps assign body
       have⟨ms,L1,hd⟩:=hd;refine⟨[{target:=.collected w.heap.size,args:= #[]}]++ms,by grind,?_⟩
       have h0:mj base σ (w.alloc (.deferred (some []))) ([{target:=.collected w.heap.size,args:= #[]}]++ms):=by
        refine⟨⟨w.heap.size,rfl,g0,heap_alloc_new w _,λb i hb=>?_,λd' D1 e=>?_⟩,hd.ev (Ev.extra hs _)⟩;·have:=hs.lt b i hb;omega
        ·have⟨r2,h1,h2⟩:=hd.lt d' D1
         grind
       exact h0.ev u0
      ·have ho:=hs.obj _ _ hl;rw[B1]at ho;have⟨_,E1,_,F1,_⟩:=ho;exact⟨w,[],E1.defers,run_enterLoop_inner F1 fn a.tmps ps assign body,Ev.refl hs,λσ' m' W' u0=>hd.ev u0⟩
     let B0:Loop:={state:=.ready,pending:=none,fn,tmps:=a.tmps,params:=ps,assign,body,defers:=D}
     let w1:=wa.alloc (.loop B0)
     have J0:Ev P σ fr.m wa (σ.add fr.m.n ⟨wa.heap.size,none⟩) (fr.m.push (.loop ⟨fr.T,ps,assign,body,.ready,none,E.G⟩)) w1:=by
      refine Ev.uZ H0.sH ⟨rfl,B0,nt,heap_alloc_new wa _,rfl,rfl,rfl,rfl,rfl,hf.1,λt ht=>?_,?_,?_,?_,by simp⟩;·exact(hf.2 t ht).mono (Sg.yN H0.sH.mX)
      ·rw[hE.G];exact p1
      ·rw[hE.G];exact r1
      ·intro p hp
       have:=abw.1 o1 p hp
       simp_all
     have N0:=H0.trans J0
     have z0:bw (σ.add fr.m.n ⟨wa.heap.size,none⟩) (.func (.yield fr.m.n) #[] #[]) (.func (.yield wa.heap.size) #[] #[]):=
      .yield fr.m.n ⟨wa.heap.size,none⟩ (Sg.add_same _ _)
     have hle:=N0.ext
     obtain⟨A0,O0⟩:=cY.func f _ _ v m hc _ w1 (d0++ #[.func (.yield wa.heap.size) #[] #[]]++a0) J0.sH (by simp only[aew,abL,aeo];exact(z1.mono hle).append (bK.cons z0 (A1.mono hle)))
     refine⟨wa.heap.size,mark,w1,{target:=.fn (.func f) a0,args:=d0++ #[.func (.yield wa.heap.size) #[] #[]]},w1,f,_,w1,
      y0,?_,λ_ _=>trivial,O0,λhh=>by simp[eD,Fence.wide]at hh,?_⟩
     ·have hm:Array.map a.eval #[Operand.const (Value.func (Fn.yield wa.heap.size) #[] #[])]= #[Value.func (Fn.yield wa.heap.size) #[] #[]]:=by simp[Act.eval]
      simp only[resolve,y1,Deferred.ofValue,abD,hm]
     ·have G1:CallsIn (eD ro) (k-1) P f (d0++ #[.func (.yield wa.heap.size) #[] #[]]++a0) w1 (dX P (σ.add fr.m.n ⟨wa.heap.size,none⟩) (fr.m.push (.loop ⟨fr.T,ps,assign,body,.ready,none,E.G⟩)) w1 v m):=⟨trivial,λcs _=>A0.2 cs (room_wide _)⟩
      refine G1.mono λe w3 he=>?_
      obtain⟨v',p0,rfl,_,v0⟩:=he
      have C0:p0 fr.m.n=some ⟨wa.heap.size,none⟩:=v0.ext _ _ (Sg.add_same _ _)
      have ho:=v0.sH.obj _ _ C0
      rw[hr]at ho
      have⟨N1,r',H1,q1,q2,q3,q4,q5,q6,q7,q8,q9,WN,I1,Q0⟩:=ho
      have q1:w3.heap[wa.heap.size]?=some (.loop r'):=q1
      have b1:Ev P p0 m w3 p0 (m.set fr.m.n (.loop {r with st:=.exhausted})) (w3.putObj wa.heap.size (.loop {r' with state:=.exhausted})):=by
       have J1:wa.heap.size < w3.heap.size:=(ab2.1 q1).1;refine Ev.write v0.sH C0 (by grind) ⟨rfl,{r' with state:=.exhausted},H1,?_,rfl,q3,q4,q5,q6,q7,q8,q9,WN,I1,Q0⟩ ?_ (by simp) rfl rfl rfl
       ·show(w3.putObj wa.heap.size _).heap[wa.heap.size]?=_;exact World.putObj_heap_same J1
       intro B hB;exact World.putObj_heap_other λe=>hB e
      have D0:=(N0.trans v0).trans b1
      have c1:=I0 _ _ _ ((J0.trans v0).trans b1)
      refine⟨r'.pending,_,run_endLoop q1 (by grind),?_⟩
      have q0:=hQ p0 {a with defers:=mark++a.defers} _ ⟨hf.1,λt ht=>(hf.2 t ht).mono D0.ext⟩ c1 (λhh=>by simp[my]at hh) D0
      generalize w3.putObj wa.heap.size (.loop {r' with state:=.exhausted})=W4 at q0⊢
      rw[q3]
      cases hp:r.sY with
      |none=>rw[hp]at q0;exact q0
      |some e=>
       rw[hp]at q0
       cases e with
       |normal=>exact absurd hp Q0
       |exit id=>exact wpIn_exit q0
       |ret=>exact wpIn_ret q0
    cases h
  cases h
 |_=>intro fr e b0 _ h;simp[bN]at h
end
end
section
section
variable {E:Env} {P:Program} {call:aK} {nt:Nat} {σ σ':Sg} {m m':M} {w w':World} {a:Act}
theorem EU:∀(l:aeN) (i t:Nat),iT (enter l i) t=if t < i then undef else(l[t-i]?).getD undef
 |[],i,t=>by
  unfold enter iT
  rw[Tr.yV]
  grind
 |v::l,i,t=>by
  unfold enter
  have H:=EU l (i+1) t
  unfold iT at H⊢
  rw[Tr.bX]
  grind
theorem vz{args:aeN}{args':Array aeM}(h:bK σ args args'.toList)(hn:args.length<=nt):
  dB σ (enter args 0) {tmps:=args'++Array.replicate (nt-args'.size) undef,defers:=[]} nt:=by
 have H:=h.1;simp only[ach]at H;refine⟨by grind,λt ht=>?_⟩;rw[EU,abd (by omega),adg];simp only[Act.eval];by_cases a0:t < args'.size
 ·have h1:args[t]?=some args[t]:=by grind
  have⟨u',hu,hr⟩:=h.get h1
  simp_all
 rw[ace (by omega),Option.getD_none,acm,Array.getElem?_append_right (by omega),aef];split <;>exact bw.undef
theorem wJ(hE:E.OK P)(hs:eN P σ m w){T:Tr aeM}(hf:dB σ T a nt){r:ResultVar}(H:(match r with |.tmp t=>Nat.blt t nt |.cell a _=>Nat.blt a nt)){v:aeM}(h:kH E T m r=some v):
  ∃v',((match r with |.tmp t=>pure (a.tmps.getD t undef) |.cell x t=>do Go.loadVar t (<-asAddr (a.tmps.getD x undef))):Sem aeM).run P w=.ok v' w/\bw σ v v':=by
 unfold kH at h
 cases r with
 |tmp t=>cases h;have H:Nat.blt t nt:=H;rw[kA]at H;exact⟨_,rfl,hf.2 t (by grind)⟩
 |cell x t=>
  have H:Nat.blt x nt:=H;rw[kA]at H;have hx:=hf.2 x (by grind);dsimp only at h;split at h
  ·rename_i ad a0;rw[a0]at hx;have⟨i,hi,_,he⟩:=hx.gW;have he:a.tmps.getD x undef=_:=he;have⟨v',h1,h2,_⟩:=re (w:=w) hE hs hi h;refine⟨v',?_,h2⟩;dsimp only;rw[he,abo];exact h1
  cases h
theorem qU(hE:E.OK P)(hs:eN P σ m w){T:Tr aeM}(hf:dB σ T a nt):∀(rs:List ResultVar) (vs:aeN),(∀r∈rs,(match r with |.tmp t=>Nat.blt t nt |.cell a _=>Nat.blt a nt))->fW E T m rs=some vs->
  ∃H:aeN,(rs.mapM (m:=Sem) λ|.tmp t=>pure (a.tmps.getD t undef) |.cell x t=>do Go.loadVar t (<-asAddr (a.tmps.getD x undef))).run P w=.ok H w/\bK σ vs H
 |[],vs,_,h=>by
  simp only[fW,abf]at h
  subst h
  exact⟨[],rfl,bK.nil⟩
 |r::rs,vs,hr,h=>by
  unfold fW at h
  cases h1:kH E T m r with
  |none=>rw[h1]at h;simp at h
  |some v=>
   cases h2:fW E T m rs with
   |none=>rw[h1,h2]at h;simp at h
   |some a0=>
    rw[h1,h2]at h
    simp only[abf]at h
    subst h
    have⟨v',q1,q2⟩:=wJ hE hs hf (hr r abN) h1
    obtain⟨H,q3,q4⟩:=qU hE hs hf rs a0 (λr h=>hr r (abS _ h)) h2
    refine⟨v'::H,?_,bK.cons q2 q4⟩
    simp_all
theorem sQ(hE:E.OK P)(hs:eN P σ m w){T:Tr aeM}{fn:Func}(hf:dB σ T a nt)(hr:∀r∈fn.results.toList,(match r with |.tmp t=>Nat.blt t nt |.cell a _=>Nat.blt a nt)){v:aeM}(h:result? E fn T m=some v):
  ∃v',(results fn a.tmps).run P w=.ok v' w/\bw σ v v':=by
 unfold result? at h
 cases h1:fW E T m fn.results.toList with
 |none=>rw[h1]at h;simp at h
 |some vs=>
  rw[h1]at h;have⟨H,q1,q2⟩:=qU hE hs hf fn.results.toList vs hr h1;refine⟨if h:H.toArray.size=1 then H.toArray[0]else .tuple H.toArray,?_,?_⟩
  ·unfold results
   rw[ad8]
   rw[abo,Sem.run_map]
   generalize hG:Sem.run P (List.mapM _ _) w=G
   have hG:G=.ok H w:=hG.symm.trans q1
   simp_all
  split at h
  ·rename_i v1 a0
   cases a0
   cases h
   obtain⟨v',l2,rfl,hv,hl⟩:=q2.cases
   obtain rfl:=hl.nil_eq
   grind
  ·rename_i b0 d0 a0;cases a0;cases h
   have hlen:¬H.toArray.size=1:=by
    intro hl
    have:vs.length=1:=by rw[q2.1];simpa using hl
    obtain⟨x,rfl⟩:=List.length_eq_one_iff.1 this
    grind
   rw[dif_neg hlen];exact q2.tuple
  ·grind
theorem Ev.Hw(h:Ev P σ {m with low:=m.n} w σ' m' w'):Ev P σ m w σ' {m' with low:=min m.low m'.low} w' where
 ext:=h.ext
 sH:=h.sH.low _
 low:=adW _ _
 LD:=h.LD
 hle:=h.hle
 new:=λb i x y=>by
  have⟨h1,H⟩:=h.new b i x y
  grind
 abs:=λb x y=>h.abs b (by grind) y
 heap:=λB x y=>h.heap B x λb i p q=>by grind
 os:=h.os
 tape:=h.tape
 output:=h.output
theorem bw.wm{v v':aeM}(h:bw σ v v')(h0:bB v):v'=v:=by
 by_cases hc:dG v=true;·exact h.jL hc
 ·cases v with
  |tuple vs=>
   obtain⟨a',rfl,ha⟩:=h.uD
   congr 1
   apply ac0
   apply aco
   intro j
   cases H:vs.toList[j]? with
   |none=>exact ace (by rw[<-ha.1];exact adw.1 H)
   |some u=>have⟨u',hu,hr⟩:=ha.get H;rw[hu,hr.jL (abw.1 h0 u (abb H))]
  |_=>exact absurd h0 hc
theorem Ev.forget(H:eN P σ m w)(h:Ev P σ {m with low:=m.n} w σ' m' w')(hl:m.n<=m'.low):Ev P σ m w σ m w':=by
 have hk:∀B,B < w.heap.size->w'.heap[B]?=w.heap[B]?:=λB hB=>h.heap B hB λb i p _=>by have:=H.sw b i p;omega
 have a0:=h.hle;refine⟨λ_ _ x=>x,⟨H.sw,λb i hb=>(H.obj b i hb).aY (λ_ _ x=>x) (hk _ (H.lt b i hb)),λb i hb=>?_,H.inj,H.kz⟩,aa4 _,aa4 _,a0,λb i x y=>(by grind),λ_ _ _=>rfl,λB hB _=>hk B hB,h.os,h.tape,h.output⟩;have:=H.lt b i hb;omega
theorem Ev.gG{r:Nat}{o:Obj}(h:Ev P σ m w σ' m' w')(hb:w.heap.size<=r)(hr:∀b i,σ' b=some i->i.cI≠r):Ev P σ m w σ' m' (w'.putObj r o):=by have H:=h.sH;refine⟨h.ext,⟨H.sw,λb i x=>(H.obj b i x).aY (λ_ _ x=>x) (World.putObj_heap_other (hr b i x)),λb i x=>by rw[World.putObj_size];exact H.lt b i x,H.inj,H.kz⟩,h.low,h.LD,by rw[World.putObj_size];exact h.hle,h.new,h.abs,λB x y=>?_,h.os,h.tape,h.output⟩;rw[World.putObj_heap_other (by omega)];exact h.heap B x y
theorem mj.gG{base r:Nat}{o:Obj}:∀{ds:List Deferred},mj base σ w ds->(∀d∈ds,d.target≠.collected r)->mj base σ (w.putObj r o) ds
 |[],_,_=>trivial
 |d::ds,h,hn=>by
  have⟨⟨q,h1,h2,h3,h4,h5⟩,h6⟩:=h
  refine⟨⟨q,h1,h2,?_,h4,h5⟩,h6.gG λd' H=>hn d' (abS _ H)⟩
  rw[World.putObj_heap_other (λe=>hn d abN (by grind))]
  exact h3
theorem ky{fn:Func}{tmps:Array aeM}{R:Ending->World->Prop}:∀(ds:List Deferred) (w':World),mj w.heap.size σ' w' ds->Ev P σ m w σ' m' w'->
  (∀H,Ev P σ m w σ' m' H->∃v,(results fn tmps).run P H=.ok v H/\R (.returned v) H)->LeavesInM Fence.wide 0 P fn tmps R ds .returning w'
 |[],w',_,he,h=>h w' he
 |d::ds,w',hd,he,h=>by
  have⟨⟨r,h1,h2,h3,h4,h5⟩,h6⟩:=hd
  exact⟨by simp,.inl ⟨r,_,h1,run_takeDeferred h3,ky ds _ (h6.gG h5) (he.gG h2 h4) h⟩⟩
theorem rf{fn:Func}{tmps:Array aeM}{R:Ending->World->Prop}{rest:List Deferred}{base:Nat}{K:World->Prop}(hK:∀w r o,base<=r->(∀b i,σ' b=some i->i.cI≠r)->K w->K (w.putObj r o))(hb:w.heap.size<=base):
  ∀(ds:List Deferred) (w':World),mj base σ' w' ds->Ev P σ m w σ' m' w'->K w'->
  (∀H,Ev P σ m w σ' m' H->K H->LeavesInM Fence.wide 0 P fn tmps R rest .returning H)->LeavesInM Fence.wide 0 P fn tmps R (ds++rest) .returning w'
 |[],w',_,he,hk,h=>h w' he hk
 |d::ds,w',hd,he,hk,h=>by
  have⟨⟨r,h1,h2,h3,h4,h5⟩,h6⟩:=hd
  exact⟨by simp,.inl ⟨r,_,h1,run_takeDeferred h3,rf hK hb ds _ (h6.gG h5) (he.gG (acb hb h2) h4) (hK _ _ _ h2 h4 hk) h⟩⟩
theorem AY(hE:E.OK P){fn:Func}{fr:Fr}{v:aeM}(h:Gp E fn m fr=some (v,m'))(b0:(fn.results.toList.all λ|.tmp t=>Nat.blt t nt |.cell a _=>Nat.blt a nt))
  (hs:eN P σ m w) (hf:dB σ' fr.T a nt) (he:Ev P σ {m with low:=m.n} w σ' fr.m w'):∃v',(results fn a.tmps).run P w'=.ok v' w'/\dX P σ m w v m' (.returned v') w':=by
 unfold Gp at h
 cases hr:result? E fn fr.T fr.m with
 |none=>rw[hr]at h;cases h
 |some v1=>
  rw[hr]at h
  dsimp only at h
  obtain⟨v',q1,q2⟩:=sQ hE he.sH hf (λr hr=>by
   grind) hr
  refine⟨v',q1,?_⟩
  cases H:(bB v1 && Nat.ble m.n fr.m.low)with
  |true=>rw[H]at h;cases h;simp only[abc]at H;have a0:=q2.wm H.1;subst a0;exact⟨_,σ,rfl,bw.fD H.1,Ev.forget hs he (abB H.2)⟩
  |false=>rw[H]at h;cases h;exact⟨_,σ',rfl,q2,he.Hw⟩
theorem nw(hE:E.OK P)(cY:dc P call){n:Nat}:∀(pre:List Code) (c2:Code) (fr:Fr) (e:Ex) (H:Fr),dz nt P.globals.size (mq pre c2)->vr (bN E call n) pre fr=some (e,H)->
  ∀(k base:Nat) (σ:Sg) (a:Act) (w:World) (Q:Exit->Act->World->Prop) (tl:List Deferred),dB σ fr.T a nt->eN P σ fr.m w->CZ base σ w tl a.defers->base<=w.heap.size->
  (∀σ' a' w',dB σ' H.T a' nt->CZ base σ' w' tl a'.defers->Ev P σ fr.m w σ' H.m w'->match e with |.normal=>c2.wpIn (eD none) k P Q a' w' |e=>Q e.to a' w')->(mq pre c2).wpIn (eD none) k P Q a w
 |[],c2,fr,e,H,_,h=>λk base σ a w Q tl hf hs hd _ hQ=>by
  cases h
  exact hQ σ a w hf hd (Ev.refl hs)
 |c::pre,c2,fr,e,H,b0,h=>λk base σ a w Q tl hf hs hd h0 hQ=>by
  unfold mq dz at b0
  simp only[abc]at b0
  unfold vr at h
  unfold mq
  refine wpIn_seq ?_
  cases hc:bN E call n c fr with
  |none=>rw[hc]at h;cases h
  |some p=>
   have⟨e1,i0⟩:=p
   rw[hc]at h
   refine jo hE cY c fr e1 i0 b0.1 hc none k base σ a w _ tl (.inl rfl) hf hs hd h0 λd0 a1 w1 e0 g0 _ a0=>?_
   cases e1 with
   |normal=>exact nw hE cY pre c2 i0 e H b0.2 h k base d0 a1 w1 Q tl e0 a0.sH g0 (acb h0 a0.hle) λj0 a2 w2 k0 l0 n0=>hQ j0 a2 w2 k0 l0 (a0.trans n0)
   |exit id=>cases h;exact hQ d0 a1 w1 e0 g0 a0
   |ret=>cases h;exact hQ d0 a1 w1 e0 g0 a0
theorem qX:∀(pre:List Code) (c:Code) {n G:Nat},dz n G (mq pre c)->dz n G c=true
 |[],_,_,_,h=>h
 |_::pre,c,n,G,h=>by
  unfold mq dz at h
  simp only[abc]at h
  exact qX pre c h.2
theorem Ay{f:FuncId}{fn:Func}{body:Code}{args':Array aeM}(a0:P.funcs[f]?=some fn)(hb:fn.body=some body)(H:mw P.globals.size fn):(callFunc f args').run P w=.ok (.enter f args') w:=by
 unfold mw at H
 unfold callFunc
 simp_all
theorem yw{ops:Array Oper}(e0:∀o∈ops.toList,ic nt P.globals.size o){n:Nat}{H:Frame}{cs:List Frame}(hu:H.mode=.returning)(hs:eN P σ m w){Q:Exit->Act->List Frame->World->Prop}{ds:List Deferred}{T':Tr aeM}:
  ∀(l:List Oper) (i:Nat) (T:Tr aeM) (a:Act),(∀j o,l[j]?=some o->ops[i+j]?=some o)->nC l T=some T'->dB σ T a nt->a.defers=ds->
  (∀a',dB σ T' a' nt->a'.defers=ds->Q .normal a' (H::cs) w)->wpOpsSIn Fence.wide n P ops Q (List.range' i l.length) a (H::cs) w
 |[],i,T,a,_,h,hf,hd,hQ=>by
  cases h
  simp only[abI,List.range'_zero,wpOpsSIn]
  grind
 |o::l,i,T,a,hi,h,hf,hd,hQ=>by
  have ho:ops[i]?=some o:=by have:=hi 0 o rfl;simpa using this
  have h0:o∈ops.toList:=by grind
  have g0:=e0 o h0
  have next:∀(v v':aeM),nC l (put T o.dst v)=some T'->bw σ v v'->wpOpsSIn Fence.wide n P ops Q (List.range' (i+1) l.length) (a.put o.dst v') (H::cs) w:=λv v' h1 h2=>
   yw e0 hu hs l (i+1) _ _ (λj o' hj=>by have:=hi (j+1) o' (by grind);rw[show i+1+j=i+(j+1) by omega];exact this) h1 (hf.put (fh g0) h2) (by rw[put_defers];exact hd) hQ
  simp only[abr,List.range'_succ,wpOpsSIn,ho]
  refine⟨λ_ _=>trivial,?_⟩
  unfold nC at h
  have hw:o.guard=none->Region.wanted o (yielded ops a.tmps):=by
   intro hg
   unfold Region.wanted
   rw[hg]
  have b0:∀x∈o.op.operands.toList,bw σ (ev T x) (a.eval x):=λx hx=>hf.FP hs (ib g0 x hx)
  split at h
  ·rename_i c hg d0
   rw[abe (hw hg)]
   split at h
   ·rename_i hc
    cases i0:c.args.toList.isEmpty with
    |false=>rw[i0]at h;cases h
    |true=>
     rw[i0]at h
     simp only[cond_true]at h
     have a0:(execOp a.eval o).run P w=.ok .recover w:=by
      unfold execOp
      rw[d0]
      unfold resolve
      dsimp only
      rw[hc]
      simp only[abo,abD,abg,invoke,Go.builtin]
     rw[a0]
     have j0:recoverD (H::cs)=none:=by simp[recoverD,hu]
     simp only[j0]
     exact next .nilIface .nilIface h (.flat _ rfl)
   ·cases h
  ·rename_i x hg d0
   rw[abe (hw hg)]
   have a0:(execOp a.eval o).run P w=.ok (.value (a.eval x)) w:=by
    unfold execOp
    simp_all
   rw[a0]
   exact next _ _ h (b0 x (by rw[d0];simp[Op.operands]))
  ·rename_i x hg d0
   rw[abe (hw hg)]
   have a0:(execOp a.eval o).run P w=.ok (.value (a.eval x)) w:=by
    unfold execOp
    simp_all
   rw[a0]
   exact next _ _ h (b0 x (by rw[d0];simp[Op.operands]))
  ·cases h
theorem Le(hE:E.OK P)(cY:dc P call){n:Nat}{g:Nat}{args:aeN}{m3:M}(h:GF E (bN E call n) g args m=some m3){args':Array aeM}(hs:eN P σ m w)(hl:bK σ args args'.toList):
  CallsDIn Fence.wide 0 P g args' .returning w (λe u' w'=>u'=.returning/\∃v,e=.returned v/\∃σ',Ev P σ m w σ' m3 w')/\(callFunc g args').run P w=.ok (.enter g args') w:=by
 unfold GF at h;split at h
 ·rename_i c hc
  have⟨h0,a0⟩:=hE.cl g c hc
  have d0:=hE.Yv hc
  refine⟨?_,Ay h0 a0 d0⟩
  unfold mw at d0
  rw[a0]at d0
  simp only[abc]at d0
  cases hb:(Nat.ble args.length c.fn.ntmps && (c.fn.results.toList.isEmpty && my c.rest))with
  |false=>rw[hb]at h;cases h
  |true=>
   rw[hb]at h;simp only[abc,adL]at hb;have⟨hle,y0,l0⟩:=hb;have hle:=abB hle;have H:=d0.1;unfold dz at H;simp only[abc]at H;have e0:=H.1;unfold dz at e0;simp only[abc]at e0;have i0:∀o∈c.ops.toList,ic c.fn.ntmps P.globals.size o:=abw.1 e0.1;have j0:=vz (nt:=c.fn.ntmps) hl hle;split at h
   ·rename_i T hT
    have fin:∀(e:Ex) (fr:Fr),e=.normal\/e=.ret->bN E call n c.rest {T:=T,m:={m with low:=m.n}}=some (e,fr)->m3={fr.m with low:=min m.low fr.m.low}->
      CallsDIn Fence.wide 0 P g args' .returning w (λe u' w'=>u'=.returning/\∃v,e=.returned v/\∃σ',Ev P σ m w σ' m3 w'):=by
     intro e fr g0 hex hm
     subst hm
     refine callsDIn_of_wpSIn h0 a0 trivial λb0 cs hu=>wpSIn_seq (wpSIn_region ?_)
     rw[aes,<-ach]
     refine yw (nt:=c.fn.ntmps) i0 hu hs c.ops.toList 0 _ _ (by grind) hT j0 rfl λa' n0 o0=>?_
     refine wpSIn_of_wpIn rfl ?_
     refine jo hE cY c.rest _ e fr H.2 hex none 0 w.heap.size σ a' w _ [] (.inl rfl) n0 (hs.low m.n) ⟨[],by grind,trivial⟩ (aa4 _) λp0 a1 w1 z0 A0 q0 r0=>?_
     have k0:a1.defers=[]:=(q0 l0).trans o0
     have s0:(results c.fn a1.tmps).run P w1=.ok (.tuple #[]) w1:=by
      unfold results
      simp_all
     have u0:b0::cs={b0 with mode:=.returning}::cs:=by rw[<-hu]
     have hq:a1.defers=[]/\∃u',b0::cs={b0 with mode:=u'}::cs/\∃v,(results c.fn a1.tmps).run P w1=.ok v w1/\
       (u'=.returning/\∃v',Ending.returned v=.returned v'/\∃σ',Ev P σ m w σ' {fr.m with low:=min m.low fr.m.low} w1):=
      ⟨k0,.returning,u0,_,s0,rfl,_,rfl,p0,r0.Hw⟩
     rcases g0 with rfl |rfl <;>exact hq
    split at h;·cases h
    ·cases h
    ·rename_i e fr v0 hex
     cases h
     refine fin e fr ?_ hex rfl
     cases e with
     |normal=>exact .inl rfl
     |ret=>exact .inr rfl
     |exit id=>exact absurd rfl (v0 id)
   cases h
 cases h
theorem EM(hE:E.OK P)(cY:dc P call){n:Nat}{f:FuncId}{d:Tf}(hd:E.df.get f=some d){args:aeN}{v:aeM}(h:zp E (bN E call n) d args m=some (v,m')){args':Array aeM}(hs:eN P σ m w)(hl:bK σ args args'.toList):
  CallsIn Fence.wide 0 P f args' w (dX P σ m w v m')/\(callFunc f args').run P w=.ok (.enter f args') w:=by
 have⟨K0,g0⟩:=hE.df f d hd
 have H:=hE.Yu hd
 refine⟨?_,Ay K0 g0 H⟩
 unfold mw at H
 rw[g0]at H
 simp only[abc]at H
 unfold zp at h
 cases hle:Nat.ble args.length d.fn.ntmps with
 |false=>rw[hle]at h;cases h
 |true=>
  rw[hle]at h;simp only[cond_true]at h;have hle:=abB hle;have z0:=vz (nt:=d.fn.ntmps) hl hle;have L0:=hs.low m.n;have a0:=qX _ _ H.1;unfold dz at a0;simp only[abc]at a0;have j0:=a0.1;unfold dz at j0;simp only[abc]at j0;have A0:∀o∈(#[d.mf,d.de]:Array Oper).toList,ic d.fn.ntmps P.globals.size o:=abw.1 j0.1;refine callsIn_of_wp_marks K0 g0 trivial ?_;split at h
  ·
   rename_i fr hex
   refine nw hE cY d.pre _ _ .ret fr H.1 hex 0 w.heap.size σ _ w _ [] z0 L0 ⟨[],rfl,trivial⟩ (aa4 _) λh0 a1 w1 k0 D0 i0=>?_
   have⟨ms,E0,j1⟩:=D0
   have E0:a1.defers=ms:=by rw[E0,abJ]
   show LeavesInM Fence.wide 0 P d.fn a1.tmps (dX P σ m w v m') a1.defers .returning w1
   rw[E0]
   exact ky ms w1 j1 i0 λw2 l0=>AY hE h H.2.2 hs k0 l0
  ·rename_i fr hex;refine nw hE cY d.pre _ _ .normal fr H.1 hex 0 w.heap.size σ _ w _ [] z0 L0 ⟨[],rfl,trivial⟩ (aa4 _) λh0 a1 w1 k0 D0 i0=>?_;have⟨n0,o0,B0⟩:=D0;have o0:a1.defers=n0:=by rw[o0,abJ]
   dsimp only;split at h
   ·rename_i td g fi ca c k1 p0 F0 l1 o1;split at h
    ·rename_i t N0
     cases b0:(Nat.beq t td && (c.args.toList.isEmpty && fi.toList.isEmpty))with
     |false=>rw[b0]at h;cases h
     |true=>
      rw[b0]at h;simp only[cond_true]at h;simp only[abc,adL]at b0;have⟨ht,p1,r1⟩:=b0;obtain rfl:=abn ht;have O0:fi= #[]:=adj (by rw[<-ach,r1];rfl);have Q0:c.args= #[]:=adj (by rw[<-ach,p1];rfl);subst O0;have q0:=A0 d.mf (by simp);have b1:=A0 d.de (by simp);have C0:bK h0 (ca.toList.map (ev fr.T)) (ca.toList.map a1.eval):=kN _ (λo hx=>k0.FP i0.sH (ib q0 o (by rw[F0];simpa[Op.operands]using hx)));let cv:aeM:=.func (.func g) #[] (ca.toList.map a1.eval).toArray
      have u1:bw h0 (.func (.func g) #[] (ca.toList.map (ev fr.T)).toArray) cv:=.func g _ _ _ _ rfl (by simp) (λj u u' p q=>by simp at p) (λj u u' p q=>C0.2 j u u' (by simpa using p) (by simpa using q));have v1:ca.map a1.eval=(ca.toList.map a1.eval).toArray:=by apply ac0;simp
      let dd:Deferred:={target:=.fn (.func g) (ca.toList.map a1.eval).toArray,args:= #[]}
      let a2:Act:=a1.put (some t) cv
      let a3:Act:=({a2 with defers:=dd::a2.defers}:Act).put d.de.dst undef
      have c1:dB h0 (put fr.T (some t) (.func (.func g) #[] (ca.toList.map (ev fr.T)).toArray)) a2 d.fn.ntmps:=k0.put (λx hx=>fh q0 x (by rw[p0];exact hx)) u1
      have y1:dB h0 (put (put fr.T (some t) (.func (.func g) #[] (ca.toList.map (ev fr.T)).toArray)) d.de.dst undef) a3 d.fn.ntmps:=
       dB.put (a:=({a2 with defers:=dd::a2.defers}:Act)) ⟨c1.1,c1.2⟩ (fh b1) bw.undef
      have z1:t < d.fn.ntmps:=fh q0 t p0
      have A1:a2.eval (.tmp t)=cv:=by
       have:t < a1.tmps.size:=by rw[k0.1];exact z1
       simp[a2,Act.put,Act.eval,this]
      refine wpIn_seq (wpIn_region_list ?_);unfold wpListIn;have B1:Region.wanted d.mf (yielded #[d.mf,d.de] a1.tmps):=by unfold Region.wanted;rw[k1]
      rw[abe B1];refine⟨λ_ _=>trivial,?_⟩;rw[Oper.semAt_eq _ _ _ (λc hc=>by rw[F0]at hc;cases hc)]
      have G0:(execOp a1.eval d.mf).run P w1=.ok (.value cv) w1:=by unfold execOp;rw[F0];simp[Instr.makeFunc,cv,v1]
      rw[G0,Oper.uponIn_value];unfold wpListIn;rw[p0];have C1:Region.wanted d.de (yielded #[d.mf,d.de] (a1.put (some t) cv).tmps):=by unfold Region.wanted;rw[l1]
      rw[abe C1];refine⟨λ_ _=>trivial,?_⟩
      have H0:(d.de.semAt (eD none).round a2.eval).run P w1=.ok (.defer dd) w1:=by show(d.de.semAt none a2.eval).run P w1=_;rw[Oper.semAt_none];unfold execOp;rw[o1];unfold resolve;dsimp only;rw[N0];dsimp only;rw[A1,Q0];simp[Deferred.ofValue,cv,dd]
      have v0:(d.de.semAt (eD none).round (a1.put (some t) cv).eval).run P w1=.ok (.defer dd) w1:=H0;rw[v0,Oper.uponIn_defer];unfold wpListIn
      have I0:a3.defers=dd::n0:=by show(Act.put _ _ _).defers=_;rw[put_defers];show dd::(a1.put (some t) cv).defers=_;rw[put_defers,o0]
      show d.post.wpIn (eD none) 0 P _ a3 w1
      have fin:∀(e:Ex) (d0:Fr),e=.normal\/e=.ret->bN E call n d.post {T:=put (put fr.T (some t) (.func (.func g) #[] (ca.toList.map (ev fr.T)).toArray)) d.de.dst undef,m:=fr.m}=some (e,d0)->
        (match GF E (bN E call n) g (ca.toList.map (ev fr.T)) d0.m with
         |some m3=>Gp E d.fn m {d0 with m:=m3}
         |none=>none)=some (v,m')->d.post.wpIn (eD none) 0 P (bodyPostM Fence.wide 0 P d.fn (dX P σ m w v m')) a3 w1:=by
       intro e d0 J0 r0 e0
       refine jo hE cY d.post _ e d0 a0.2 r0 none 0 w1.heap.size h0 a3 w1 _ (dd::n0) (.inl rfl) y1 i0.sH ⟨[],by rw[I0];rfl,trivial⟩ (aa4 _) λd1 a4 w2 D1 E1 _ l0=>?_
       have⟨F1,e1,g1⟩:=E1
       have y0:LeavesInM Fence.wide 0 P d.fn a4.tmps (dX P σ m w v m') a4.defers .returning w2:=by
        rw[e1];have G1:=i0.hle;refine rf (K:=λw'=>Ev P h0 fr.m w1 d1 d0.m w'/\mj w.heap.size d1 w' n0) (base:=w1.heap.size) (λW r o hr H1 hk=>⟨hk.1.gG hr H1,hk.2.gG λd' I1 e=>?_⟩) G1 F1 w2 g1 (i0.trans l0) ⟨l0,B0.ev l0⟩ λw3 i1 J1=>?_
        ·have⟨r',h1,h2⟩:=B0.lt d' I1;rw[e]at h1;cases h1;omega
        ·have⟨K1,L1⟩:=J1
         cases s0:GF E (bN E call n) g (ca.toList.map (ev fr.T)) d0.m with
         |none=>rw[s0]at e0;cases e0
         |some m3=>rw[s0]at e0;dsimp only at e0;obtain⟨N1,O1⟩:=Le (args':= #[]++(ca.toList.map a1.eval).toArray) hE cY s0 i1.sH (by simpa using C0.mono K1.ext);refine⟨by simp,.inr ⟨λhh=>by simp[Fence.wide]at hh,.func g,_,g,_,rfl,O1,λ_ _=>trivial,N1.mono λe u' w' hx=>?_⟩⟩;obtain⟨rfl,v',rfl,σ',u0⟩:=hx;exact ky n0 w' (L1.ev u0) (i1.trans u0) λw4 P1=>AY hE e0 H.2.2 hs (D1.mono u0.ext) P1
       rcases J0 with rfl |rfl <;>exact y0
      split at h;·cases h
      ·cases h
      ·rename_i e d0 T1 r0
       refine fin e d0 ?_ r0 h
       cases e with
       |normal=>exact .inl rfl
       |ret=>exact .inr rfl
       |exit id=>exact absurd rfl (T1 id)
    cases h
   cases h
  cases h
theorem sg(hE:E.OK P){X:aK}(hX:dc P X){n:Nat}(ih:dc P (cA E X n)){f:FuncId}{args:aeN}{v:aeM}(h:cA E X (n+1) (.func f) args m=some (v,m')){args':Array aeM}(hs:eN P σ m w)(hl:bK σ args args'.toList):
  CallsIn Fence.wide 0 P f args' w (dX P σ m w v m')/\(callFunc f args').run P w=.ok (.enter f args') w:=by
 unfold cA at h
 split at h
 ·rename_i r hr
  cases h
  exact hX.func f args m v m' hr σ w args' hs hl
 split at h
 ·split at h
  ·rename_i d hd
   exact EM hE ih hd h hs hl
  ·cases h
 ·rename_i fn k0
  have l0:=hE.fn f fn k0
  have d0:=hE.code k0
  unfold mw at d0
  simp only[abc]at d0
  split at h
  ·cases h
  ·rename_i body a0
   rw[a0]at d0
   cases hle:Nat.ble args.length fn.ntmps with
   |false=>rw[hle]at h;simp at h
   |true=>
    rw[hle]at h
    simp only[cond_true]at h
    have hle:=abB hle
    have n0:(callFunc f args').run P w=.ok (.enter f args') w:=by
     have g0:(fn.name== "runtime.NumGoroutine")=false:=by simpa using d0.2.1
     unfold callFunc
     simp only[abo,run_program,abg,l0,g0,a0]
     rfl
    refine⟨?_,n0⟩
    have p0:=hs.low m.n
    have o0:=vz (nt:=fn.ntmps) hl hle
    have go:∀(e:Ex) (fr:Fr),e=.normal\/e=.ret->bN E (cA E X n) n body {T:=enter args 0,m:={m with low:=m.n}}=some (e,fr)->
      (match result? E fn fr.T fr.m with
       |none=>none
       |some v=>bif bB v && Nat.ble m.n fr.m.low then some (v,m)else some (v,{fr.m with low:=min m.low fr.m.low}))=some (v,m')->CallsIn Fence.wide 0 P f args' w (dX P σ m w v m'):=by
     intro e fr h0 hex H
     refine callsIn_of_wp_marks l0 a0 trivial ?_
     refine jo hE ih body _ e fr d0.1 hex none 0 w.heap.size σ _ w _ [] (.inl rfl) o0 p0 ⟨[],rfl,trivial⟩ (aa4 _) λq0 a1 w1 r0 e0 _ s0=>?_
     have⟨ms,i0,e0⟩:=e0
     have i0:a1.defers=ms:=by rw[i0,abJ]
     rw[<-i0]at e0
     have b0:LeavesInM Fence.wide 0 P fn a1.tmps (dX P σ m w v m') a1.defers .returning w1:=by
      refine ky a1.defers w1 e0 s0 λw2 j0=>?_
      cases hr:result? E fn fr.T fr.m with
      |none=>rw[hr]at H;cases H
      |some v1=>
       rw[hr]at H
       dsimp only at H
       obtain⟨v',q1,q2⟩:=sQ hE j0.sH r0 (λr hr=>by
        have:=abw.1 d0.2.2 r hr
        cases r <;>exact this) hr
       refine⟨v',q1,?_⟩
       cases hb:(bB v1 && Nat.ble m.n fr.m.low)with
       |true=>
        rw[hb]at H
        cases H
        simp only[abc]at hb
        have u0:=q2.wm hb.1
        subst u0
        exact⟨_,σ,rfl,bw.fD hb.1,Ev.forget hs j0 (abB hb.2)⟩
       |false=>
        rw[hb]at H
        cases H
        exact⟨_,q0,rfl,q2,j0.Hw⟩
     rcases h0 with rfl |rfl
     ·exact b0
     ·exact b0
    split at h
    ·cases h
    ·cases h
    ·rename_i e fr g0 hex
     refine go e fr ?_ hex h
     cases e with
     |normal=>exact .inl rfl
     |ret=>exact .inr rfl
     |exit id=>exact absurd rfl (g0 id)
theorem yh:∀(ps:List Tmp) (args args':aeN) (T:Tr aeM) (tmps:Array aeM) (ds:List Deferred),dB σ T {tmps,defers:=ds} nt->(∀p∈ps,p < nt)->bK σ args args'->
  dB σ (uK T (ps.zip args)) {tmps:=(ps.zip args').foldl (λtmps x=>tmps.setIfInBounds x.1 x.2) tmps,defers:=ds} nt
 |[],_,_,_,_,_,h,_,_=>h
 |p::ps,[],args',T,tmps,ds,h,_,H=>by
  obtain rfl:=H.nil_eq
  exact h
 |p::ps,v::args,x,T,tmps,ds,h,hp,H=>by
  obtain⟨v',args',rfl,hv,a0⟩:=H.cases
  have h2:=h.put (dst:=some p) (λd hd=>by simp_all) hv
  exact yh ps args args' (T.set p v) (tmps.setIfInBounds p v') ds h2 (λq hq=>hp q (abS _ hq)) a0
theorem Ev.loop{b:Nat}{i:BI}{r r2:zI}{r' r2':Loop}(hs:eN P σ m w)(hb:σ b=some i)(hm:m.get b=.loop r)(hr:w.heap[i.cI]?=some (.loop r'))(hh:∀w',w'.heap[i.cI]?=some (.loop r2')->Holds σ i w' (.loop r2)):
  Ev P σ m w σ (m.set b (.loop r2)) (w.putObj i.cI (.loop r2')):=by have H:i.cI < w.heap.size:=(ab2.1 hr).1;exact Ev.write hs hb (by grind) (hh _ (World.putObj_heap_same H)) (λB hB=>World.putObj_heap_other hB) (by simp) rfl rfl rfl
theorem M.CA{b:Nat}{r r2:zI}(h:m.get b=.loop r):(m.set b (.loop r2)).get b=.loop r2:=by have:b < m.n:=M.ll (by grind);rw[M.bX _ _ _ _ this,abe rfl]
theorem DF(hE:E.OK P){X:aK}{n:Nat}(ih:dc P (cA E X n)){l:Nat}{args:aeN}{v:aeM}(h:uM (bN E (cA E X n) n) E.G l args m=some (v,m')){i:BI}{args':Array aeM}(hs:eN P σ m w)(hl:σ l=some i)(ha:bK σ args args'.toList):
  dK P σ m w ((Instr.yield i.cI args').run P w) v m':=by
 unfold uM at h;split at h
 ·rename_i r hr
  have ho:=hs.obj _ _ hl
  rw[hr]at ho
  have⟨O0,r',nt,q1,q2,q3,q4,q5,q6,q7,q8,q9,WN,s0,Q0⟩:=ho
  cases hb:(Nat.beq args.length r.ps.size && Nat.beq r.G E.G)with
  |false=>rw[hb]at h;simp at h
  |true=>
   rw[hb]at h;simp only[cond_true]at h;simp only[abc]at hb;have hlen:=abn hb.1;have hG:=abn hb.2;rw[hE.G]at hG;rw[hG]at q9 WN
   have u0:args'.size=r'.params.size:=by
    have:=ha.1
    grind
   rw[run_yield q1 u0];let R:Ending->World->Prop:=dX P σ m w v m'
   suffices H:∀(ro:Option Nat) (k:Nat),RoundIn (eD ro) k P i.cI r'.fn ((r'.params.zip args').foldl (λtmps (t,a)=>tmps.setIfInBounds t a) r'.tmps) r'.assign r'.body w R by
    refine⟨?_,λro k o a next Q hk=>?_⟩
    ·obtain⟨e,w',⟨v',σ',_,hv,he⟩,_⟩:=(H none 0).2 default [] (room_wide _)
     grind
    ·refine⟨λhh=>by simp[eD,Fence.wide]at hh,(H ro (k-1)).mono λe w' he=>?_⟩
     obtain⟨v',σ',rfl,hv,b1⟩:=he
     grind
   intro ro k;refine roundIn_of_wpIn trivial ?_
   have v0:dB σ (uK r.T (r.ps.toList.zip args)) {tmps:=((r'.params.zip args').foldl (λtmps (t,a)=>tmps.setIfInBounds t a) r'.tmps),defers:=[]} nt:=by
    have h0:dB σ r.T {tmps:=r'.tmps,defers:=[]} nt:=⟨q7,λt ht=>q8 t ht⟩
    have h1:=yh r.ps.toList args args'.toList r.T r'.tmps [] h0 s0 ha
    have e:(r'.params.zip args').foldl (λtmps (t,a)=>tmps.setIfInBounds t a) r'.tmps=(r.ps.toList.zip args'.toList).foldl (λtmps x=>tmps.setIfInBounds x.1 x.2) r'.tmps:=by rw[<-adz,Array.toList_zip,q4]
    grind
   rw[q5,q6];split at h
   ·rename_i y0 hx;split at h
    ·rename_i r1 g0;split at h
     ·rename_i N0;split at h
      ·rename_i e i0 z0;split at h
       ·rename_i r2 k0
        refine jo hE ih r.assign _ .normal y0 q9 hx (some i.cI) k 0 σ _ w _ [] (.inr ⟨l,i,r,rfl,hl,hr⟩) v0 (hs.low m.n) ⟨[],rfl,trivial⟩ (abh _) λA0 a1 w1 B0 C0 _ b0=>?_
        have d0:=b0.ext _ _ hl
        have l0:=b0.sH.obj _ _ d0
        rw[g0]at l0
        have⟨n0,D0,E0,p1,p2,p3,p4,p5,p6,p7,p8,p9,F0,G0,H0⟩:=l0
        refine⟨_,run_beginRound p1 (by grind),?_⟩
        have a0:=Ev.loop (r2:={r1 with st:=.busy}) (r2':={D0 with state:=.busy}) b0.sH d0 g0 p1 λw' j0=>⟨n0,_,E0,j0,rfl,p3,p4,p5,p6,p7,p8,p9,F0,G0,H0⟩
        refine jo hE ih r.body _ e i0 WN z0 (some i.cI) k 0 A0 a1 _ _ [] (.inr ⟨l,i,_,rfl,d0,M.CA g0⟩) B0 a0.sH (C0.ev a0) (abh _) λI0 a2 w2 c1 d1 _ e0=>?_
        have o0:=e0.ext _ _ d0
        have p0:=e0.sH.obj _ _ o0
        rw[k0]at p0
        have⟨q0,r2',J0,z1,z2,z3,z4,z5,z6,z7,z8,z9,K0,L0,e1⟩:=p0
        have r0:=(b0.trans a0).trans e0
        have fin:∀(j:Option Ex),j≠some .normal->∃v' w',(Instr.endRound i.cI (j.map vt)).run P w2=.ok v' w'/\(v=.bool (j.map vt).isNone->m'={i0.m.set l (.loop {r2 with st:=if(j.map vt).isNone then .ready else .done,sY:=j})with low:=min m.low (i0.m.set l (.loop {r2 with st:=if(j.map vt).isNone then .ready else .done,sY:=j})).low}->R (.returned v') w'):=by intro j hj;refine⟨_,_,run_endRound (j.map vt) z1,λhv hm=>?_⟩;subst hv hm;refine⟨_,I0,rfl,.flat _ rfl,Ev.Hw (r0.trans ?_)⟩;exact Ev.loop e0.sH o0 k0 z1 λw' j0=>⟨q0,_,J0,j0,rfl,rfl,z4,z5,z6,z7,z8,z9,K0,L0,hj⟩
        cases e with
        |normal=>cases h;obtain⟨v',w',f1,f2⟩:=fin none (by simp);exact⟨v',w',f1,f2 rfl rfl⟩
        |exit id=>cases h;obtain⟨v',w',f1,f2⟩:=fin (some (.exit id)) (by simp);exact⟨v',w',f1,f2 rfl rfl⟩
        |ret=>cases h;obtain⟨v',w',f1,f2⟩:=fin (some .ret) (by simp);exact⟨v',w',f1,f2 rfl rfl⟩
       cases h
      cases h
     cases h
    cases h
   cases h
 cases h
theorem mi(hE:E.OK P){X:aK}(hX:dc P X):∀n,dc P (cA E X n)
 |0=>⟨λf args m v m' h=>by simp[cA]at h,λl args m v m' h=>by simp[cA]at h,CP hX.aY 0,λa m v m' b h=>by simp[cA]at h⟩
 |n+1=>⟨λf args m v m' h σ w H hs hl=>sg hE hX (mi hE hX n) h hs hl,λl args m v m' h σ w i H hs hl ha=>by
   unfold cA at h
   exact DF hE (mi hE hX n) h hs hl ha,CP hX.aY (n+1),λa m v m' b h hb=>by
   unfold cA at h
   split at h
   ·rename_i r hr
    cases h
    exact hX.LA a m v m' b hr hb
   ·rw[hE.st.1]at h
    dsimp only at h
    rw[hE.st.2]at h
    cases h⟩
theorem tX(hE:E.OK P){X:aK}(H:dc P X){n:Nat}{f:FuncId}{args:aeN}{v:aeM}(h:cA E X n (.func f) args m=some (v,m')){args':Array aeM}(hs:eN P σ m w)(hl:bK σ args args'.toList):
  Calls P f args' w (dX P σ m w v m'):=by
 cases n with
 |zero=>simp[cA]at h
 |succ n=>exact callsIn_wide.1 (sg hE H (mi hE H n) h hs hl).1
def WO:aK:=λ_ _ _=>none
theorem T6:dc P WO:=⟨λf args m v m' h=>by simp[WO]at h,λl args m v m' h=>by simp[WO]at h,λf args m v m' h=>by simp[WO]at h,λa m v m' b h=>by simp[WO]at h⟩
end
end
section
def M.wl(m:M)(l:Nat):M:={m with low:=l}
section
variable {m:M} {l k b:Nat} {o:Ob}
theorem M.cV:(m.wl l).get b=m.get b:=rfl
theorem M.Bu:(m.wl l).low=l:=rfl
theorem M.Hh:(m.wl l).wl k=m.wl k:=rfl
theorem M.Hi:(m.wl l).push o=(m.push o).wl l:=rfl
theorem M.LJ:(m.wl l).set b o=(m.set b o).wl (min l b):=rfl
theorem M.mr:(m.push o).n=m.n+1:=rfl
end
structure bQ{α:Type}(m:M)(f:M->Option (α×M)):Prop where
 eq:∀l,l<=m.n->f (m.wl l)=(f (m.wl m.n)).map (λr=>(r.1,r.2.wl (min l r.2.low)))
 LD:∀r,f (m.wl m.n)=some r->m.n<=r.2.n
section
variable {α:Type} {m:M}
theorem bQ.none:bQ (α:=α) m (λ_=>none):=⟨λ_ _=>rfl,λ_ h=>by cases h⟩
theorem bQ.same(v:α):bQ m (λm=>some (v,m)):=⟨λl h=>by
 simp only[abi,M.Bu,M.Hh,adQ h],λr h=>by cases h;exact aa4 _⟩
theorem bQ.push(v:α)(o:Ob):bQ m (λm=>some (v,m.push o)):=⟨λl h=>by
 simp only[abi,M.Hi,M.Bu,M.Hh,adQ h],λr h=>by cases h;exact acs _⟩
theorem bQ.set(v:α)(b:Nat)(o:Ob):bQ m (λm=>some (v,m.set b o)):=⟨λl h=>by
 simp only[abi,M.LJ,M.Bu,M.Hh]
 congr 3
 omega,λr h=>by cases h;exact aa4 _⟩
theorem bQ.QS(v:α)(b:Nat)(o H:Ob):bQ m (λm=>some (v,(m.set b o).push H)):=⟨λl h=>by
 simp only[abi,M.LJ,M.Hi,M.Bu,M.Hh]
 congr 3
 omega,λr h=>by cases h;exact acs _⟩
theorem bQ.of_eq{f g:M->Option (α×M)}(h:bQ m g)(e:∀l,f (m.wl l)=g (m.wl l)):bQ m f:=⟨λl H=>by rw[e,e,h.eq l H],λr hr=>h.LD r (by grind)⟩
end
noncomputable section
variable {E:Env} {m:M}
theorem bU{l n:Nat}{a:Addr}:loadCells (m.wl l) a n=loadCells m a n:=rfl
theorem yI{l:Nat}{t:TypeId}{a:Addr}:loadVar E (m.wl l) t a=loadVar E m t a:=rfl
theorem cP{l:Nat}{a:Addr}:oY (m.wl l) a=oY m a:=rfl
theorem cy{l s n:Nat}{x:aeM}:first? (m.wl l) s n x=first? m s n x:=rfl
theorem dN{l:Nat}{t:TypeId}{x:aeM}:oL E (m.wl l) t x=oL E m t x:=rfl
theorem JG{l:Nat}{t:TypeId}{x:aeM}{a b c:Option aeM}:slice? E (m.wl l) t x a b c=slice? E m t x a b c:=rfl
theorem Gb{l:Nat}{t:TypeId}{x k:aeM}{ok:Bool}:qA E (m.wl l) t x k ok=qA E m t x k ok:=rfl
theorem Wc{l:Nat}{s d:TypeId}{x:aeM}:Qp E (m.wl l) s d x=Qp E m s d x:=rfl
theorem kV{v:aeM}{a:Addr}{vs:aeN}:bQ m (λm=>(storeCells m a vs).map λm=>(v,m)):=by
 unfold storeCells
 cases h:m.get a.block with
 |cells c e g=>
  cases H:(a.spot.isNone && Nat.ble (a.off+vs.length) c.length && vs.all one)with
  |true=>exact(bQ.set v a.block _).of_eq (λl=>by simp only[M.cV,bU,cy,dN,cP, *,cond_true,abm,abi,abX] <;>rfl)
  |false=>exact bQ.none.of_eq (λl=>by simp only[M.cV,bU,cy,dN,cP, *,cond_true,abm,abi,abX] <;>rfl)
 |_=>exact bQ.none.of_eq (λl=>by simp only[M.cV,bU,cy,dN,cP, *,cond_true,abm,abi,abX] <;>rfl)
theorem Ks{e k:Nat}{base:Option Addr}{sl sc H:Nat}{news:aeN}:bQ m (λm=>lZ m e k base sl sc H news):=by
 unfold lZ
 cases base with
 |none=>
  cases (Nat.beq sl 0 && Nat.beq sc 0)with
  |true=>exact bQ.of_eq (bQ.push (aeL m.n 0 H H) _) (λl=>rfl)
  |false=>exact bQ.none
 |some a=>
  cases h:m.get a.block with
  |cells c te g=>
   cases ho:(bif Nat.beq sl 0 then some []else loadCells m a (sl*k))with
   |none=>exact bQ.none.of_eq (λl=>by simp only[M.cV,bU,cy,dN,cP, *,cond_true,abm,abi,abX] <;>rfl)
   |some fR=>
    cases h1:(g.isNone ||(g==some k && Nat.blt (a.off+sc*k) c.length))with
    |true=>exact bQ.of_eq (bQ.push (aeL m.n 0 H H) (.cells (fR++news) e (some k))) (λl=>by simp only[M.cV,bU,cy,dN,cP, *,cond_true,abm,abi,abX] <;>rfl)
    |false=>
     cases h2:(g==some k && Nat.beq a.off 0 && a.spot.isNone && Nat.beq (sl*k) c.length && Nat.beq sc sl && Nat.beq te e)with
     |true=>exact bQ.of_eq (bQ.QS (aeL m.n 0 H H) a.block .dead (.cells (fR++news) e (some k))) (λl=>by simp only[M.cV,bU,cy,dN,cP, *,cond_true,abm,abi,abX] <;>rfl)
     |false=>exact bQ.none.of_eq (λl=>by simp only[M.cV,bU,cy,dN,cP, *,cond_true,abm,abi,abX] <;>rfl)
  |_=>exact bQ.none.of_eq (λl=>by simp only[M.cV,bU,cy,dN,cP, *,cond_true,abm,abi,abX] <;>rfl)
theorem EX{t u:TypeId}{s x:aeM}:bQ m (λm=>eA E m t u s x):=by
 unfold eA;split
 ·rename_i H ui base sl sc n _ _ _;split;·exact bQ.none
  ·rename_i e _ _
   cases h1:E.ty.get e with
   |none=>exact bQ.none
   |some ei=>
    cases h2:first? m H.es n x with
    |none=>exact bQ.none.of_eq (λl=>by simp only[M.cV,bU,cy,dN,cP, *,cond_true,abm,abi,abX] <;>rfl)
    |some news=>
     cases h3:(Nat.beq H.es 0 ||Nat.blt 65536 ei.bytes || !news.all one ||Nat.blt 268435456 (sl+n) || !Nat.beq news.length (n*H.es) || !gV ei.zero H.es)with
     |true=>exact bQ.none.of_eq (λl=>by simp only[M.cV,bU,cy,dN,cP, *,cond_true,abm,abi,abX] <;>rfl)
     |false=>
      cases h4:Nat.ble (sl+n) sc with
      |false=>exact Ks.of_eq (λl=>by simp only[M.cV,bU,cy,dN,cP, *,cond_true,abm,abi,abX] <;>rfl)
      |true=>
       cases base with
       |none=>
        cases h5:Nat.beq n 0 with
        |true=>exact bQ.of_eq (bQ.same (.slice none sl sc)) (λl=>by simp only[M.cV,bU,cy,dN,cP, *,cond_true,abm,abi,abX] <;>rfl)
        |false=>exact bQ.none.of_eq (by grind)
       |some a=>
        cases h5:Nat.beq n 0 with
        |true=>exact bQ.of_eq (bQ.same (.slice (some a) (sl+n) sc)) (λl=>by simp only[M.cV,bU,cy,dN,cP, *,cond_true,abm,abi,abX] <;>rfl)
        |false=>exact bQ.of_eq (kV (v:=.slice (some a) (sl+n) sc) (a:=a.add (sl*H.es)) (vs:=news)) (λl=>by simp only[M.cV,bU,cy,dN,cP, *,cond_true,abm,abi,abX] <;>rfl)
  exact bQ.none
 exact bQ.none
theorem Lb{t:TypeId}{d x:aeM}:bQ m (λm=>zn E m t d x):=by
 unfold zn;split
 ·rename_i H base dl _ xl _ _
  cases h2:first? m H.es (min xl dl) x with
  |none=>exact bQ.none.of_eq (λl=>by cases hd:H.d <;>simp only[cy,h2,hd])
  |some cs=>
   cases hd:H.d with
   |slice e=>
    cases h3:Nat.beq H.es 0 with
    |true=>exact bQ.none.of_eq (by grind)
    |false=>
     cases base with
     |none=>exact bQ.of_eq (bQ.same (aeP (min xl dl:Nat))) (λl=>by simp only[M.cV,bU,cy,dN,cP, *,cond_true,abm,abi,abX] <;>rfl)
     |some a=>
      cases h5:Nat.beq (min xl dl) 0 with
      |true=>exact bQ.of_eq (bQ.same (aeP (min xl dl:Nat))) (λl=>by simp only[M.cV,bU,cy,dN,cP, *,cond_true,abm,abi,abX] <;>rfl)
      |false=>exact bQ.of_eq (kV (v:=aeP (min xl dl:Nat)) (a:=a) (vs:=cs)) (λl=>by simp only[M.cV,bU,cy,dN,cP, *,cond_true,abm,abi,abX] <;>rfl)
   |_=>exact bQ.none.of_eq (by grind)
 exact bQ.none
theorem GI{t:TypeId}{x:aeM}:bQ m (λm=>rZ E m t x):=by
 unfold rZ;split;·exact bQ.same _
 ·rename_i H a n _ _
  cases Nat.beq n 0 with
  |true=>exact bQ.same _
  |false=>
   split
   ·split;·exact kV
    exact bQ.none
   exact bQ.none
 exact bQ.none
theorem zS{t:TypeId}{x k:aeM}:bQ m (λm=>gD E m t x k):=by
 unfold gD;split
 ·rename_i H r _
  cases h:m.get r with
  |map es clock=>
   cases H.d with
   |map kt et=>
    cases h1:keyed E kt k with
    |false=>exact bQ.none.of_eq (by grind)
    |true=>
     cases h2:findKey E kt k es 0 with
     |none=>exact bQ.none.of_eq (λl=>by simp only[M.cV, *,cond_true,abm] <;>rfl)
     |some r2=>
      cases r2 with
      |none=>
       cases hz:iZ E et with
       |none=>exact bQ.none.of_eq (λl=>by simp only[M.cV, *,cond_true,abm,abX] <;>rfl)
       |some z=>exact(bQ.set (.tuple #[z,aeP clock]) r _).of_eq (λl=>by simp only[M.cV, *,cond_true,abm,abi] <;>rfl)
      |some p=>exact(bQ.set (.tuple #[p.2,aeP (((es[p.1]?).map (·.born)).getD 0)]) r _).of_eq (λl=>by simp only[M.cV, *,cond_true,abm] <;>rfl)
   |_=>exact bQ.none.of_eq (by grind)
  |_=>exact bQ.none.of_eq (λl=>by cases hd:H.d <;>simp only[M.cV,h,hd])
 exact bQ.none
theorem wU{v x s y:aeM}:bQ m (λm=>(dY m x s y).map λm=>(v,m)):=by
 unfold dY;split
 ·rename_i r k b
  cases h:m.get r with
  |map es clock=>
   cases h1:qm b es 0 with
   |none=>exact bQ.none.of_eq (λl=>by simp only[M.cV, *,abX] <;>rfl)
   |some i=>exact(bQ.set v r _).of_eq (λl=>by simp only[M.cV, *,abi] <;>rfl)
  |_=>exact bQ.none.of_eq (λl=>by simp only[M.cV, *,abX] <;>rfl)
 exact bQ.none
theorem CQ{b:Builtin}{ts:List TypeId}{args:aeN}:bQ m (λm=>aw E m b ts args):=by
 unfold aw;split;·exact EX
 ·exact Lb
 ·exact GI
 ·rename_i t x
  cases h:oL E m t x with
  |none=>exact bQ.none.of_eq (λl=>by simp only[M.cV,bU,cy,dN,cP, *,cond_true,abm,abi,abX] <;>rfl)
  |some v=>exact(bQ.same v).of_eq (λl=>by simp only[M.cV,bU,cy,dN,cP, *,cond_true,abm,abi,abX] <;>rfl)
 ·cases h:(dw (λx y=>if y < x then y else x) args)with
  |none=>exact bQ.none
  |some v=>exact bQ.same v
 ·cases h:(dw (λx y=>if y >x then y else x) args)with
  |none=>exact bQ.none
  |some v=>exact bQ.same v
 ·split
  ·split
   ·rename_i e a y c _
    cases h:oY m a with
    |true=>exact bQ.none.of_eq (λl=>by simp only[cP,h,cond_true])
    |false=>exact(bQ.same (aeP c)).of_eq (λl=>by simp only[cP,h,abm])
   ·exact bQ.same _
   exact bQ.none
  exact bQ.none
 exact bQ.none
end
end
section
noncomputable section
variable {E:Env} {m:M}
end
end
section
inductive KV where
 |u
 |v (x:aeM)
def KV.val:KV->aeM
 |.u=>undef
 |.v x=>x
inductive KT where
 |e
 |c (t:Nat) (x:Option KV) (r:KT)
def KT.get(K:KT):Nat->Option KV:=
 KT.rec (motive:=λ_=>Nat->Option KV) (λ_=>none) (λt x _ g i=>bif Nat.beq t i then x else g i) K
def KT.set(K:KT)(t:Nat)(x:KV):KT:=.c t (some x) K
def KT.del(K:KT)(t:Nat):KT:=.c t none K
theorem KT.S7{t i:Nat}{x:Option KV}{r:KT}:(KT.c t x r).get i=if i=t then x else r.get i:=by
 show(bif Nat.beq t i then x else r.get i)=_
 cases h:Nat.beq t i with
 |true=>rw[abe (abn h).symm];rfl
 |false=>rw[abd λe=>abY h e.symm];rfl
theorem KT.bX(K:KT)(t i:Nat)(x:KV):(K.set t x).get i=if i=t then some x else K.get i:=KT.S7
theorem KT.RM(K:KT)(t i:Nat):(K.del t).get i=if i=t then none else K.get i:=KT.S7
structure St where
 K:KT
 m:M
 lo:Nat
def Kn(K:KT)(T:Tr aeM):Prop:=∀t v,K.get t=some v->T.get t=some v.val
noncomputable section
def QY(K:KT)(dst:Option Tmp)(v:KV):KT:=
 match dst with
 |some d=>K.set d v
 |none=>K
def lQ(K:KT):Operand->Option aeM
 |.tmp t=>match K.get t with |some k=>some k.val |none=>none
 |.const v=>some v
 |.global g=>some (.pointer (some ⟨g,0,none⟩))
 |.func f=>some (.func (.func f) #[] #[])
def CD(K:KT):List Operand->Option (aeN)
 |[]=>some []
 |x::xs=>match lQ K x with
  |some v=>match CD K xs with
   |some H=>some (v::H)
   |none=>none
  |none=>none
def PD(K:KT):List (Nat×Operand)->Option (List (Nat×aeM))
 |[]=>some []
 |p::xs=>match lQ K p.2 with
  |some v=>match PD K xs with
   |some H=>some ((p.1,v)::H)
   |none=>none
  |none=>none
def Yr(K:KT):Option Operand->Option (Option aeM)
 |none=>some none
 |some x=>match lQ K x with |some v=>some (some v) |none=>none
variable (E:Env) (X:aK)
def Cl(f:Fn)(args:aeN)(m:M)(b:Nat)(v:aeM)(m':M):Prop:=
 m.n<=m'.n/\b<=m.n/\∃H,∀n,H<=n->∀l,l<=m.n->cA E X n f args (m.wl l)=some (v,m'.wl (min l b))
def V(c:Code)(s:St)(Q:Ex->St->Prop):Prop:=
 ∀T,Kn s.K T->s.lo<=s.m.n->∃e H T',Q e H/\Kn H.K T'/\s.m.n<=H.m.n/\H.lo<=H.m.n/\∃n0,∀n,n0<=n->
  bN E (cA E X n) n c ⟨T,s.m.wl s.lo⟩=some (e,⟨T',H.m.wl H.lo⟩)
def ai{α:Type}(r:Option α)(P:α->Prop):Prop:=match r with |some x=>P x |none=>False
def aP{α β:Type}(r:Option (α×β))(P:α->β->Prop):Prop:=match r with |some x=>P x.1 x.2 |none=>False
def bE(m:M)(P:M->Prop):Prop:=P m
def iW(b:Bool)(P Q:Prop):Prop:=match b with |true=>P |false=>Q
def aR(v:aeM)(P Q:Prop):Prop:=match v with |.bool b=>iW b P Q |_=>False
def ia(v:aeM)(P:Fn->Array aeM->Array aeM->Prop):Prop:=match v with |.func g H ca=>P g H ca |_=>False
def bh(f:Fn)(args:aeN)(m:M)(P:aeM->M->Nat->Prop):Prop:=∃v m' b,Cl E X f args m b v m'/\P v m' b
def Sb(H:Bool)(c:Prop)(P:Prop):Prop:=match H with |true=>c/\P |false=>P
def un(vs:aeN)(P:aeM->aeN->Prop):Prop:=match vs with |v::r=>P v r |[]=>False
variable {E}
def eU(v:aeM):Option aeM:=match v with |.pointer (some a)=>some (.pointer (some a)) |.func (.func f) a b=>some (.func (.func f) a b) |_=>none
def bz(v:aeM)(i:Nat):Option aeM:=match v with |.tuple H=>H.toList[i]? |_=>none
variable (E)
def ah(m:M)(t:TypeId)(a:aeM):Option aeM:=match a with |.pointer (some a)=>loadVar E m t a |_=>none
def aD(m:M)(t:TypeId)(a x:aeM):Option (M×Nat):=match a with |.pointer (some a)=>(match storeVar E m t a x with |some m1=>some (m1,a.block) |none=>none) |_=>none
def lW(m:M)(t:TypeId)(x k y:aeM):Option (M×Nat):=match x with |.map (some r)=>(match eM E m t x k y with |some m1=>some (m1,r) |none=>none) |_=>none
def ptrTo(b:Nat):aeM:=.pointer (some ⟨b,0,none⟩)
def jn(G:(aeN->M->Nat->Prop)->Prop)(k:aeN->M->Nat->Prop):Prop:=G k
def Lp(F:(aeN->M->Nat->Prop)->aeN->M->Nat->Prop)(vs:aeN)(m:M)(lo:Nat):Prop:=
 ∃(H:Type) (μ:H->Nat) (I:H->aeN->M->Nat->Prop),(∃g,I g vs m lo)/\
  ∀g vs m lo,I g vs m lo->F (λvs m lo=>∃g',μ g' < μ g/\I g' vs m lo) vs m lo
def Ex.SU(e:Ex)(P Q:Prop):Prop:=match e with |.normal=>P |_=>Q
structure Ky(y:Nat)(m m':M):Prop where
 n:m.n<=m'.n
 get:∀c,c < m.n->c≠y->m'.get c=m.get c
structure Ext(m m':M):Prop where
 n:m.n<=m'.n
 get:∀b,b < m.n->m'.get b=m.get b
def Sy(fr:Ob->Prop)(g:Fn)(fi ca:aeN)(xs:List (aeN))(Dt:M->Prop):Prop:=
 ∀(y H B:Nat) (I:Nat->M->Prop) (J:M->Prop) (m:M),(∀i m1,I i m1->Dt m1)->(∀i m1 m2,I i m1->Ext m1 m2->I i m2)->(∀m1 m2,J m1->Ext m1 m2->J m2)->
  y < H->H<=m.n->B<=H->
  (∀i args m1,H<=m1.n->xs[i]?=some args->I i m1->∃v m2 b,Cl E X (.yield y) args m1 b v m2/\B<=b/\b<=y/\(∀c,H<=c->c < m1.n->fr (m1.get c)->m2.get c=m1.get c)/\((v=.bool true/\I (i+1) m2)\/(v=.bool false/\J m2)))->
  I 0 m->∃v m2 b,Cl E X g (fi++ .func (.yield y) #[] #[]::ca) m b v m2/\B<=b/\(I xs.length m2\/J m2)
def RF(g:Fn)(fi ca:aeN)(m:M)(lo:Nat)(F:aeN->M->(M->Ex->M->Nat->Prop)->Prop)(Q:M->Nat->Prop)(Qs:List (Ex×(M->Nat->Prop))):Prop:=
 ∃(fr:Ob->Prop) (xs:List (aeN)) (Dt:M->Prop) (I:Nat->M->Prop) (J:Ex->M->Prop) (B:Nat),(∃k,g=.func k)/\Sy E X fr g fi ca xs Dt/\B<=m.n/\
  (∀i m1,I i m1->Dt m1)/\(∀i m1 m2,I i m1->Ky m.n m1 m2->I i m2)/\(∀e m1 m2,J e m1->Ky m.n m1 m2->J e m2)/\I 0 m/\
  (∀i args m1,m.n+1<=m1.n->xs[i]?=some args->I i m1->F args m1 λm2 e m3 H=>B<=H/\(∀c,m.n<=c->c < m1.n->(c=m.n\/fr (m2.get c))->m3.get c=m2.get c)/\e.SU (I (i+1) m3) (J e m3))/\
  (∀m2 fS,I xs.length m2->min lo B<=fS->Q m2 fS)/\(∀e m2 fS,e≠.normal->J e m2->min lo B<=fS->∃p∈Qs,p.1=e/\p.2 m2 fS)
def Q8(y:Nat)(m1 m:M)(P:M->Prop):Prop:=(∀c,y<=c->c < m1.n->m.get c=m1.get c)/\∀m2,m2.n=m.n->(∀c,c≠y->m2.get c=m.get c)->P m2
def IW(vs:aeN)(P:Prop):Prop:=match vs with |[]=>P |_=>False
structure Words where
 ai:{α:Type}->Option α->(α->Prop)->Prop
 aP:{α β:Type}->Option (α×β)->(α->β->Prop)->Prop
 bE:M->(M->Prop)->Prop
 bh:Fn->aeN->M->(aeM->M->Nat->Prop)->Prop
 un:aeN->(aeM->aeN->Prop)->Prop
 IW:aeN->Prop->Prop
 jn:((aeN->M->Nat->Prop)->Prop)->(aeN->M->Nat->Prop)->Prop
 Lp:((aeN->M->Nat->Prop)->aeN->M->Nat->Prop)->aeN->M->Nat->Prop
 RF:Fn->aeN->aeN->M->Nat->(aeN->M->(M->Ex->M->Nat->Prop)->Prop)->(M->Nat->Prop)->List (Ex×(M->Nat->Prop))->Prop
 Q8:Nat->M->M->(M->Prop)->Prop
@[reducible] def aL:Words:=⟨D.ai,D.aP,D.bE,D.bh E X,D.un,D.IW,D.jn,D.Lp,D.RF E X,D.Q8⟩
variable (W:Words)
abbrev iz:=Bool×Nat×Option (Nat×Bool)
def sL(ops:Array Oper)(j i t:Nat):Bool:=ops.toList.zipIdx.all λ(q,k)=> !(Nat.ble i k && Nat.blt k j && q.dst==some t)
def NA(H:Array Nat)(ops:Array Oper)(j:Nat)(x:Oper×Nat)(acc:Option (List iz)):Option (List iz):=
 bif x.2==j ||fg x.1.op ||(H.getD j 0).testBit x.2 ||(H.getD x.2 0).testBit j then acc
 else bif Nat.blt x.2 j then(match x.1.op with
  |.alloc _ |.box _ _=>acc
  |.load _ (.tmp t)=>bif sL ops j x.2 t then(match x.1.guard with
    |none=>acc.map ((true,t,none)::·)
    |some (g,want)=>match(ops.toList[g]?).bind (·.dst)with
     |some d=>bif sL ops j x.2 d then acc.map ((true,t,some (d,want))::·)else none
     |none=>none)else none
  |_=>bif nK x.1.op then acc else match lenOf x.1.op with
   |some t=>bif sL ops j x.2 t then acc.map ((false,t,none)::·)else none
   |none=>none)
 else none
def Nz(ops:Array Oper)(j:Nat):Option (List iz):=ops.toList.zipIdx.foldr (NA (Region.before ops) ops j) (some [])
def qd(k:Option KV)(b:Nat):Prop:=match k with |some (.v (.pointer (some a)))=>a.block≠b |_=>False
def FX(k:Option KV):Prop:=match k with |some (.v (.map _))=>False |some _=>True |none=>False
def CV(k:Option KV)(want:Bool)(P:Prop):Prop:=match k with
 |some (.v (.bool b))=>(match b==want with |true=>P |false=>True)
 |some .u=>True
 |_=>False
def kf(K:KT)(b:Nat):List iz->Prop
 |[]=>True
 |(true,t,none)::ts=>qd (K.get t) b/\kf K b ts
 |(true,t,some (d,want))::ts=>CV (K.get d) want (qd (K.get t) b)/\kf K b ts
 |(false,t,_)::ts=>FX (K.get t)/\kf K b ts
def Yx(H:Bool)(pt:Option (List iz))(K:KT)(c:Prop)(b:Nat)(P:Prop):Prop:=
 match H with
 |true=>(match pt with |none=>c |some ts=>c\/kf K b ts)/\P
 |false=>P
def Hq(c:Call):Bool:=match c.callee,c.args.toList with |.value (.func g),[_]=>Nat.beq g Dw |_,_=>false
def IH(m:M)(args:aeN):Option Nat:=match args with |[.pointer (some a)]=>zu m a |_=>none
def Yw(H:Bool)(pt:Option (List iz))(K:KT)(c:Prop)(bo:Option Nat)(b:Nat)(P:Prop):Prop:=
 match H with
 |true=>(match pt with |none=>c |some ts=>c\/(bo=some b/\kf K b ts))/\P
 |false=>P
def WV(b:Builtin)(ts:List TypeId)(args:aeN)(H:Bool)(m:M)(lo:Nat)(P:aeM->M->Nat->Prop):Prop:=
 match b with
 |.len |.cap |.min |.max=>W.aP (aw E m b ts args) λv _=>P v m lo
 |_=>W.aP (aw E (m.wl m.n) b ts args) λv m1=>Sb H (m.n<=m1.low) (P v m1 (min lo m1.low))
def Td(E:Env)(t:TypeId)(ok:Bool)(x:aeM):Option aeM:=match x with
 |.nilIface=>bif ok then(match iZ E t with |some z=>some (.tuple #[z,.bool false]) |none=>none)else none
 |.iface H (.agg cs)=>bif ok && (Nat.beq H t && cs.toList.isEmpty)then(match E.ty.get t with
  |some ti=>(match ti.d with |.struct _=>some (.tuple #[.agg #[],.bool true]) |_=>none)
  |none=>none)else none
 |_=>none
def YS(o:Op)(H:Bool)(pt:Option (List iz))(K:KT)(m:M)(lo:Nat)(P:aeM->M->Nat->Prop):Prop:=
 match o with
 |.move x |.assign x=>ai (lQ K x) λx=>P x m lo
 |.pick c a b=>ai (lQ K c) λc=>aR c (ai (lQ K a) λa=>P a m lo) (ai (lQ K b) λb=>P b m lo)
 |.alloc t=>ai (iZ E t) λz=>W.bE (m.push (.cells (cells z) t none)) λm1=>P (ptrTo m.n) m1 lo
 |.box t x=>ai (lQ K x) λx=>W.bE (m.push (.cells (cells x) t none)) λm1=>P (ptrTo m.n) m1 lo
 |.build t ps=>ai (PD K ps.toList) λps=>W.ai (aJ E t ps) λv=>P v m lo
 |.buildSlice t n ps=>ai (PD K ps.toList) λps=>W.aP (aG E m t n ps) λv m1=>P v m1 lo
 |.load t a=>ai (lQ K a) λa=>W.ai (ah E m t a) λv=>P v m lo
 |.store t a x=>ai (lQ K a) λa=>ai (lQ K x) λx=>W.aP (aD E m t a x) λm1 b=>Yx H pt K (m.n<=b) b (P undef m1 (min lo b))
 |.nilCheck x=>ai (lQ K x) λx=>ai (eU x) λv=>P v m lo
 |.binOp op t x y _=>ai (lQ K x) λx=>ai (lQ K y) λy=>W.ai (az E op t x y) λv=>P v m lo
 |.unOp op _ x=>ai (lQ K x) λx=>W.ai (cZ op x) λv=>P v m lo
 |.convert s d x=>ai (lQ K x) λx=>W.ai (Qp E m s d x) λv=>P v m lo
 |.makeFunc f a b=>ai (CD K a.toList) λa=>ai (CD K b.toList) λb=>match f with
  |.func f=>P (.func (.func f) a.toArray b.toArray) m lo
  |_=>False
 |.makeMap _ r=>match r with
  |none=>W.bE (m.push (.map [] 0)) λm1=>P (.map (some m.n)) m1 lo
  |some _=>False
 |.makeSlice t l c=>ai (lQ K l) λl=>ai (lQ K c) λc=>W.aP (fj E m t l c) λv m1=>P v m1 lo
 |.slice t x a b c=>ai (lQ K x) λx=>ai (Yr K a) λa=>ai (Yr K b) λb=>ai (Yr K c) λc=>W.ai (slice? E m t x a b c) λv=>P v m lo
 |.fieldAddr s x f=>ai (lQ K x) λx=>W.ai (af E s x f) λv=>P v m lo
 |.field t x f=>ai (lQ K x) λx=>W.ai (CB E t x f) λv=>P v m lo
 |.indexAddr t x i=>ai (lQ K x) λx=>ai (lQ K i) λi=>W.ai (an E t x i) λv=>P v m lo
 |.index t x i=>ai (lQ K x) λx=>ai (lQ K i) λi=>W.ai (index? E t x i) λv=>P v m lo
 |.lookup t x i ok=>ai (lQ K x) λx=>ai (lQ K i) λi=>W.ai (qA E m t x i ok) λv=>P v m lo
 |.mapUpdate t x k y=>ai (lQ K x) λx=>ai (lQ K k) λk=>ai (lQ K y) λy=>W.aP (lW E m t x k y) λm1 b=>Sb H (m.n<=b) (P undef m1 (min lo b))
 |.insert t x k y=>ai (lQ K x) λx=>ai (lQ K k) λk=>ai (lQ K y) λy=>W.aP (lW E m t x k y) λm1 b=>Sb H (m.n<=b) (P undef m1 (min lo b))
 |.mapEntry t x k=>ai (lQ K x) λx=>ai (lQ K k) λk=>W.aP (gD E (m.wl m.n) t x k) λv m1=>Sb H (m.n<=m1.low) (P v m1 (min lo m1.low))
 |.entryStore _ x s y=>ai (lQ K x) λx=>ai (lQ K s) λs=>ai (lQ K y) λy=>W.ai (dY (m.wl m.n) x s y) λm1=>Sb H (m.n<=m1.low) (P undef m1 (min lo m1.low))
 |.extract x i=>ai (lQ K x) λx=>W.ai (bz x i) λv=>P v m lo
 |.typeAssert x _ t ok=>ai (lQ K x) λx=>W.ai (Td E t ok x) λv=>P v m lo
 |.call c=>match c.callee with
  |.value f=>ai (lQ K f) λf=>ia f λg fi ca=>ai (CD K c.args.toList) λargs=>W.bh g (fi.toList++(args++ca.toList)) m λv m1 b=>bif Hq c then Yw H pt K (m.n<=b) (IH m args) b (P v m1 (min lo b))else Sb H (m.n<=b) (P v m1 (min lo b))
  |.builtin b=>ai (CD K c.args.toList) λargs=>WV E W b c.argTypes.toList args H m lo P
  |_=>False
 |_=>False
def LW(ops:Array Oper)(K:KT)(o:Oper)(P S:KT->Prop):Prop:=
 match o.guard with
 |none=>P K
 |some (j,want)=>match(ops.toList[j]?).bind (·.dst)with
  |some d=>match K.get d with
   |some (.v v)=>aR v (cond want (P (K.set d (.v (.bool true)))) (S (K.set d (.v (.bool true))))) (cond want (S (K.set d (.v (.bool false)))) (P (K.set d (.v (.bool false)))))
   |some .u=>S K
   |none=>False
  |none=>S K
def LX(d:Bool)(ops:Array Oper):List Oper->Nat->St->(St->Prop)->Prop
 |[],_,s,P=>P s
 |o::rest,j,s,P=>LW ops s.K o
   (λK=>YS E W o.op (d && !(eQ ops j)) (bif d && !(eQ ops j)then Nz ops j else none) K s.m s.lo λv m lo=>LX d ops rest (j+1) ⟨QY K o.dst (.v v),m,lo⟩ P)
   (λK=>LX d ops rest (j+1) ⟨QY K o.dst .u,s.m,s.lo⟩ P)
def Ex.IE(id:Nat)(e:Ex):Ex:=match e with |.exit H=>bif Nat.beq H id then .normal else .exit H |e=>e
def assigned:Code->List Nat
 |.region _ ops _=>ops.toList.filterMap (·.dst)
 |.seq a b=>assigned a++assigned b
 |.cond _ x y=>assigned x++assigned y
 |.block _ c |.loop c |.scope c=>assigned c
 |_=> []
def carried(K:KT):List Nat->List Nat->List Nat
 |[],acc=>acc
 |t::ts,acc=>bif acc.contains t then carried K ts acc else match K.get t with
  |some (.v _)=>carried K ts (acc++ [t])
  |_=>carried K ts acc
def forget(K:KT):List Nat->KT
 |[]=>K
 |t::ts=>forget (K.del t) ts
def EP:List Nat->aeN->KT->(KT->Prop)->Prop
 |[],_,K,f=>f K
 |t::ts,H,K,f=>W.un H λv r=>EP ts r (K.set t (.v v)) f
def II:List Nat->aeN->KT->(KT->Prop)->Prop
 |[],H,K,f=>W.IW H (f K)
 |t::ts,H,K,f=>W.un H λv r=>II ts r (K.set t (.v v)) f
def uw(K:KT):List Nat->Option (aeN)
 |[]=>some []
 |t::ts=>match K.get t with
  |some (.v v)=>match uw K ts with
   |some H=>some (v::H)
   |none=>none
  |_=>none
def FE(xs:List Operand):List Nat:=xs.filterMap λ|.tmp t=>some t |_=>none
def reads:Code->List Nat
 |.region _ ops _=>ops.toList.flatMap λo=>FE o.op.operands.toList
 |.seq a b=>reads a++reads b
 |.cond c x y=>FE [c]++(reads x++reads y)
 |.block _ c |.loop c |.scope c=>reads c
 |.rangeFunc f _ a b=>FE [f]++(reads a++reads b)
 |_=> []
def parts:Code->Bool
 |.region _ ops _=>ops.toList.any λo=>o.guard.isSome
 |_=>false
def dedup:List Nat->List Nat->List Nat
 |[],acc=>acc
 |t::ts,acc=>bif acc.contains t then dedup ts acc else dedup ts (acc++ [t])
def Ol(a:Code)(rd:List Nat):List Nat:=(dedup (assigned a) []).filter rd.contains
def WH(e:Ex)(l:List Ex):List Ex:=bif l.any (·==e)then l else l++ [e]
def jI:Code->List Ex->List Ex
 |.exit id,acc=>WH (.exit id) acc
 |.ret,acc=>WH .ret acc
 |.seq a b,acc=>jI b (jI a acc)
 |.cond _ x y,acc=>jI y (jI x acc)
 |.block id c,acc=>(jI c []).foldl (λacc e=>bif e==.exit id then acc else WH e acc) acc
 |.loop c,acc |.scope c,acc=>jI c acc
 |.rangeFunc _ _ _ b,acc=>jI b acc
 |_,acc=>acc
def leaves(c:Code):List Ex:=jI c []
def jjN:Nat:=4294967295
def me(id:Nat):Code->Nat
 |.exit i=>bif Nat.beq i id then 1 else 0
 |.seq a b=>me id a+me id b
 |.cond _ x y=>me id x+me id y
 |.block _ c |.loop c |.scope c=>me id c
 |.rangeFunc _ _ _ b=>me id b
 |_=>0
def nf:Code->Bool
 |.exit _ |.ret |.loop _ |.goto _ |.refuse _=>false
 |.seq a b=>nf a && nf b
 |.cond _ x y=>nf x ||nf y
 |.block id c=>nf c ||Nat.blt 0 (me id c)
 |.scope c=>nf c
 |_=>true
def AI:Code->Bool
 |.seq a b=>nf a && AI b
 |.cond _ x y=>(nf x && nf y) ||((nf x && AI x) ||(nf y && AI y))
 |.block id c=>Nat.blt 1 (me id c+(bif nf c then 1 else 0)) ||(nf c && AI c)
 |.scope c=>AI c
 |_=>false
def QE:Code->Bool
 |.skip |.ret |.exit _ |.label _=>true
 |.seq a b=>QE a && QE b
 |.scope c=>QE c
 |_=>false
def NF(rd:List Nat)(a b:Code):Bool:=parts a ||(rd.contains jjN && (AI a && !QE b))
def Bx:Code->List Nat->St->(Ex->St->Prop)->Prop
 |.skip,_,s,Q=>Q .normal s
 |.label _,_,s,Q=>Q .normal s
 |.region _ ops d,_,s,Q=>LX E W d ops ops.toList 0 s (Q .normal)
 |.seq a b,rd,s,Q=>
  bif NF rd a b then
   W.jn (λR=>Bx a (reads b++rd) s λe H=>e.SU (ai (uw H.K (Ol a (reads b++rd))) λvs=>R vs H.m H.lo) (Q e H))
    (λvs m lo=>EP W (Ol a (reads b++rd)) vs (forget s.K (assigned a)) λK=>Bx b rd ⟨K,m,lo⟩ Q)
  else Bx a (reads b++rd) s λe s=>e.SU (Bx b rd s Q) (Q e s)
 |.cond c x y,rd,s,Q=>ai (lQ s.K c) λv=>aR v (Bx x rd s Q) (Bx y rd s Q)
 |.block id c,rd,s,Q=>Bx c rd s λe s=>Q (e.IE id) s
 |.exit id,_,s,Q=>Q (.exit id) s
 |.ret,_,s,Q=>Q .ret s
 |.loop c,rd,s,Q=>
  ai (uw s.K (carried s.K (assigned c) [])) λvs=>W.Lp (λP vs m lo=>EP W (carried s.K (assigned c) []) vs (forget s.K (assigned c)) λK=>Bx c (carried s.K (assigned c) []++rd) ⟨K,m,lo⟩ λe H=>
   e.SU (ai (uw H.K (carried s.K (assigned c) [])) λvs=>P vs H.m H.lo) (Q e H)) vs s.m s.lo
 |.scope c,rd,s,Q=>Bx c rd s Q
 |.rangeFunc f ps a b,_,s,Q=>ai (lQ s.K f) λf=>ia f λg fi ca=>W.RF g fi.toList ca.toList s.m s.lo
   (λargs m1 Qb=>II W ps.toList args s.K λK1=>Bx a (reads b) ⟨K1,m1,m1.n⟩ λe s1=>e.SU (W.Q8 s.m.n m1 s1.m λm2=>Bx b [] ⟨s1.K,m2,min s1.lo s.m.n⟩ λe2 s2=>Qb m2 e2 s2.m s2.lo) False)
   (λm lo=>Q .normal ⟨s.K,m,lo⟩) ((leaves b).map λe=>(e,λm lo=>Q e ⟨s.K,m,lo⟩))
 |_,_,_,_=>False
end
section
variable {E:Env} {X:aK}
theorem ae{α:Type}{x:α}{P:α->Prop}:ai (some x) P=P x:=rfl
theorem aA{α β:Type}{x:α}{y:β}{P:α->β->Prop}:aP (some (x,y)) P=P x y:=rfl
theorem bA{α:Type}{r:Option α}{P:α->Prop}:ai r P↔∃x,r=some x/\P x:=by
 cases r with
 |none=>exact⟨λh=>h.elim,λ⟨x,h,_⟩=>by cases h⟩
 |some y=>exact⟨λh=>⟨y,rfl,h⟩,λ⟨x,h,H⟩=>by cases h;exact H⟩
theorem lV{α β:Type}{r:Option (α×β)}{P:α->β->Prop}:aP r P↔∃x y,r=some (x,y)/\P x y:=by
 cases r with
 |none=>exact⟨λh=>h.elim,λ⟨x,y,h,_⟩=>by cases h⟩
 |some y=>exact⟨λh=>⟨y.1,y.2,rfl,h⟩,λ⟨x,y,h,H⟩=>by cases h;exact H⟩
theorem RC{b:Bool}{P Q:Prop}:iW b P Q↔(b->P)/\(b=false->Q):=by
 cases b with
 |true=>exact⟨λh=>⟨λ_=>h,λe=>by cases e⟩,λh=>h.1 rfl⟩
 |false=>exact⟨λh=>⟨(λe=>by cases e),λ_=>h⟩,λh=>h.2 rfl⟩
theorem Cy{v:aeM}{P Q:Prop}:aR v P Q↔∃b,v=.bool b/\iW b P Q:=by
 constructor
 ·intro h
  cases v with
  |bool b=>exact⟨b,rfl,h⟩
  |_=>exact h.elim
 rintro⟨b,rfl,h⟩;exact h
theorem DS{v:aeM}{P:Fn->Array aeM->Array aeM->Prop}:ia v P↔∃g H ca,v=.func g H ca/\P g H ca:=by
 constructor
 ·intro h
  cases v with
  |func g H ca=>exact⟨g,H,ca,rfl,h⟩
  |_=>exact h.elim
 rintro⟨g,H,ca,rfl,h⟩;exact h
theorem Ma{vs:aeN}{P:aeM->aeN->Prop}:un vs P↔∃v r,vs=v::r/\P v r:=by
 cases vs with
 |nil=>exact⟨λh=>h.elim,λ⟨v,r,h,_⟩=>by cases h⟩
 |cons v r=>exact⟨λh=>⟨v,r,rfl,h⟩,λ⟨v,r,h,H⟩=>by cases h;exact H⟩
theorem xL{H:Bool}{c P:Prop}:Sb H c P↔(H->c)/\P:=by
 cases H with
 |true=>exact⟨λh=>⟨λ_=>h.1,h.2⟩,λh=>⟨h.1 rfl,h.2⟩⟩
 |false=>exact⟨λh=>⟨(λe=>by cases e),h⟩,λh=>h.2⟩
theorem Kn.put{K:KT}{T:Tr aeM}(h:Kn K T)(d:Option Tmp)(v:KV):Kn (QY K d v) (put T d v.val):=by
 cases d with
 |none=>exact h
 |some d=>
  intro t x H;simp only[D.put,QY,Tr.bX,KT.bX]at H⊢;split
  ·grind
  rename_i e;rw[abd e]at H;exact h t x H
theorem Kn.again{K:KT}{T:Tr aeM}(h:Kn K T){d:Nat}{v:aeM}(hd:K.get d=some (.v v)):Kn (K.set d (.v v)) T:=by
 intro t x H;simp only[KT.bX]at H;split at H;·rename_i e;cases H;rw[e];exact h d _ hd
 exact h t x H
theorem Kn.set{K:KT}{T:Tr aeM}(h:Kn K T){d:Nat}{v:aeM}(hd:T.get d=some v):Kn (K.set d (.v v)) T:=by
 intro t x H;simp only[KT.bX]at H;split at H;·rename_i e;cases H;rw[e];exact hd
 exact h t x H
theorem bD{K:KT}{T:Tr aeM}(h:Kn K T){x:Operand}{v:aeM}(H:lQ K x=some v):ev T x=v:=by
 cases x with
 |tmp t=>
  simp only[lQ]at H;split at H
  ·rename_i k hk;cases H;simp only[ev,iT,h t k hk,acD]
  cases H
 |const c=>cases H;rfl
 |global g=>cases H;rfl
 |func f=>cases H;rfl
theorem lD{K:KT}{T:Tr aeM}(h:Kn K T):∀{xs:List Operand} {vs:aeN},CD K xs=some vs->xs.map (ev T)=vs
 |[],vs,H=>by cases H;rfl
 |x::xs,vs,H=>by
  unfold CD at H
  split at H
  ·rename_i v h1
   split at H
   ·rename_i a0 h2
    cases H
    simp only[acN,bD h h1,lD h h2]
   ·cases H
  ·cases H
theorem rX{K:KT}{T:Tr aeM}(h:Kn K T):∀{xs:List (Nat×Operand)} {vs:List (Nat×aeM)},PD K xs=some vs->xs.map (λp=>(p.1,ev T p.2))=vs
 |[],vs,H=>by cases H;rfl
 |x::xs,vs,H=>by
  unfold PD at H
  split at H
  ·rename_i v h1
   split at H
   ·rename_i a0 h2
    cases H
    simp only[acN,bD h h1,rX h h2]
   ·cases H
  ·cases H
theorem vu{K:KT}{T:Tr aeM}(h:Kn K T){x:Option Operand}{v:Option aeM}(H:Yr K x=some v):x.map (ev T)=v:=by
 cases x with
 |none=>cases H;rfl
 |some x=>
  unfold Yr at H;dsimp only at H;split at H
  ·rename_i w h1;cases H;simp only[abi,bD h h1]
  cases H
def Te(E:Env)(X:aK)(o:Op)(H:Bool)(pt:Option (List iz))(K:KT)(T:Tr aeM)(m:M)(lo:Nat)(P:aeM->M->Nat->Prop):Prop:=
 ∃v m1 w,P v m1 (min lo w)/\m.n<=m1.n/\(H=true->m.n<=w\/∃ts,pt=some ts/\kf K w ts/\fK m T o=some w)/\
  ∃n0,∀n,n0<=n->∀l,l<=m.n->dn o E (cA E X n) T (m.wl l)=some (v,m1.wl (min l w))
theorem Te.push{o:Op}{H:Bool}{pt:Option (List iz)}{K:KT}{T:Tr aeM}{m:M}{lo:Nat}{P:aeM->M->Nat->Prop}{v:aeM}{m1:M}(a0:lo<=m.n)(hP:P v m1 lo)(hn:m.n<=m1.n)(h:∀n l,dn o E (cA E X n) T (m.wl l)=some (v,m1.wl l)):Te E X o H pt K T m lo P:=
 ⟨v,m1,m.n,by grind,hn,λ_=> .inl (aa4 _),0,by grind⟩
theorem Te.aY{o:Op}{br:Bool}{pt:Option (List iz)}{K:KT}{T:Tr aeM}{m:M}{lo:Nat}{P:aeM->M->Nat->Prop}{v:aeM}(H:lo<=m.n)(hP:P v m lo)(h:∀n l,dn o E (cA E X n) T (m.wl l)=some (v,m.wl l)):Te E X o br pt K T m lo P:=
 .push H hP (aa4 _) h
theorem vP{m m1:M}{t:TypeId}{a:Addr}{x:aeM}(h:storeVar E m t a x=some m1)(l:Nat):storeVar E (m.wl l) t a x=some (m1.wl (min l a.block))/\m1.n=m.n:=by
 unfold storeVar at h⊢
 cases H:E.ty.get t with
 |none=>rw[H]at h;cases h
 |some ti=>
  rw[H]at h
  dsimp only at h⊢
  cases hb:Nat.beq (cells x).length ti.size with
  |false=>rw[hb]at h;cases h
  |true=>
   rw[hb]at h
   unfold storeCells at h⊢
   rw[M.cV]
   cases hg:m.get a.block with
   |cells c e g=>
    rw[hg]at h
    dsimp only at h⊢
    cases hc:(a.spot.isNone && Nat.ble (a.off+(cells x).length) c.length && (cells x).all one)with
    |false=>rw[hc]at h;cases h
    |true=>rw[hc]at h;cases h;exact⟨rfl,rfl⟩
   |_=>rw[hg]at h;cases h
theorem jw{m m1:M}{t:TypeId}{r:Nat}{k y:aeM}(h:eM E m t (.map (some r)) k y=some m1)(l:Nat):eM E (m.wl l) t (.map (some r)) k y=some (m1.wl (min l r))/\m1.n=m.n:=by
 unfold eM at h⊢
 cases ht:E.ty.get t with
 |none=>rw[ht]at h;cases h
 |some ti=>
  rw[ht]at h
  dsimp only at h⊢
  rw[M.cV]
  cases H:ti.d with
  |map kt et=>
   cases hg:m.get r with
   |map es clock=>
    rw[H,hg]at h
    dsimp only at h⊢
    cases hk:keyed E kt k with
    |false=>rw[hk]at h;cases h
    |true=>
     rw[hk]at h
     cases hf:findKey E kt k es 0 with
     |none=>rw[hf]at h;cases h
     |some p=>
      rw[hf]at h
      cases p with
      |none=>cases h;exact⟨rfl,rfl⟩
      |some q=>cases h;exact⟨rfl,rfl⟩
   |_=>rw[H,hg]at h;cases h
  |_=>rw[H]at h;cases h
theorem pY{m m1:M}{t:TypeId}{n:Nat}{ps:List (Nat×aeM)}{v:aeM}(h:aG E m t n ps=some (v,m1))(l:Nat):aG E (m.wl l) t n ps=some (v,m1.wl l)/\m.n<=m1.n:=by
 unfold aG at h⊢;split at h;·cases h
 split at h
 ·split at h;·cases h
  ·rename_i H ht _ e hd _ z hz
   cases hb:(Nat.beq (cells z).length H.es && Nat.ble (n*H.es) 1048576)with
   |false=>rw[hb]at h;cases h
   |true=>
    rw[hb]at h
    cases hf:fill (λi=>some (i*H.es,H.es)) (iA (cells z) n) ps with
    |none=>rw[hf]at h;cases h
    |some cs=>rw[hf]at h;cases h;refine⟨?_,acs _⟩;rfl
 cases h
theorem qY{m m1:M}{t:TypeId}{x y v:aeM}(h:fj E m t x y=some (v,m1))(l:Nat):fj E (m.wl l) t x y=some (v,m1.wl l)/\m.n<=m1.n:=by
 unfold fj at h⊢
 cases ht:E.ty.get t with
 |none=>rw[ht]at h;cases h
 |some ti=>
  rw[ht]at h;dsimp only at h⊢;split at h
  ·rename_i e k a k' c hd
   cases he:E.ty.get e with
   |none=>rw[he]at h;cases h
   |some ei=>
    rw[he]at h
    dsimp only at h
    cases H:ei.zero with
    |none=>rw[H]at h;cases h
    |some z=>
     rw[H]at h;dsimp only at h;split at h
     ·rename_i hc;cases h;refine⟨?_,acs _⟩;simp only[hd,he,H];rw[abe hc];rfl
     cases h
  cases h
theorem zZ{m m1:M}{b:Builtin}{ts:List TypeId}{args:aeN}{v:aeM}(hb:b=.len\/b=.cap\/b=.min\/b=.max)(h:aw E m b ts args=some (v,m1))(l:Nat):aw E (m.wl l) b ts args=some (v,m.wl l):=by
 rcases hb with rfl |rfl |rfl |rfl
 ·unfold aw at h⊢;split at h;all_goals try (rename_i hq;first |cases hq |skip)
  all_goals first |(simp only[dN];cases H:oL E m _ _ with |none=>rw[H]at h;cases h |some w=>rw[H]at h;cases h;rfl) |cases h |skip
 ·unfold aw at h⊢;split at h;all_goals try (rename_i hq;first |cases hq |skip)
  ·split at h
   ·split at h
    ·rename_i ti ht _ _ e a n c hd
     cases hs:oY m a with
     |true=>rw[hs]at h;cases h
     |false=>rw[hs]at h;cases h;simp only[ht,hd,cP,hs,abm]
    ·grind
    cases h
   cases h
  cases h
 ·have h:(dw (λx y=>if y < x then y else x) args).map (·,m)=some (v,m1):=h
  show(dw (λx y=>if y < x then y else x) args).map (·,m.wl l)=some (v,m.wl l)
  cases H:dw (λx y=>if y < x then y else x) args with
  |none=>rw[H]at h;cases h
  |some w=>rw[H]at h;cases h;rfl
 ·have h:(dw (λx y=>if y >x then y else x) args).map (·,m)=some (v,m1):=h
  show(dw (λx y=>if y >x then y else x) args).map (·,m.wl l)=some (v,m.wl l)
  cases H:dw (λx y=>if y >x then y else x) args with
  |none=>rw[H]at h;cases h
  |some w=>rw[H]at h;cases h;rfl
noncomputable section
def Gs:aeN->Nat->KT
 |[],_=> .e
 |v::H,i=>(Gs H (i+1)).set i (.v v)
def Nr(E:Env)(K:KT)(m:M):List ResultVar->(aeN->Prop)->Prop
 |[],f=>f []
 |.tmp t::rs,f=>ai (match K.get t with |some k=>some k.val |none=>none) λv=>Nr E K m rs λH=>f (v::H)
 |.cell a t::rs,f=>ai (match K.get a with |some k=>some k.val |none=>none) λa=>ai (ah E m t a) λv=>Nr E K m rs λH=>f (v::H)
def bC:aeN->aeM
 |[v]=>v
 |H=> .tuple H.toArray
def post(E:Env)(rs:List ResultVar)(R:aeN->M->Nat->Prop):Ex->St->Prop:=λe s=>match e with
 |.exit _=>False
 |_=>Nr E s.K s.m rs λH=>R H s.m s.lo
def SL(rs:List ResultVar):List Nat:=rs.map λ|.tmp t=>t |.cell a _=>a
def YK(E:Env)(W:Words)(rd:List Nat)(fn:Func)(args:aeN)(m:M)(R:aeN->M->Nat->Prop):Prop:=
 match fn.body with
 |some body=>Bx E W body rd ⟨Gs args 0,m,m.n⟩ (post E fn.results.toList R)
 |none=>False
def eL(E:Env)(W:Words)(fn:Func)(args:aeN)(m:M)(R:aeN->M->Nat->Prop):Prop:=YK E W (SL fn.results.toList) fn args m R
def dE(E:Env)(W:Words)(fn:Func)(args:aeN)(m:M)(R:aeN->M->Nat->Prop):Prop:=YK E W (jjN::SL fn.results.toList) fn args m R
end
end
end
section
section
variable {E:Env} {X:aK}
theorem PO{H:Bool}{pt:Option (List iz)}{K:KT}{c P:Prop}{b:Nat}:Yx H pt K c b P↔(H->c\/∃ts,pt=some ts/\kf K b ts)/\P:=by
 cases H with
 |true=>
  cases pt with
  |none=>exact⟨λh=>⟨λ_=> .inl h.1,h.2⟩,λh=>⟨(h.1 rfl).elim id (λ⟨_,h,_⟩=>by cases h),h.2⟩⟩
  |some ts=>exact⟨λh=>⟨λ_=>h.1.imp id (λx=>⟨ts,rfl,x⟩),h.2⟩,λh=>⟨(h.1 rfl).imp id (λ⟨_,h,x⟩=>by grind),h.2⟩⟩
 |false=>exact⟨λh=>⟨(λe=>by cases e),h⟩,λh=>h.2⟩
theorem PN{H:Bool}{pt:Option (List iz)}{K:KT}{c P:Prop}{bo:Option Nat}{b:Nat}:Yw H pt K c bo b P↔(H->c\/∃ts,pt=some ts/\kf K b ts/\bo=some b)/\P:=by
 cases H with
 |true=>
  cases pt with
  |none=>exact⟨λh=>⟨λ_=> .inl h.1,h.2⟩,λh=>⟨(h.1 rfl).elim id (λ⟨_,h,_⟩=>by cases h),h.2⟩⟩
  |some ts=>exact⟨λh=>⟨λ_=>h.1.imp id (λx=>⟨ts,rfl,x.2,x.1⟩),h.2⟩,λh=>⟨(h.1 rfl).imp id (λ⟨_,h,x⟩=>by grind),h.2⟩⟩
 |false=>exact⟨λh=>⟨(λe=>by cases e),h⟩,λh=>h.2⟩
theorem Af{c:Call}{K:KT}{T:Tr aeM}{m:M}{args:aeN}{b:Nat}(hk:Kn K T)(hs:Hq c)(H:CD K c.args.toList=some args)(hb:IH m args=some b):fK m T (.call c)=some b:=by
 unfold Hq at hs;split at hs
 ·rename_i g x hc hx;rw[hx]at H;unfold CD at H;split at H
  ·rename_i v hv;cases H;unfold IH at hb;split at hb
   ·rename_i a he
    cases he
    unfold fK
    dsimp only
    rw[hc,hx]
    dsimp only
    rw[bD hk hv]
    show(bif Nat.beq g Dw && true && true then zu m a else none)=some b
    grind
   cases hb
  cases H
 cases hs
def Su(ops:Array Oper)(j i:Nat)(o:Oper)(ts:List iz):Prop:=
 (∃t,o.op=.alloc t)\/(∃t y,o.op=.box t y)\/(∃t s g,o.op=.load t (.tmp s)/\sL ops j i s=true/\((o.guard=none/\g=none)\/∃q want d,o.guard=some (q,want)/\(ops.toList[q]?).bind (·.dst)=some d/\sL ops j i d=true/\g=some (d,want))/\(true,s,g)∈ts)\/
  nK o.op=true\/∃s,lenOf o.op=some s/\sL ops j i s=true/\(false,s,none)∈ts
theorem Su.more{ops:Array Oper}{j i:Nat}{o:Oper}{ts:List iz}{x:iz}(h:Su ops j i o ts):Su ops j i o (x::ts):=by
 rcases h with h |h |⟨t,s,g,h1,H,h3,h4⟩ |h |⟨s,h1,H,h3⟩;·exact .inl h
 ·exact .inr (.inl h)
 ·exact .inr (.inr (.inl ⟨t,s,g,h1,H,h3,abS _ h4⟩))
 ·exact .inr (.inr (.inr (.inl h)))
 exact .inr (.inr (.inr (.inr ⟨s,h1,H,abS _ h3⟩)))
theorem fb{bf:Array Nat}{ops:Array Oper}{j:Nat}:∀(l:List (Oper×Nat)) (ts:List iz),
  l.foldr (NA bf ops j) (some [])=some ts->∀o i,(o,i)∈l->(i==j ||fg o.op ||(bf.getD j 0).testBit i ||(bf.getD i 0).testBit j)\/(Nat.blt i j/\Su ops j i o ts)
 |[],ts,_,o,i,hm=>by cases hm
 |(o',i')::l,ts,h,o,i,hm=>by
  rw[List.foldr_cons]at h
  unfold NA at h
  dsimp only at h
  cases hc:(i'==j ||fg o'.op ||(bf.getD j 0).testBit i' ||(bf.getD i' 0).testBit j)with
  |true=>
   rw[hc]at h
   simp only[cond_true]at h
   rcases abp.1 hm with e |hm
   ·grind
   ·exact fb l ts h o i hm
  |false=>
   rw[hc]at h
   simp only[abm]at h
   cases hb:Nat.blt i' j with
   |false=>rw[hb]at h;cases h
   |true=>
    rw[hb]at h
    simp only[cond_true]at h
    split at h
    ·rename_i t H
     rcases abp.1 hm with e |hm
     ·cases e;exact .inr ⟨hb,.inl ⟨t,H⟩⟩
     ·exact fb l ts h o i hm
    ·rename_i t y H
     rcases abp.1 hm with e |hm
     ·cases e;exact .inr ⟨hb,.inr (.inl ⟨t,y,H⟩)⟩
     ·exact fb l ts h o i hm
    ·rename_i t s H
     cases hs:sL ops j i' s with
     |false=>rw[hs]at h;cases h
     |true=>
      rw[hs]at h
      simp only[cond_true]at h
      cases hg:o'.guard with
      |none=>
       rw[hg]at h
       simp only[abq]at h
       obtain⟨a0,h,rfl⟩:=h
       rcases abp.1 hm with e |hm
       ·cases e;exact .inr ⟨hb,.inr (.inr (.inl ⟨t,s,none,H,hs,.inl ⟨hg,rfl⟩,abN⟩))⟩
       ·exact(fb l a0 h o i hm).imp id (λ⟨q1,q2⟩=>⟨q1,q2.more⟩)
      |some gw=>
       have⟨q,want⟩:=gw
       rw[hg]at h
       dsimp only at h
       cases hd:(ops.toList[q]?).bind (·.dst)with
       |none=>rw[hd]at h;cases h
       |some d=>
        rw[hd]at h
        dsimp only at h
        cases b0:sL ops j i' d with
        |false=>rw[b0]at h;cases h
        |true=>
         rw[b0]at h
         simp only[cond_true,abq]at h
         obtain⟨a0,h,rfl⟩:=h
         rcases abp.1 hm with e |hm
         ·cases e;exact .inr ⟨hb,.inr (.inr (.inl ⟨t,s,some (d,want),H,hs,.inr ⟨q,want,d,hg,hd,b0,rfl⟩,abN⟩))⟩
         ·exact(fb l a0 h o i hm).imp id (λ⟨q1,q2⟩=>⟨q1,q2.more⟩)
    ·cases d0:nK o'.op with
     |true=>
      rw[d0,cond_true]at h
      rcases abp.1 hm with e |hm
      ·cases e;exact .inr ⟨hb,.inr (.inr (.inr (.inl d0)))⟩
      ·exact fb l ts h o i hm
     |false=>
      rw[d0,abm]at h
      split at h
      ·rename_i s H
       cases hs:sL ops j i' s with
       |false=>rw[hs]at h;cases h
       |true=>
        rw[hs]at h
        simp only[cond_true,abq]at h
        obtain⟨a0,h,rfl⟩:=h
        rcases abp.1 hm with e |hm
        ·cases e;exact .inr ⟨hb,.inr (.inr (.inr (.inr ⟨s,H,hs,abN⟩)))⟩
        ·exact(fb l a0 h o i hm).imp id (λ⟨q1,q2⟩=>⟨q1,q2.more⟩)
      ·cases h
theorem sv{K:KT}{b:Nat}:∀{ts:List iz} {c:Bool} {t:Nat} {g:Option (Nat×Bool)},kf K b ts->(c,t,g)∈ts->
  match c,g with |true,none=>qd (K.get t) b |true,some (d,want)=>CV (K.get d) want (qd (K.get t) b) |false,_=>FX (K.get t)
 |(c',t',H)::ts,c,t,g,h,hm=>by
  rcases abp.1 hm with e |hm
  ·cases e
   cases c' with
   |false=>exact h.1
   |true=>
    cases H with
    |none=>exact h.1
    |some p=>have⟨d,want⟩:=p;exact h.1
  ·have h2:kf K b ts:=by
    cases c' with
    |false=>exact h.2
    |true=>
     cases H with
     |none=>exact h.2
     |some p=>have⟨d,want⟩:=p;exact h.2
   exact sv h2 hm
theorem JQ{ops:Array Oper}{j b:Nat}{K:KT}{T:Tr aeM}{ts:List iz}(h:Nz ops j=some ts)(ha:kf K b ts)(hk:Kn K T):nE ops j b T:=by
 refine abw.2 λx hx=>?_;have⟨o,i⟩:=x;dsimp only;rcases fb _ _ h o i hx with h1 |⟨h1,h2⟩;·rw[h1];rfl
 rcases h2 with⟨t,h2⟩ |⟨t,y,h2⟩ |⟨t,s,g,h2,h3,h4,h5⟩ |h2 |⟨s,h2,h3,h5⟩;·rw[h1,h2];simp
 ·rw[h1,h2];simp
 ·have h3:(ops.toList.zipIdx.all λ(q,k)=> !(Nat.ble i k && Nat.blt k j && q.dst==some s)):=h3;have a0:=sv ha h5
  have e0:qd (K.get s) b->∃a:Addr,iT T s=.pointer (some a)/\(a.block==b)=false:=λH=>by
   unfold qd at H;split at H
   ·rename_i a hg;exact⟨a,by simp only[iT,hk s _ hg,acD,KV.val],by simpa using H⟩
   exact H.elim
  rcases h4 with⟨h4,rfl⟩ |⟨q,want,d,h4,h6,h7,rfl⟩
  ·grind
  ·have H:CV (K.get d) want (qd (K.get s) b):=a0
   have h7:(ops.toList.zipIdx.all λ(q,k)=> !(Nat.ble i k && Nat.blt k j && q.dst==some d)):=h7
   have hw:cE ops T o=false\/qd (K.get s) b:=by
    unfold cE;rw[h4];dsimp only;rw[h6];dsimp only;unfold CV at H;split at H
    ·rename_i b' hg
     have e:iT T d=.bool b':=by simp only[iT,hk d _ hg,acD,KV.val]
     rw[e]
     dsimp only
     cases b0:b'==want with
     |false=>exact .inl rfl
     |true=>rw[b0]at H;exact .inr H
    ·rename_i hg;have e:iT T d=undef:=by simp only[iT,hk d _ hg,acD,KV.val]
     rw[e];exact .inl rfl
    exact H.elim
   grind
 ·have:∃c,o.op=.call c:=by
   cases ho:o.op <;>rw[ho]at h2 <;>first |exact⟨_,rfl⟩ |cases h2
  grind
 have:∃c,o.op=.call c:=by cases ho:o.op <;>rw[ho]at h2 <;>first |exact⟨_,rfl⟩ |cases h2
 have⟨c,hc⟩:=this;have h3:(ops.toList.zipIdx.all λ(q,k)=> !(Nat.ble i k && Nat.blt k j && q.dst==some s)):=h3;have H:FX (K.get s):=sv ha h5;rw[h1,hc];rw[hc]at h2;rw[h2];dsimp only;rw[h3]
 have d0:∀r,iT T s≠.map r:=by
  intro r hr
  cases hg:K.get s with
  |none=>rw[hg]at H;exact H.elim
  |some k=>
   have e2:iT T s=k.val:=by simp only[iT,hk s _ hg,acD]
   rw[hg]at H
   cases k with
   |u=>rw[hr]at e2;cases e2
   |v x=>rw[hr]at e2;subst e2;exact H.elim
 cases hq:iT T s <;>first |exact absurd hq (d0 _) |simp
theorem vF{o:Op}{br:Bool}{pt:Option (List iz)}{K:KT}{T:Tr aeM}{m:M}{lo:Nat}{P:aeM->M->Nat->Prop}{v:aeM}{m1:M}{f:M->Option (aeM×M)}
  (H:∀n m,dn o E (cA E X n) T m=f m) (hl:bQ m f) (h1:f (m.wl m.n)=some (v,m1)) (hP:Sb br (m.n<=m1.low) (P v m1 (min lo m1.low))):Te E X o br pt K T m lo P:=by have⟨hc,hP⟩:=xL.1 hP;refine⟨v,m1,m1.low,hP,hl.LD _ h1,λhb=> .inl (hc hb),0,λn _ l a0=>?_⟩;rw[H,hl.eq l a0,h1];rfl
theorem IU{o:Op}{br:Bool}{pt:Option (List iz)}{K:KT}{T:Tr aeM}{m:M}{lo:Nat}{P:aeM->M->Nat->Prop}(h:YS E (aL E X) o br pt K m lo P)(hk:Kn K T)(a0:lo<=m.n):Te E X o br pt K T m lo P:=by
 cases o <;>dsimp only[YS]at h
 case move x=>have⟨x',hx,h⟩:=bA.1 h;exact .aY a0 h λn l=>by simp only[dn,BY,bD hk hx]
 case assign x=>have⟨x',hx,h⟩:=bA.1 h;exact .aY a0 h λn l=>by simp only[dn,BY,bD hk hx]
 case pick c a b=>
  have⟨c',hc,h⟩:=bA.1 h
  obtain⟨q,rfl,h⟩:=Cy.1 h
  cases q with
  |true=>have⟨x',hx,h⟩:=bA.1 h;exact .aY a0 h λn l=>by simp only[dn,rN,bD hk hc,bD hk hx,cond_true]
  |false=>have⟨x',hx,h⟩:=bA.1 h;exact .aY a0 h λn l=>by simp only[dn,rN,bD hk hc,bD hk hx,abm]
 case alloc t=>have⟨z,hz,h⟩:=bA.1 h;exact .push a0 h (acs _) λn l=>by simp only[dn,tz,hz];rfl
 case box t x=>have⟨x',hx,h⟩:=bA.1 h;exact .push a0 h (acs _) λn l=>by simp only[dn,NK,bD hk hx];rfl
 case build t ps=>have⟨h0,hp,h⟩:=bA.1 h;have⟨v,H,h⟩:=bA.1 h;exact .aY a0 h λn l=>by simp only[dn,tx,rX hk hp,H]
 case buildSlice t k ps=>have⟨h0,hp,h⟩:=bA.1 h;have⟨v,m1,H,h⟩:=lV.1 h;exact .push a0 h (pY H 0).2 λn l=>by simp only[dn,nJ,rX hk hp,(pY H l).1]
 case insert t x k y=>
  have⟨x',hx,h⟩:=bA.1 h;have⟨k',b0,h⟩:=bA.1 h;have⟨y',hy,h⟩:=bA.1 h;have⟨m1,b,H,hQ⟩:=lV.1 h;have⟨hc,hP⟩:=xL.1 hQ;unfold lW at H;split at H
  ·rename_i r;split at H
   ·rename_i m2 hu;cases H;refine⟨undef,m1,b,hP,by rw[(jw hu 0).2];exact aa4 _,λhb=> .inl (hc hb),0,λn _ l hl=>?_⟩;simp only[dn,ff,bD hk hx,bD hk b0,bD hk hy,(jw hu l).1]
   cases H
  cases H
 case load t a=>
  have⟨a',ha,h⟩:=bA.1 h;have⟨v,H,hP⟩:=bA.1 h;unfold ah at H;split at H;·exact .aY a0 hP λn l=>by simp only[dn,yD,bD hk ha,yI,H]
  cases H
 case store t a x=>
  have⟨a',ha,h⟩:=bA.1 h;have⟨x',hx,h⟩:=bA.1 h;have⟨m1,b,H,hQ⟩:=lV.1 h;have⟨hc,hP⟩:=PO.1 hQ;unfold aD at H;split at H
  ·rename_i ad _;split at H
   ·rename_i m2 hu;cases H;refine⟨undef,m1,ad.block,hP,by rw[(vP hu 0).2];exact aa4 _,λhb=>(hc hb).imp id (λ⟨ts,h1,h2⟩=>⟨ts,h1,h2,by simp only[fK,bD hk ha]⟩),0,λn _ l hl=>?_⟩;simp only[dn,nH,bD hk ha,bD hk hx,(vP hu l).1]
   cases H
  cases H
 case nilCheck x=>
  have⟨x',hx,h⟩:=bA.1 h;have⟨v,H,h⟩:=bA.1 h;unfold eU at H;split at H;·cases H;exact .aY a0 h λn l=>by simp only[dn,hZ,bD hk hx]
  ·cases H;exact .aY a0 h λn l=>by simp only[dn,hZ,bD hk hx]
  cases H
 case binOp op t x y _=>have⟨x',hx,h⟩:=bA.1 h;have⟨y',hy,h⟩:=bA.1 h;have⟨v,H,h⟩:=bA.1 h;exact .aY a0 h λn l=>by simp only[dn,DP,bD hk hx,bD hk hy,H]
 case unOp op t x=>have⟨x',hx,h⟩:=bA.1 h;have⟨v,H,h⟩:=bA.1 h;exact .aY a0 h λn l=>by simp only[dn,NJ,bD hk hx,H]
 case convert s d x=>have⟨x',hx,h⟩:=bA.1 h;have⟨v,H,h⟩:=bA.1 h;exact .aY a0 h λn l=>by simp only[dn,FQ,bD hk hx,Wc,H]
 case makeFunc f a b=>
  have⟨a',ha,h⟩:=bA.1 h;have⟨b',hb,h⟩:=bA.1 h;split at h;·exact .aY a0 h λn l=>by simp only[dn,jg,lD hk ha,lD hk hb]
  exact h.elim
 case makeMap t r=>
  cases r with
  |none=>exact .push (m1:=m.push (.map [] 0)) a0 h (acs _) λn l=>by simp only[dn,qu];rfl
  |some r=>exact h.elim
 case makeSlice t x y=>have⟨x',hx,h⟩:=bA.1 h;have⟨y',hy,h⟩:=bA.1 h;have⟨v,m1,H,h⟩:=lV.1 h;exact .push a0 h (qY H 0).2 λn l=>by simp only[dn,vY,bD hk hx,bD hk hy,(qY H l).1]
 case slice t x a b c=>have⟨x',hx,h⟩:=bA.1 h;have⟨a',ha,h⟩:=bA.1 h;have⟨b',hb,h⟩:=bA.1 h;have⟨c',hc,h⟩:=bA.1 h;have⟨v,H,h⟩:=bA.1 h;exact .aY a0 h λn l=>by simp only[dn,BX,bD hk hx,vu hk ha,vu hk hb,vu hk hc,JG,H]
 case fieldAddr s x f=>have⟨x',hx,h⟩:=bA.1 h;have⟨v,H,h⟩:=bA.1 h;exact .aY a0 h λn l=>by simp only[dn,jE,bD hk hx,H]
 case field t x f=>have⟨x',hx,h⟩:=bA.1 h;have⟨v,H,h⟩:=bA.1 h;exact .aY a0 h λn l=>by simp only[dn,tw,bD hk hx,H]
 case indexAddr t x i=>have⟨x',hx,h⟩:=bA.1 h;have⟨i',hi,h⟩:=bA.1 h;have⟨v,H,h⟩:=bA.1 h;exact .aY a0 h λn l=>by simp only[dn,jD,bD hk hx,bD hk hi,H]
 case index t x i=>have⟨x',hx,h⟩:=bA.1 h;have⟨i',hi,h⟩:=bA.1 h;have⟨v,H,h⟩:=bA.1 h;exact .aY a0 h λn l=>by simp only[dn,tu,bD hk hx,bD hk hi,H]
 case lookup t x i ok=>have⟨x',hx,h⟩:=bA.1 h;have⟨i',hi,h⟩:=bA.1 h;have⟨v,H,h⟩:=bA.1 h;exact .aY a0 h λn l=>by simp only[dn,yC,bD hk hx,bD hk hi,Gb,H]
 case mapUpdate t x k y=>
  have⟨x',hx,h⟩:=bA.1 h;have⟨k',b0,h⟩:=bA.1 h;have⟨y',hy,h⟩:=bA.1 h;have⟨m1,b,H,hQ⟩:=lV.1 h;have⟨hc,hP⟩:=xL.1 hQ;unfold lW at H;split at H
  ·rename_i r;split at H
   ·rename_i m2 hu;cases H;refine⟨undef,m1,b,hP,by rw[(jw hu 0).2];exact aa4 _,λhb=> .inl (hc hb),0,λn _ l hl=>?_⟩;simp only[dn,ff,bD hk hx,bD hk b0,bD hk hy,(jw hu l).1]
   cases H
  cases H
 case mapEntry t x k=>have⟨x',hx,h⟩:=bA.1 h;have⟨k',b0,h⟩:=bA.1 h;have⟨v,m1,H,h⟩:=lV.1 h;exact vF (f:=λm=>gD E m t x' k') (λn m=>by simp only[dn,rO,bD hk hx,bD hk b0]) zS H h
 case entryStore t x s y=>have⟨x',hx,h⟩:=bA.1 h;have⟨s',i0,h⟩:=bA.1 h;have⟨y',hy,h⟩:=bA.1 h;have⟨m1,H,h⟩:=bA.1 h;refine vF (v:=undef) (m1:=m1) (f:=λm=>(dY m x' s' y').map λm=>(undef,m)) (λn m=>?_) wU (by rw[H];rfl) h;simp only[dn,kn,bD hk hx,bD hk i0,bD hk hy];cases dY m x' s' y' <;>rfl
 case typeAssert x s t ok=>
  have⟨x',hx,h⟩:=bA.1 h;have⟨v,H,hP⟩:=bA.1 h;refine .aY a0 hP λn l=>?_;show pB x t ok E (cA E X n) T (m.wl l)=_;unfold pB;rw[bD hk hx];unfold Td at H;split at H
  ·dsimp only
   cases ok with
   |false=>cases H
   |true=>
    simp only[cond_true]at H⊢
    cases hz:iZ E t with
    |none=>rw[hz]at H;cases H
    |some z=>rw[hz]at H;cases H;rfl
  ·rename_i t' cs
   dsimp only
   cases hc:(ok && (Nat.beq t' t && cs.toList.isEmpty))with
   |false=>rw[hc]at H;cases H
   |true=>
    rw[hc]at H;simp only[cond_true]at H⊢;split at H
    ·rename_i ti j0
     rw[j0]
     dsimp only
     cases hd:ti.d with
     |struct fs=>rw[hd]at H;cases H;rfl
     |_=>rw[hd]at H;cases H
    cases H
  cases H
 case extract x i=>
  have⟨x',hx,h⟩:=bA.1 h;have⟨v,H,hP⟩:=bA.1 h;unfold bz at H;split at H;·exact .aY a0 hP λn l=>by simp only[dn,kJ,bD hk hx,H]
  cases H
 case call c=>
  split at h
  ·rename_i f hf;have⟨f',h1,h⟩:=bA.1 h;obtain⟨g,fi,ca,rfl,h⟩:=DS.1 h;have⟨args,h2,v,m1,b,⟨e0,_,n0,hc⟩,h⟩:=bA.1 h
   have hh:(br->m.n<=b\/∃ts,pt=some ts/\kf K b ts/\fK m T (.call c)=some b)/\P v m1 (min lo b):=by
    cases hs:Hq c with
    |false=>rw[hs,abm]at h;have⟨d0,hP⟩:=xL.1 h;exact⟨λhb=> .inl (d0 hb),hP⟩
    |true=>rw[hs,cond_true]at h;have⟨d0,hP⟩:=PN.1 h;refine⟨λhb=>(d0 hb).imp id λ⟨ts,x1,x2,x3⟩=>⟨ts,x1,x2,?_⟩,hP⟩;have hz:IH m args=some b:=x3;exact Af hk hs h2 hz
   have⟨d0,hP⟩:=hh;refine⟨v,m1,b,hP,e0,d0,n0,λn hn l hl=>?_⟩;simp only[dn,nI,hf,bD hk h1,lD hk h2,hc n hn l hl]
  ·rename_i b hb;have⟨args,h2,h⟩:=bA.1 h;have g0:∀n m,dn (.call c) E (cA E X n) T m=aw E m b c.argTypes.toList args:=λn m=>by simp only[dn,nI,hb,lD hk h2]
   have aY:(b=.len\/b=.cap\/b=.min\/b=.max)->(aP (aw E m b c.argTypes.toList args) λv _=>P v m lo)->Te E X (.call c) br pt K T m lo P:=λk0 h=>by have⟨v,m1,H,h⟩:=lV.1 h;exact .aY a0 h λn l=>by rw[g0];exact zZ k0 H l
   have gen:(aP (aw E (m.wl m.n) b c.argTypes.toList args) λv m1=>Sb br (m.n<=m1.low) (P v m1 (min lo m1.low)))->Te E X (.call c) br pt K T m lo P:=λh=>by have⟨v,m1,H,h⟩:=lV.1 h;exact vF g0 CQ H h
   unfold WV at h;split at h;·exact aY (.inl rfl) h
   ·exact aY (.inr (.inl rfl)) h
   ·exact aY (.inr (.inr (.inl rfl))) h
   ·exact aY (.inr (.inr (.inr rfl))) h
   exact gen h
  exact h.elim
 all_goals exact h.elim
theorem xA{ops:Array Oper}{T:Tr aeM}{o:Oper}{b:Bool}(h:cE ops T o=b){m:M}:cE ops (Fr.T ⟨T,m⟩) o=b:=h
theorem Dm{ops:Array Oper}{K:KT}{T:Tr aeM}{o:Oper}{P S:KT->Prop}(h:LW ops K o P S)(hk:Kn K T):∃K',Kn K' T/\((cE ops T o/\P K')\/(cE ops T o=false/\S K')):=by
 unfold LW at h;unfold cE;split at h
 ·grind
 rename_i j want hg;rw[hg];dsimp only;split at h
 ·rename_i d hd;rw[hd];dsimp only;split at h
  ·rename_i v hv
   obtain⟨b,rfl,h⟩:=Cy.1 h
   have e:iT T d=.bool b:=by simp only[iT,hk d _ hv,acD,KV.val]
   rw[e]
   have H:=hk.again hv
   cases b with
   |true=>
    cases want with
    |true=>exact⟨_,H,.inl ⟨rfl,h⟩⟩
    |false=>exact⟨_,H,.inr ⟨rfl,h⟩⟩
   |false=>
    cases want with
    |true=>exact⟨_,H,.inr ⟨rfl,h⟩⟩
    |false=>exact⟨_,H,.inl ⟨rfl,h⟩⟩
  ·rename_i hv;have e:iT T d=undef:=by simp only[iT,hk d _ hv,acD,KV.val]
   rw[e];exact⟨K,hk,.inr ⟨rfl,h⟩⟩
  ·grind
 ·grind
theorem rA{d:Bool}{ops:Array Oper}:∀(l:List Oper) (j:Nat) (s:St) (P:St->Prop),LX E (aL E X) d ops l j s P->∀T,Kn s.K T->s.lo<=s.m.n->
  ∃s' T',P s'/\Kn s'.K T'/\s.m.n<=s'.m.n/\s'.lo<=s'.m.n/\∃n0,∀n,n0<=n->(bif d then oH E (cA E X n) ops l j ⟨T,s.m.wl s.lo⟩else zR E (cA E X n) ops l ⟨T,s.m.wl s.lo⟩)=some ⟨T',s'.m.wl s'.lo⟩
 |[],j,s,P,h,T,hk,a0=>⟨s,T,h,hk,aa4 _,a0,0,λn _=>by cases d <;>rfl⟩
 |o::rest,j,s,P,h,T,hk,a0=>by
  unfold LX at h
  obtain⟨K1,hk,⟨hw,h⟩ |⟨hw,h⟩⟩:=Dm h hk
  ·have⟨v,m1,w,d0,k0,i0,n1,h0⟩:=IU h hk a0
   obtain⟨s',T',hP,e0,H,b0,n2,hr⟩:=rA rest (j+1) _ P d0 (put T o.dst v) (hk.put _ (.v v)) (by show min s.lo w<=m1.n;omega)
   dsimp only at H hr
   refine⟨s',T',hP,e0,by omega,b0,max n1 n2,λn hn=>?_⟩
   have e2:=hr n (by omega)
   cases d with
   |false=>
    rw[abm]at e2⊢
    rw[mW,xA hw]
    dsimp only[cond_true]
    rw[h0 n (by omega) s.lo a0]
    exact e2
   |true=>
    rw[cond_true]at e2⊢
    rw[lG,xA hw]
    dsimp only[cond_true]
    have j0:dn o.op E (cA E X n) T {s.m.wl s.lo with low:=(s.m.wl s.lo).n}=some (v,m1.wl (min s.m.n w)):=h0 n (by omega) s.m.n (aa4 _)
    rw[j0]
    dsimp only
    have g0:(Nat.ble (s.m.wl s.lo).n (m1.wl (min s.m.n w)).low ||(eQ ops j ||zQ ops j (s.m.wl s.lo) T o.op)):=by
     cases hb:eQ ops j with
     |true=>rw[Bool.true_or,Bool.or_true]
     |false=>
      rcases i0 (by rw[hb];rfl)with this |⟨ts,h1,h2,h3⟩
      ·have:Nat.ble (s.m.wl s.lo).n (m1.wl (min s.m.n w)).low:=abT (by show s.m.n<=min s.m.n w;omega)
       rw[this];rfl
      ·rw[hb]at h1
       have:zQ ops j (s.m.wl s.lo) T o.op:=by
        unfold zQ
        have h3:fK (s.m.wl s.lo) T o.op=some w:=h3
        rw[h3]
        exact JQ h1 h2 hk
       rw[this]
       simp
    rw[g0]
    have e3:m1.wl (min s.lo w)={m1.wl (min s.m.n w)with low:=min (s.m.wl s.lo).low (m1.wl (min s.m.n w)).low}:=by
     show m1.wl (min s.lo w)=m1.wl (min s.lo (min s.m.n w))
     congr 1
     omega
    rw[e3]at e2
    exact e2
  ·obtain⟨s',T',hP,e0,H,b0,n2,hr⟩:=rA rest (j+1) _ P h (put T o.dst undef) (hk.put _ .u) a0
   refine⟨s',T',hP,e0,H,b0,n2,λn hn=>?_⟩
   have e2:=hr n hn
   cases d with
   |false=>
    rw[abm]at e2⊢
    rw[mW,xA hw]
    exact e2
   |true=>
    rw[cond_true]at e2⊢
    rw[lG,xA hw]
    exact e2
theorem V.mono{c:Code}{s:St}{Q R:Ex->St->Prop}(h:V E X c s Q)(hq:∀e s,Q e s->R e s):V E X c s R:=λT hk H=>by
 have⟨e,s',T',h1,h2⟩:=h T hk H
 exact⟨e,s',T',hq _ _ h1,h2⟩
theorem V.seq{a b:Code}{s:St}{Q:Ex->St->Prop}(h:V E X a s λe s=>e.SU (V E X b s Q) (Q e s)):V E X (.seq a b) s Q:=λT hk g0=>by
 have⟨e,s1,T1,h1,a0,d0,H,n1,b0⟩:=h T hk g0
 cases e with
 |normal=>
  have⟨e,s2,T2,h2,h0,j0,e0,n2,i0⟩:=h1 T1 a0 H
  exact⟨e,s2,T2,h2,h0,by omega,e0,max n1 n2,λn hn=>by simp only[bN,b0 n (by omega),i0 n (by omega)]⟩
 |exit id=>exact⟨_,s1,T1,h1,a0,d0,H,n1,λn hn=>by simp only[bN,b0 n hn]⟩
 |ret=>exact⟨_,s1,T1,h1,a0,d0,H,n1,λn hn=>by simp only[bN,b0 n hn]⟩
theorem V.Xb{c:Code}{s:St}{Q:Ex->St->Prop}{γ:Type}(μ:γ->Nat)(A:γ->Tr aeM->M->Nat->Prop)(g0:γ)
  (h0:∀T,Kn s.K T->A g0 T s.m s.lo)
  (b0:∀g T m lo,A g T m lo->lo<=m.n->∃e s' T',(e.SU (∃g',μ g' < μ g/\A g' T' s'.m s'.lo) (Q e s'))/\Kn s'.K T'/\m.n<=s'.m.n/\s'.lo<=s'.m.n/\∃n0,∀n,n0<=n->
   bN E (cA E X n) n c ⟨T,m.wl lo⟩=some (e,⟨T',s'.m.wl s'.lo⟩)):
  V E X (.loop c) s Q:=by
 have key:∀k g,μ g<=k->∀T m lo,A g T m lo->lo<=m.n->∃e s' T',Q e s'/\Kn s'.K T'/\m.n<=s'.m.n/\s'.lo<=s'.m.n/\∃n0,∀n,n0<=n->∀j,k+1<=j->
   jH (bN E (cA E X n) n c) j ⟨T,m.wl lo⟩=some (e,⟨T',s'.m.wl s'.lo⟩):=by
  intro k
  induction k with
  |zero=>
   intro g hg T m lo hA d0
   have⟨e,s1,T1,hQ,e0,a0,H,n1,hr⟩:=b0 g T m lo hA d0
   cases e with
   |normal=>have⟨g',k0,_⟩:=hQ;omega
   |exit id=>exact⟨_,s1,T1,hQ,e0,a0,H,n1,λn hn j hj=>by
    obtain⟨j,rfl⟩:∃j',j=j'+1:=⟨j-1,by omega⟩
    simp only[jH,hr n hn]⟩
   |ret=>exact⟨_,s1,T1,hQ,e0,a0,H,n1,λn hn j hj=>by
    obtain⟨j,rfl⟩:∃j',j=j'+1:=⟨j-1,by omega⟩
    simp only[jH,hr n hn]⟩
  |succ k ih=>
   intro g hg T m lo hA d0
   have⟨e,s1,T1,hQ,e0,a0,H,n1,hr⟩:=b0 g T m lo hA d0
   cases e with
   |normal=>
    have⟨g',k0,l0⟩:=hQ;obtain⟨e,s2,T2,o0,p0,q0,i0,n2,r0⟩:=ih g' (by omega) T1 s1.m s1.lo l0 H;refine⟨e,s2,T2,o0,p0,acb a0 q0,i0,max n1 n2,λn hn j hj=>?_⟩;obtain⟨j,rfl⟩:∃j',j=j'+1:=⟨j-1,by omega⟩
    simp only[jH,hr n (by omega),r0 n (by omega) j (by omega)]
   |exit id=>exact⟨_,s1,T1,hQ,e0,a0,H,n1,λn hn j hj=>by
    obtain⟨j,rfl⟩:∃j',j=j'+1:=⟨j-1,by omega⟩
    simp only[jH,hr n hn]⟩
   |ret=>exact⟨_,s1,T1,hQ,e0,a0,H,n1,λn hn j hj=>by
    obtain⟨j,rfl⟩:∃j',j=j'+1:=⟨j-1,by omega⟩
    simp only[jH,hr n hn]⟩
 intro T hk d0;obtain⟨e,s',T',hQ,s0,hn,j0,n0,hr⟩:=key (μ g0) g0 (aa4 _) T s.m s.lo (h0 T hk) d0;exact⟨e,s',T',hQ,s0,hn,j0,max n0 (μ g0+1),λn hn=>by simp only[bN,hr n (by omega) n (by omega)]⟩
theorem qq(T:Tr aeM)(dst:Option Tmp)(v:aeM)(t:Nat)(h:∀d,dst=some d->d≠t):(put T dst v).get t=T.get t:=by
 cases dst with
 |none=>rfl
 |some d=>simp only[put,Tr.bX];rw[abd (λe=>h d rfl e.symm)]
theorem rM{call:aK}{ops:Array Oper}{t:Nat}:∀(l:List Oper) (fr H:Fr),zR E call ops l fr=some H->(∀o∈l,∀d,o.dst=some d->d≠t)->H.T.get t=fr.T.get t
 |[],fr,H,h,_=>by cases h;rfl
 |o::rest,fr,H,h,hd=>by
  have hr:=λo' a0=>hd o' (abS _ a0)
  have h0:=hd o abN
  rw[mW]at h
  cases hw:cE ops fr.T o with
  |true=>
   rw[hw,cond_true]at h
   split at h
   ·rw[rM rest _ _ h hr];exact qq _ _ _ _ h0
   ·cases h
  |false=>
   rw[hw,abm]at h
   rw[rM rest _ _ h hr];exact qq _ _ _ _ h0
theorem pT{call:aK}{ops:Array Oper}{t:Nat}:∀(l:List Oper) (j:Nat) (fr H:Fr),oH E call ops l j fr=some H->(∀o∈l,∀d,o.dst=some d->d≠t)->H.T.get t=fr.T.get t
 |[],j,fr,H,h,_=>by cases h;rfl
 |o::rest,j,fr,H,h,hd=>by
  have hr:=λo' a0=>hd o' (abS _ a0)
  have h0:=hd o abN
  rw[lG]at h
  cases hw:cE ops fr.T o with
  |true=>
   rw[hw,cond_true]at h
   split at h
   ·rename_i v m _
    cases hb:(Nat.ble fr.m.n m.low ||(eQ ops j ||zQ ops j fr.m fr.T o.op))with
    |true=>
     rw[hb,cond_true]at h
     rw[pT rest _ _ _ h hr];exact qq _ _ _ _ h0
    |false=>rw[hb,abm]at h;cases h
   ·cases h
  |false=>
   rw[hw,abm]at h
   rw[pT rest _ _ _ h hr];exact qq _ _ _ _ h0
theorem we{body:Fr->Option (Ex×Fr)}{t:Nat}(hb:∀fr e H,body fr=some (e,H)->H.T.get t=fr.T.get t):∀(n:Nat) (fr:Fr) (e:Ex) (H:Fr),jH body n fr=some (e,H)->H.T.get t=fr.T.get t
 |0,_,_,_,h=>by cases h
 |n+1,fr,e,H,h=>by
  unfold jH at h
  split at h
  ·rename_i a0 h1
   rw[we hb n _ _ _ h,hb _ _ _ h1]
  ·grind
theorem dJ{call:aK}{n t:Nat}:∀(c:Code) (fr:Fr) (e:Ex) (H:Fr),bN E call n c fr=some (e,H)->t∉assigned c->H.T.get t=fr.T.get t
 |.skip,fr,e,H,h,_=>by cases h;rfl
 |.label _,fr,e,H,h,_=>by cases h;rfl
 |.exit id,fr,e,H,h,_=>by cases h;rfl
 |.ret,fr,e,H,h,_=>by cases h;rfl
 |.goto _,fr,e,H,h,_=>by cases h
 |.refuse _,fr,e,H,h,_=>by cases h
 |.scope c,fr,e,H,h,ht=>by
  simp only[bN]at h
  exact dJ c _ _ _ h ht
 |.region id ops d,fr,e,H,h,ht=>by
  have hd:∀o∈ops.toList,∀d,o.dst=some d->d≠t:=λo ho d hd he=>ht (adx.2 ⟨o,ho,by rw[hd,he]⟩)
  cases d with
  |true=>
   simp only[bN,cond_true]at h
   cases hq:oH E call ops ops.toList 0 fr with
   |none=>rw[hq]at h;cases h
   |some a0=>rw[hq]at h;cases h;exact pT _ _ _ _ hq hd
  |false=>
   simp only[bN,abm]at h
   cases hq:zR E call ops ops.toList fr with
   |none=>rw[hq]at h;cases h
   |some a0=>rw[hq]at h;cases h;exact rM _ _ _ hq hd
 |.seq a b,fr,e,H,h,ht=>by
  simp only[assigned,abC,not_or]at ht
  simp only[bN]at h
  split at h
  ·rename_i a0 h1
   rw[dJ b _ _ _ h ht.2,dJ a _ _ _ h1 ht.1]
  ·exact dJ a _ _ _ h ht.1
 |.cond c x y,fr,e,H,h,ht=>by
  simp only[assigned,abC,not_or]at ht
  simp only[bN]at h
  split at h
  ·rename_i b _
   cases b with
   |true=>exact dJ x _ _ _ h ht.1
   |false=>exact dJ y _ _ _ h ht.2
  ·cases h
 |.block id c,fr,e,H,h,ht=>by
  simp only[bN]at h
  split at h
  ·rename_i b0 a0 h1
   have:=dJ c _ _ _ h1 ht
   cases hb:Nat.beq b0 id with
   |true=>rw[hb]at h;cases h;exact this
   |false=>rw[hb]at h;cases h;exact this
  ·exact dJ c _ _ _ h ht
 |.loop c,fr,e,H,h,ht=>by
  simp only[bN]at h
  exact we (λfr e H h=>dJ c fr e H h ht) _ _ _ _ h
 |.rangeFunc g ps a b,fr,e,H,h,ht=>by
  simp only[bN]at h
  grind
theorem lz:∀(ts:List Nat) (K:KT) {t:Nat} {k:KV},(forget K ts).get t=some k->t∉ts/\K.get t=some k
 |[],K,t,k,h=>⟨by simp,h⟩
 |a::ts,K,t,k,h=>by
  have⟨h1,H⟩:=lz ts (K.del a) h
  rw[KT.RM]at H
  grind
end
end
section
section
variable {E:Env} {X:aK}
def TV(T:Tr aeM):List Nat->aeN->Prop
 |[],_=>True
 |t::ts,H=>match H with
  |v::r=>T.get t=some v/\TV T ts r
  |[]=>False
theorem su{T:Tr aeM}:∀(ts:List Nat) (vs:aeN) (K:KT) (f:KT->Prop),Kn K T->TV T ts vs->EP (aL E X) ts vs K f->∃H,Kn H T/\f H
 |[],_,K,f,hk,_,h=>⟨K,hk,h⟩
 |t::ts,vs,K,f,hk,hv,h=>by
  unfold EP at h
  obtain⟨v,r,rfl,h⟩:=Ma.1 h
  exact su ts r _ f (hk.set hv.1) hv.2 h
theorem qj{K:KT}{T:Tr aeM}(hk:Kn K T):∀(ts:List Nat) (vs:aeN),uw K ts=some vs->TV T ts vs
 |[],_,_=>trivial
 |t::ts,vs,h=>by
  unfold uw at h
  split at h
  ·rename_i v hv
   split at h
   ·rename_i H a0
    cases h
    exact⟨hk _ _ hv,qj hk ts H a0⟩
   ·cases h
  ·cases h
theorem Av{T:Tr aeM}:∀(ps:List Tmp) (args:aeN) (K:KT) (f:KT->Prop) (T:Tr aeM),Kn K T->II (aL E X) ps args K f->args.length=ps.length/\∃H,Kn H (uK T (ps.zip args))/\f H
 |[],args,K,f,T,hk,h=>by
  cases args with
  |nil=>exact⟨rfl,K,hk,h⟩
  |cons v r=>exact(h:False).elim
 |p::ps,args,K,f,T,hk,h=>by
  obtain⟨v,r,rfl,h⟩:=Ma.1 h
  obtain⟨h1,h2⟩:=Av (T:=T) ps r _ f (T.set p v) (hk.put (some p) (.v v)) h
  exact⟨by simp[h1],h2⟩
theorem V.rangeFunc{gv:Operand}{ps:Array Tmp}{a b:Code}{s:St}{Q:Ex->St->Prop}{A0 B0:List Nat}{gf:Fn}{fi ca:Array aeM}(ha:∀s Q,Bx E (aL E X) a A0 s Q->V E X a s Q)(hb:∀s Q,Bx E (aL E X) b B0 s Q->V E X b s Q)
  (hf:lQ s.K gv=some (.func gf fi ca))
  (h:RF E X gf fi.toList ca.toList s.m s.lo (λargs m1 Qb=>II (aL E X) ps.toList args s.K λK1=>Bx E (aL E X) a A0 ⟨K1,m1,m1.n⟩ λe s1=>e.SU (Q8 s.m.n m1 s1.m λm2=>Bx E (aL E X) b B0 ⟨s1.K,m2,min s1.lo s.m.n⟩ λe2 s2=>Qb m2 e2 s2.m s2.lo) False) (λm lo=>Q .normal ⟨s.K,m,lo⟩) ((leaves b).map λe=>(e,λm lo=>Q e ⟨s.K,m,lo⟩))):V E X (.rangeFunc gv ps a b) s Q:=λT hk g1=>by
 obtain⟨fr,xs,Dt,I,J,B,⟨fk,rfl⟩,hG,hB,hD,hI,hJ,h0,p0,q0,r0⟩:=h
 have hy:(s.m.push (.loop ⟨T,ps,a,b,.ready,none,E.G⟩)).get s.m.n=.loop ⟨T,ps,a,b,.ready,none,E.G⟩:=by rw[M.iL,abe rfl]
 have s0:Ky s.m.n s.m (s.m.push (.loop ⟨T,ps,a,b,.ready,none,E.G⟩)):=⟨acs _,λc hc _=>by rw[M.iL,abd (by omega)]⟩
 have H:∀(m:M) (r:zI),s.m.n < m.n->Ky s.m.n m (m.set s.m.n (.loop r)):=λm r hm=>⟨aa4 _,λc _ u0=>by rw[M.bX _ _ _ _ hm,abd u0]⟩
 have⟨vG,mG,bG,H0,i1,C0⟩:=hG s.m.n (s.m.n+1) B (λi m=>I i m/\m.get s.m.n=.loop ⟨T,ps,a,b,.ready,none,E.G⟩) (λm=>∃e:Ex,e≠Ex.normal/\J e m/\m.get s.m.n=.loop ⟨T,ps,a,b,.done,some e,E.G⟩) (s.m.push (.loop ⟨T,ps,a,b,.ready,none,E.G⟩)) (λi m1 h=>hD i m1 h.1) (λi m1 m2 h he=>⟨hI i m1 m2 h.1 ⟨he.n,λc hc _=>he.get c hc⟩,by rw[he.get _ (M.ll (by rw[h.2];simp)),h.2]⟩)
  (λm1 m2 ⟨e,h1,h2,h3⟩ he=>⟨e,h1,hJ e m1 m2 h2 ⟨he.n,λc hc _=>he.get c hc⟩,by rw[he.get _ (M.ll (by rw[h3];simp)),h3]⟩)
  (aee _) (aa4 _) (by omega)
  (λi args mm I0 hx ⟨hi,l0⟩=>by
   obtain⟨hlen,K1,J0,hv⟩:=Av (T:=T) _ _ _ _ T hk (p0 i args mm I0 hx hi)
   obtain⟨e1,s1,T1,v0,D0,E0,b1,n1,K0⟩:=ha _ _ hv _ J0 (aa4 _)
   cases e1 with
   |exit id=>exact v0.elim
   |ret=>exact v0.elim
   |normal=>
    have⟨e0,hP⟩:=v0
    have i0:s1.m.get s.m.n=.loop ⟨T,ps,a,b,.ready,none,E.G⟩:=by rw[e0 _ (aa4 _) (by omega),l0]
    have g0:s.m.n < s1.m.n:=M.ll (by rw[i0];simp)
    have L0:=hP (s1.m.set s.m.n (.loop ⟨T,ps,a,b,.busy,none,E.G⟩)) rfl (λc hc=>by rw[M.bX _ _ _ _ g0,abd hc])
    obtain⟨e2,s2,T2,⟨j1,o0,y0⟩,c1,F0,d1,n2,N0⟩:=hb _ _ L0 T1 D0 (by show min s1.lo s.m.n<=s1.m.n;omega)
    have j0:s2.m.get s.m.n=.loop ⟨T,ps,a,b,.busy,none,E.G⟩:=by rw[o0 _ (aa4 _) (by omega) (.inl rfl),M.bX _ _ _ _ g0,abe rfl]
    have a0:s.m.n < s2.m.n:=M.ll (by rw[j0];simp)
    have F0:s1.m.n<=s2.m.n:=F0
    have E0:mm.n<=s1.m.n:=E0
    have b0:∀(st:LoopState) (pe:Option Ex) (v:aeM),(match e2 with
       |.normal=>(v,st,pe)=(aeR,.ready,none)
       |e=>(v,st,pe)=(aeS,.done,some e))->
      Cl E X (.yield s.m.n) args mm (min s2.lo s.m.n) v (s2.m.set s.m.n (.loop ⟨T,ps,a,b,st,pe,E.G⟩)):=by
     intro st pe v hv
     refine⟨by show mm.n<=s2.m.n;omega,by omega,max n1 n2+1,λn hn l hl=>?_⟩
     obtain⟨k,rfl⟩:∃k,n=k+1:=⟨n-1,by omega⟩
     have e1:=K0 k (by omega)
     have z0:=N0 k (by omega)
     have G0:(Nat.beq args.length ps.size && Nat.beq E.G E.G):=by
      have:args.length=ps.size:=by simpa using hlen
      rw[this,acq,acq];rfl
     simp only[cA,uM]
     rw[M.cV,l0]
     dsimp only
     rw[G0]
     simp only[cond_true]
     have e1:bN E (cA E X k) k a {T:=uK T (ps.toList.zip args),m:={mm.wl l with low:=(mm.wl l).n}}=some (.normal,⟨T1,s1.m.wl s1.lo⟩):=e1
     rw[e1]
     dsimp only
     rw[M.cV,i0]
     dsimp only
     have z0:bN E (cA E X k) k b {T:=T1,m:=(s1.m.wl s1.lo).set s.m.n (.loop ⟨T,ps,a,b,.busy,none,E.G⟩)}=some (e2,⟨T2,s2.m.wl s2.lo⟩):=z0
     rw[z0]
     dsimp only
     rw[M.cV,j0]
     dsimp only
     cases e2 with
     |normal=>cases hv;rfl
     |exit id=>cases hv;rfl
     |ret=>cases hv;rfl
    have d0:∀(r:zI) c,s.m.n+1<=c->c < mm.n->fr (mm.get c)->(s2.m.set s.m.n (.loop r)).get c=mm.get c:=λr c h1 h2 h3=>by
     rw[M.bX _ _ _ _ a0,abd (by omega),o0 c (by omega) h2 (.inr (by rw[M.bX _ _ _ _ g0,abd (by omega),e0 c (by omega) h2];exact h3)),M.bX _ _ _ _ g0,abd (by omega),e0 c (by omega) h2]
    cases e2 with
    |normal=>
     refine⟨aeR,_,_,b0 .ready none _ rfl,by omega,aeg _ _,d0 _,.inl ⟨rfl,hI _ _ _ y0 (H _ _ a0),?_⟩⟩
     rw[M.bX _ _ _ _ a0,abe rfl]
    |exit id=>
     refine⟨aeS,_,_,b0 .done (some (.exit id)) _ rfl,by omega,aeg _ _,d0 _,.inr ⟨rfl,.exit id,by simp,hJ _ _ _ y0 (H _ _ a0),?_⟩⟩
     rw[M.bX _ _ _ _ a0,abe rfl]
    |ret=>
     refine⟨aeS,_,_,b0 .done (some .ret) _ rfl,by omega,aeg _ _,d0 _,.inr ⟨rfl,.ret,by simp,hJ _ _ _ y0 (H _ _ a0),?_⟩⟩
     rw[M.bX _ _ _ _ a0,abe rfl])
  ⟨hI 0 _ _ h0 s0,hy⟩
 have⟨k0,_,n0,cY⟩:=H0
 have k0:s.m.n+1<=mG.n:=k0
 have hex:∀(r:zI),mG.get s.m.n=.loop r->r.st≠.busy->∀n,n0<=n->bN E (cA E X n) n (.rangeFunc gv ps a b) ⟨T,s.m.wl s.lo⟩=
   some (r.sY.getD .normal,⟨T,(mG.set s.m.n (.loop {r with st:=.exhausted})).wl (min (min s.lo bG) s.m.n)⟩):=by
  intro r hr O0 n hn
  have hc:cA E X n (.func fk) (fi.toList++(.func (.yield (s.m.wl s.lo).n) #[] #[]::ca.toList)) ((s.m.wl s.lo).push (.loop ⟨T,ps,a,b,.ready,none,E.G⟩))=some (vG,mG.wl (min s.lo bG)):=cY n hn s.lo (by show s.lo<=s.m.n+1;omega)
  simp only[bN]
  rw[bD hk hf]
  dsimp only
  rw[hc]
  dsimp only
  have Q0:(mG.wl (min s.lo bG)).get (s.m.wl s.lo).n=.loop r:=hr
  rw[Q0]
  dsimp only
  cases hs:r.st with
  |busy=>exact absurd hs O0
  |ready=>rfl
  |done=>rfl
  |exhausted=>rfl
 rcases C0 with⟨hi,hr⟩ |⟨e,u0,hj,hr⟩
 ·refine⟨.normal,⟨s.K,mG.set s.m.n (.loop ⟨T,ps,a,b,.exhausted,none,E.G⟩),min (min s.lo bG) s.m.n⟩,T,q0 _ _ (hI _ _ _ hi (H _ _ k0)) (by omega),hk,by show s.m.n<=mG.n;omega,by show min (min s.lo bG) s.m.n<=mG.n;omega,n0,hex _ hr (by simp)⟩
 ·have a1:Q e ⟨s.K,mG.set s.m.n (.loop ⟨T,ps,a,b,.exhausted,some e,E.G⟩),min (min s.lo bG) s.m.n⟩:=by
   obtain⟨p,hp,he,hq⟩:=r0 _ _ (min (min s.lo bG) s.m.n) u0 (hJ _ _ _ hj (H _ ⟨T,ps,a,b,.exhausted,some e,E.G⟩ k0)) (by omega)
   obtain⟨e',_,rfl⟩:=abQ.1 hp
   cases he
   exact hq
  refine⟨e,⟨s.K,mG.set s.m.n (.loop ⟨T,ps,a,b,.exhausted,some e,E.G⟩),min (min s.lo bG) s.m.n⟩,T,a1,hk,by show s.m.n<=mG.n;omega,by show min (min s.lo bG) s.m.n<=mG.n;omega,n0,hex _ hr (by simp)⟩
theorem eE:∀(c:Code) (rd:List Nat) (s:St) (Q:Ex->St->Prop),Bx E (aL E X) c rd s Q->V E X c s Q
 |.skip,_,s,Q,h=>λT hk H=>⟨_,s,T,h,hk,aa4 _,H,0,λn _=>rfl⟩
 |.label _,_,s,Q,h=>λT hk H=>⟨_,s,T,h,hk,aa4 _,H,0,λn _=>rfl⟩
 |.exit id,_,s,Q,h=>λT hk H=>⟨_,s,T,h,hk,aa4 _,H,0,λn _=>rfl⟩
 |.ret,_,s,Q,h=>λT hk H=>⟨_,s,T,h,hk,aa4 _,H,0,λn _=>rfl⟩
 |.region id ops d,_,s,Q,h=>λT hk H=>by
  obtain⟨s',T',hP,b0,hn,a0,n0,hr⟩:=rA ops.toList 0 s _ h T hk H
  exact⟨_,s',T',hP,b0,hn,a0,n0,λn hn=>by simp only[bN,hr n hn,abi]⟩
 |.seq a b,rd,s,Q,h=>by
  unfold Bx at h
  cases hp:NF rd a b with
  |false=>
   rw[hp,abm]at h
   exact V.seq ((eE a _ s _ h).mono λe s' hq=>by
    cases e with
    |normal=>exact eE b rd s' Q hq
    |exit id=>exact hq
    |ret=>exact hq)
  |true=>
   rw[hp,cond_true]at h
   have ha:=eE a _ s _ h
   intro T hk H
   have⟨e,s1,T1,h1,j0,k0,d0,n1,e0⟩:=ha T hk H
   cases e with
   |normal=>
    have⟨vs,q0,h1⟩:=bA.1 h1
    have h0:Kn (forget s.K (assigned a)) T1:=by
     intro t k ht
     have:=dJ a _ _ _ (e0 n1 (aa4 _)) (lz _ _ ht).1
     dsimp only at this
     rw[this]
     exact hk t k (lz _ _ ht).2
    obtain⟨K',b0,l0⟩:=su _ _ _ _ h0 (qj j0 _ _ q0) h1
    obtain⟨e,s2,T2,h2,i0,r0,o0,n2,s0⟩:=eE b rd _ Q l0 T1 b0 d0
    exact⟨e,s2,T2,h2,i0,acb k0 r0,o0,max n1 n2,λn hn=>by simp only[bN,e0 n (by omega),s0 n (by omega)]⟩
   |exit id=>exact⟨_,s1,T1,h1,j0,k0,d0,n1,λn hn=>by simp only[bN,e0 n hn]⟩
   |ret=>exact⟨_,s1,T1,h1,j0,k0,d0,n1,λn hn=>by simp only[bN,e0 n hn]⟩
 |.cond c x y,rd,s,Q,h=>λT hk H=>by
  have⟨_,hb,h⟩:=bA.1 h
  obtain⟨b,rfl,h⟩:=Cy.1 h
  cases b with
  |true=>
   have⟨e,s',T',hP,b0,hn,a0,n0,hr⟩:=eE x rd s Q h T hk H
   exact⟨e,s',T',hP,b0,hn,a0,n0,λn hn=>by simp only[bN,bD hk hb,hr n hn,cond_true]⟩
  |false=>
   have⟨e,s',T',hP,b0,hn,a0,n0,hr⟩:=eE y rd s Q h T hk H
   exact⟨e,s',T',hP,b0,hn,a0,n0,λn hn=>by simp only[bN,bD hk hb,hr n hn,abm]⟩
 |.block id c,rd,s,Q,h=>λT hk H=>by
  obtain⟨e,s',T',hP,b0,hn,a0,n0,hr⟩:=eE c rd s _ h T hk H
  refine⟨_,s',T',hP,b0,hn,a0,n0,λn hn=>?_⟩
  have e1:=hr n hn
  cases e with
  |normal=>simp only[bN,e1,Ex.IE]
  |ret=>simp only[bN,e1,Ex.IE]
  |exit u0=>simp only[bN,e1,Ex.IE];cases Nat.beq u0 id <;>rfl
 |.loop c,rd,s,Q,h=>by
  unfold Bx at h
  have⟨v0,y0,γ,μ,I,⟨g0,z0⟩,hI⟩:=bA.1 h
  refine V.Xb μ (λg T m lo=>∃vs,I g vs m lo/\TV T (carried s.K (assigned c) []) vs/\Kn (forget s.K (assigned c)) T) g0 (λT hk=>⟨v0,z0,qj hk _ _ y0,λt k ht=>hk t k (lz _ _ ht).2⟩) ?_
  rintro g T m lo ⟨vs,A0,B0,h0⟩ H
  obtain⟨K',b0,l0⟩:=su _ _ _ _ h0 B0 (hI g vs m lo A0)
  obtain⟨e,s',T',hQ,i0,hn,a0,n0,hr⟩:=eE c _ _ _ l0 T b0 H
  refine⟨e,s',T',?_,i0,hn,a0,n0,hr⟩
  cases e with
  |normal=>
   have⟨C0,p0,g',D0,E0⟩:=bA.1 hQ
   refine⟨g',D0,C0,E0,qj i0 _ _ p0,?_⟩
   intro t k ht
   have:=dJ c _ _ _ (hr n0 (aa4 _)) (lz _ _ ht).1
   dsimp only at this
   rw[this]
   exact h0 t k ht
  |exit id=>exact hQ
  |ret=>exact hQ
 |.scope c,rd,s,Q,h=>λT hk H=>by
  have⟨e,s',T',hP,b0,hn,a0,n0,hr⟩:=eE c rd s Q h T hk H
  exact⟨e,s',T',hP,b0,hn,a0,n0,λn hn=>by simp only[bN,hr n hn]⟩
 |.rangeFunc f ps a b,_,s,Q,h=>by
  have⟨_,hf,h⟩:=bA.1 h
  obtain⟨gf,fi,ca,rfl,h⟩:=DS.1 h
  exact V.rangeFunc (λs Q h=>eE a _ s Q h) (λs Q h=>eE b _ s Q h) hf h
 |.goto l,_,s,Q,h=>h.elim
 |.refuse y,_,s,Q,h=>h.elim
theorem Bf:∀(vs:aeN) (i:Nat),Kn (Gs vs i) (enter vs i)
 |[],_=>λ_ _ h=>by cases h
 |v::vs,i=>by
  have:=(Bf vs (i+1)).put (some i) (.v v)
  exact this
theorem rJ{K:KT}{T:Tr aeM}(h:Kn K T){m:M}:∀{rs:List ResultVar} {f:aeN->Prop},Nr E K m rs f->∃vs,f vs/\∀l,fW E T (m.wl l) rs=some vs
 |[],f,H=>⟨[],H,λ_=>rfl⟩
 |.tmp t::rs,f,H=>by
  have⟨v,hv,H⟩:=bA.1 H
  have⟨vs,hf,a0⟩:=rJ h H
  refine⟨_,hf,λl=>?_⟩
  split at hv
  ·rename_i k hk
   cases hv
   simp only[fW,kH,iT,h t k hk,acD,a0]
  ·cases hv
 |.cell a t::rs,f,H=>by
  have⟨p,hp,H⟩:=bA.1 H
  have⟨v,hv,H⟩:=bA.1 H
  have⟨vs,hf,a0⟩:=rJ h H
  refine⟨_,hf,λl=>?_⟩
  split at hp
  ·rename_i k hk
   cases hp
   unfold ah at hv
   split at hv
   ·rename_i p' a' b0
    have e:iT T a=.pointer (some a'):=by simp only[iT,h a _ hk,acD,b0]
    simp only[fW,kH,e,yI,hv,a0]
   ·cases hv
  ·cases hp
theorem FC{T:Tr aeM}{m:M}{fn:Func}{vs:aeN}(h:fW E T m fn.results.toList=some vs):result? E fn T m=some (bC vs):=by
 unfold result?
 rw[h]
 match vs with
 |[]=>rfl
 |[v]=>rfl
 |_::_::_=>rfl
def Qq(X:aK)(f:Nat):Prop:=∀args m,X (.func f) args m=none
theorem Cl.PX{f:Nat}{fn:Func}{args:aeN}{m:M}{rd:List Nat}{R:aeN->M->Nat->Prop}(hX:Qq X f)(hf:E.fn.get f=some fn)(hl:Nat.ble args.length fn.ntmps)
  (h:YK E (aL E X) rd fn args m R):
  ∃vs m' lo,R vs m' lo/\m.n<=m'.n/\∃n0,∀n,n0<=n->∀l,l<=m.n->
   cA E X n (.func f) args (m.wl l)=some (bif bB (bC vs) && Nat.ble m.n lo then(bC vs,m.wl l)else(bC vs,m'.wl (min l lo))):=by
 unfold YK at h;split at h
 ·rename_i body hb
  obtain⟨e,H,T',a0,i0,hn,k0,n0,hr⟩:=eE _ _ _ _ h (enter args 0) (Bf _ _) (aa4 _)
  have d0:(∀id,e≠.exit id)/\Nr E H.K H.m fn.results.toList λvs=>R vs H.m H.lo:=by
   cases e with
   |exit id=>exact a0.elim
   |normal=>exact⟨λ_ h=>(by cases h),a0⟩
   |ret=>exact⟨λ_ h=>(by cases h),a0⟩
  have⟨j0,b0⟩:=d0
  have⟨vs,hR,b0⟩:=rJ i0 b0
  refine⟨vs,H.m,H.lo,hR,hn,n0+1,λn l0 l o0=>?_⟩
  obtain⟨n,rfl⟩:∃k,n=k+1:=⟨n-1,by omega⟩
  have e0:bN E (cA E X n) n body {T:=enter args 0,m:={m.wl l with low:=(m.wl l).n}}=some (e,⟨T',H.m.wl H.lo⟩):=hr n (by omega)
  have g0:=FC (fn:=fn) (b0 H.lo)
  have h0:X (.func f) args (m.wl l)=none:=hX _ _
  have fin:(bif bB (bC vs) && Nat.ble (m.wl l).n (H.m.wl H.lo).low then some (bC vs,m.wl l)else some (bC vs,{H.m.wl H.lo with low:=min (m.wl l).low (H.m.wl H.lo).low}))=
    some (bif bB (bC vs) && Nat.ble m.n H.lo then(bC vs,m.wl l)else(bC vs,H.m.wl (min l H.lo))):=by
   cases hc:(bB (bC vs) && Nat.ble m.n H.lo)with
   |true=>have:(bB (bC vs) && Nat.ble (m.wl l).n (H.m.wl H.lo).low):=hc;rw[this];rfl
   |false=>have:(bB (bC vs) && Nat.ble (m.wl l).n (H.m.wl H.lo).low)=false:=hc;rw[this];rfl
  cases e with
  |exit id=>exact(j0 id rfl).elim
  |normal=>simp only[cA,h0,hf,hb,hl,cond_true,e0,g0];exact fin
  |ret=>simp only[cA,h0,hf,hb,hl,cond_true,e0,g0];exact fin
 exact h.elim
theorem Cl.body{f:Nat}{fn:Func}{args:aeN}{m:M}{R:aeN->M->Nat->Prop}(H:Qq X f)(hf:E.fn.get f=some fn)(hl:Nat.ble args.length fn.ntmps)
  (h:eL E (aL E X) fn args m R):
  ∃vs m' lo,R vs m' lo/\m.n<=m'.n/\∃n0,∀n,n0<=n->∀l,l<=m.n->
   cA E X n (.func f) args (m.wl l)=some (bif bB (bC vs) && Nat.ble m.n lo then(bC vs,m.wl l)else(bC vs,m'.wl (min l lo))):=Cl.PX H hf hl h
theorem Cl.Cc{f:Nat}{args:aeN}{vs:aeN}{m m':M}{lo:Nat}(hn:m.n<=m'.n)(H:bB (bC vs)=false\/lo < m.n)
  (h:∃n0,∀n,n0<=n->∀l,l<=m.n->cA E X n (.func f) args (m.wl l)=some (bif bB (bC vs) && Nat.ble m.n lo then(bC vs,m.wl l)else(bC vs,m'.wl (min l lo)))):Cl E X (.func f) args m (min m.n lo) (bC vs) m':=by
 have⟨n0,h⟩:=h
 refine⟨hn,adW _ _,n0,λn hn l hl=>?_⟩
 have:(bB (bC vs) && Nat.ble m.n lo)=false:=by
  rcases H with hv |hv
  ·grind
  ·have:Nat.ble m.n lo=false:=by
    cases H:Nat.ble m.n lo with
    |false=>rfl
    |true=>have:=abB H;omega
   grind
 grind
theorem Cl.of_flat{f:Nat}{args:aeN}{vs:aeN}{m m':M}{lo:Nat}(hv:bB (bC vs))(H:m.n<=lo)
  (h:∃n0,∀n,n0<=n->∀l,l<=m.n->cA E X n (.func f) args (m.wl l)=some (bif bB (bC vs) && Nat.ble m.n lo then(bC vs,m.wl l)else(bC vs,m'.wl (min l lo)))):Cl E X (.func f) args m m.n (bC vs) m:=by
 have⟨n0,h⟩:=h
 refine⟨aa4 _,aa4 _,n0,λn hn l hl=>?_⟩
 have:Nat.ble m.n lo:=abT H
 grind
theorem Cl.flat{f:Nat}{fn:Func}{args:aeN}{m:M}{v:aeM}(hX:Qq X f)(hf:E.fn.get f=some fn)(hl:Nat.ble args.length fn.ntmps)(hv:bB v)
  (h:eL E (aL E X) fn args m λvs m' lo=>bC vs=v/\m.n<=lo):Cl E X (.func f) args m m.n v m:=by obtain⟨vs,s,lo,⟨rfl,H⟩,_,hr⟩:=Cl.body hX hf hl h;exact .of_flat hv H hr
theorem Cl.heap{f:Nat}{fn:Func}{args:aeN}{m:M}{R:aeM->M->Nat->Prop}(H:Qq X f)(hf:E.fn.get f=some fn)(hl:Nat.ble args.length fn.ntmps)
  (h:eL E (aL E X) fn args m λvs m' lo=>(bB (bC vs)=false\/lo < m.n)/\R (bC vs) m' (min m.n lo)):
  ∃v m' b,Cl E X (.func f) args m b v m'/\R v m' b:=by have⟨vs,s,lo,⟨hv,hR⟩,hn,hr⟩:=Cl.body H hf hl h;exact⟨_,_,_,.Cc hn hv hr,hR⟩
theorem Cl.gen{f:Nat}{fn:Func}{args:aeN}{m:M}{R:aeM->M->Nat->Prop}(hX:Qq X f)(hf:E.fn.get f=some fn)(hl:Nat.ble args.length fn.ntmps)
  (h:eL E (aL E X) fn args m λvs m' lo=>(bB (bC vs)/\m.n<=lo/\R (bC vs) m m.n)\/((bB (bC vs)=false\/lo < m.n)/\R (bC vs) m' (min m.n lo))):
  ∃v m' b,Cl E X (.func f) args m b v m'/\R v m' b:=by
 have⟨vs,s,lo,h,hn,hr⟩:=Cl.body hX hf hl h;rcases h with⟨H,a0,hR⟩ |⟨H,hR⟩;·exact⟨_,_,_,.of_flat H a0 hr,hR⟩
 exact⟨_,_,_,.Cc hn H hr,hR⟩
theorem Cl.cd{f:Nat}{fn:Func}{args:aeN}{m:M}{v:aeM}(hX:Qq X f)(hf:E.fn.get f=some fn)(hl:Nat.ble args.length fn.ntmps)(hv:bB v)
  (h:dE E (aL E X) fn args m λvs m' lo=>bC vs=v/\m.n<=lo):Cl E X (.func f) args m m.n v m:=by obtain⟨vs,s,lo,⟨rfl,H⟩,_,hr⟩:=Cl.PX hX hf hl h;exact .of_flat hv H hr
theorem Cl.iX{f:Nat}{fn:Func}{args:aeN}{m:M}{R:aeM->M->Nat->Prop}(hX:Qq X f)(hf:E.fn.get f=some fn)(hl:Nat.ble args.length fn.ntmps)
  (h:dE E (aL E X) fn args m λvs m' lo=>(bB (bC vs)/\m.n<=lo/\R (bC vs) m m.n)\/((bB (bC vs)=false\/lo < m.n)/\R (bC vs) m' (min m.n lo))):
  ∃v m' b,Cl E X (.func f) args m b v m'/\R v m' b:=by
 have⟨vs,s,lo,h,hn,hr⟩:=Cl.PX hX hf hl h;rcases h with⟨H,a0,hR⟩ |⟨H,hR⟩;·exact⟨_,_,_,.of_flat H a0 hr,hR⟩
 exact⟨_,_,_,.Cc hn H hr,hR⟩
theorem Cl.known{f:Fn}{args:aeN}{m m':M}{v:aeM}(hX:∀l,X f args (m.wl l)=some (v,m'.wl l))(H:m.n<=m'.n)(hf:∃k,f=.func k):Cl E X f args m m.n v m':=by
 obtain⟨k,rfl⟩:=hf;refine⟨H,aa4 _,1,λn H l hl=>?_⟩;obtain⟨n,rfl⟩:∃j,n=j+1:=⟨n-1,by omega⟩
 simp only[cA,hX,adQ hl]
theorem Cl.Ov{k:Nat}{args:aeN}{m m':M}{b:Nat}{v:aeM}(hX:∀l,l<=m.n->X (.func k) args (m.wl l)=some (v,m'.wl (min l b)))(H:m.n<=m'.n)(hb:b<=m.n):Cl E X (.func k) args m b v m':=by
 refine⟨H,hb,1,λn H l hl=>?_⟩;obtain⟨n,rfl⟩:∃j,n=j+1:=⟨n-1,by omega⟩
 simp only[cA,hX l hl]
theorem aE{f:Fn}{args:aeN}{m m1:M}{v:aeM}{b:Nat}{P:aeM->M->Nat->Prop}(h:Cl E X f args m b v m1)(H:P v m1 b):bh E X f args m P:=⟨v,m1,b,h,H⟩
end
end
section
section
variable {E:Env} {X:aK} {k:IntKind} {t:TypeId} {a b:Int}
theorem cp:az E .leq t (.int k a) (.int k b)=some (.bool (decide (a<=b))):=by simp[az,iR]
theorem aM:az E .lss t (.int k a) (.int k b)=some (.bool (decide (a < b))):=by simp[az,iR]
theorem cB:az E .geq t (.int k a) (.int k b)=some (.bool (decide (b<=a))):=by simp[az,iR]
theorem bV:az E .gtr t (.int k a) (.int k b)=some (.bool (decide (b < a))):=by simp[az,iR]
theorem aS:az E .eql t (.int k a) (.int k b)=some (.bool (decide (a=b))):=by simp[az,iR];rfl
theorem bR:az E .neq t (.int k a) (.int k b)=some (.bool (!(decide (a=b)))):=by simp[az,iR,bne];rfl
theorem aQ:az E .add t (.int k a) (.int k b)=some (.int k (k.wrap (a+b))):=by simp[az,iR]
theorem dD:az E .sub t (.int k a) (.int k b)=some (.int k (k.wrap (a-b))):=by simp[az,iR]
theorem gE:az E .mul t (.int k a) (.int k b)=some (.int k (k.wrap (a*b))):=by simp[az,iR]
theorem kB(h:b≠0):az E .quo t (.int k a) (.int k b)=some (.int k (k.wrap (a.tdiv b))):=by simp[az,iR,h]
theorem uc(h:b≠0):az E .rem t (.int k a) (.int k b)=some (.int k (a.tmod b)):=by simp[az,iR,h]
theorem bj{b:Bool}:cZ .not (.bool b)=some (.bool (!b)):=rfl
theorem Bz:cZ .neg (.int k a)=some (.int k (k.wrap (0-a))):=rfl
theorem wrap64{x:Int}(h1: -9223372036854775808<=x)(H:x < 9223372036854775808):IntKind.i64.wrap x=x:=by
 have e:IntKind.i64.wrap x=if x%18446744073709551616>=9223372036854775808 then x%18446744073709551616-18446744073709551616 else x%18446744073709551616:=by unfold IntKind.wrap;simp[IntKind.bits,IntKind.signed]
 grind
theorem aj{b:Bool}{P Q:Prop}:aR (.bool b) P Q=iW b P Q:=rfl
theorem cf{g:Fn}{H ca:Array aeM}{P:Fn->Array aeM->Array aeM->Prop}:ia (.func g H ca) P=P g H ca:=rfl
theorem aB{v:aeM}{r:aeN}{P:aeM->aeN->Prop}:un (v::r) P=P v r:=rfl
theorem gC{a:Addr}:eU (.pointer (some a))=some (.pointer (some a)):=rfl
theorem ji{f:FuncId}{a b:Array aeM}:eU (.func (.func f) a b)=some (.func (.func f) a b):=rfl
theorem aH{vs:Array aeM}{i:Nat}:bz (.tuple vs) i=vs.toList[i]?:=rfl
theorem aT{cs:Array aeM}:cells (.agg cs)=cs.toList:=rfl
theorem kR{x:Int}:cells (.int k x)=[.int k x]:=rfl
theorem jr{x:Bool}:cells (.bool x)=[.bool x]:=rfl
theorem iy{a:Option Addr}{n c:Nat}:cells (.slice a n c)=[.slice a n c]:=rfl
theorem kP{a:Option Addr}:cells (.pointer a)=[.pointer a]:=rfl
theorem kQ{a:Option Nat}:cells (.map a)=[.map a]:=rfl
theorem jq{f:Fn}{a b:Array aeM}:cells (.func f a b)=[.func f a b]:=rfl
theorem ak{b:Bool}{P Q:Prop}(h1:b->P)(H:b=false->Q):iW b P Q:=RC.2 ⟨h1,H⟩
theorem bL{P Q:Prop}:iW true P Q=P:=rfl
theorem aO{P Q:Prop}:iW false P Q=Q:=rfl
theorem Lp.intro{F:(aeN->M->Nat->Prop)->aeN->M->Nat->Prop}{vs:aeN}{m:M}{lo:Nat}{γ:Type}(H:γ->Nat)(I:γ->aeN->M->Nat->Prop)(g0:γ)(h0:I g0 vs m lo)
  (hs:∀g vs m lo,I g vs m lo->F (λvs m lo=>∃g',H g' < H g/\I g' vs m lo) vs m lo):Lp F vs m lo:=⟨γ,H,I,⟨g0,h0⟩,hs⟩
end
section
variable {m m' m1:M} {b c:Nat} {o:Ob}
theorem M.kM(h:b < m.n):m.get b=(m.st.get b).getD .dead:=by
 unfold M.get
 have:Nat.blt b m.n:=by simp_all
 grind
theorem M.jl(h:m.n<=b):m.get b=.dead:=by
 unfold M.get
 have:Nat.blt b m.n=false:=by
  cases H:Nat.blt b m.n with
  |false=>rfl
  |true=>rw[adb]at H;omega
 grind
theorem M.aU:(m.push o).get m.n=o:=by rw[M.kM (by rw[M.mr];omega)];show((m.st.set m.n o).get m.n).getD .dead=o;rw[Tr.bX,abe rfl];rfl
theorem M.cD(h:b < m.n):(m.push o).get b=m.get b:=by rw[M.kM (by rw[M.mr];omega),M.kM h];show((m.st.set m.n o).get b).getD .dead=_;rw[Tr.bX,abd (by omega)]
theorem M.eK(h:b < m.n):(m.set b o).get b=o:=by rw[M.kM (m:=m.set b o) h];show((m.st.set b o).get b).getD .dead=_;rw[Tr.bX,abe rfl];rfl
theorem M.dP(h:c≠b):(m.set b o).get c=m.get c:=by
 by_cases H:c < m.n
 ·rw[M.kM H,M.kM (m:=m.set b o) H];show((m.st.set b o).get c).getD .dead=_;rw[Tr.bX,abd h]
 rw[M.jl (m:=m) (by omega),M.jl (m:=m.set b o) (by show m.n<=c;omega)]
theorem M.bk{cs:aeN}{e:TypeId}{g:Option Nat}(h:m.get b=.cells cs e g):b < m.n:=by
 by_cases H:b < m.n;·exact H
 rw[M.jl (by omega)]at h;cases h
theorem av{P:M->Prop}(h:∀m1,m1.n=m.n+1->m1.get m.n=o->(∀b,b < m.n->m1.get b=m.get b)->P m1):bE (m.push o) P:=
 h _ rfl M.aU λ_ H=>M.cD H
theorem Ext.refl:Ext m m:=⟨aa4 _,λ_ _=>rfl⟩
theorem Ext.trans(h:Ext m m1)(H:Ext m1 m'):Ext m m':=⟨acb h.n H.n,λb hb=>by rw[H.get b (acL hb h.n),h.get b hb]⟩
theorem Ext.push(h:Ext m m1):Ext m (m1.push o):=⟨acb h.n (acs _),λb H=>by rw[M.cD (acL H h.n),h.get b H]⟩
theorem Ext.wl(h:Ext m m1){l:Nat}:Ext m (m1.wl l):=⟨h.n,h.get⟩
theorem Ext.cells{cs:aeN}{e:TypeId}{g:Option Nat}(h:Ext m m1)(H:m.get b=.cells cs e g):m1.get b=.cells cs e g:=by rw[h.get b (M.bk H),H]
theorem aI{cs:aeN}{e:TypeId}{g:Option Nat}{o:Nat}(h:m.get b=.cells cs e g):cellAt m ⟨b,o,none⟩=cs[o]?:=by unfold cellAt;simp only[h];rfl
theorem aN{cs:aeN}{e:TypeId}{g:Option Nat}{o n:Nat}(h:m.get b=.cells cs e g)(H:o+n<=cs.length):loadCells m ⟨b,o,none⟩ n=some ((cs.drop o).take n):=by
 unfold loadCells
 have:Nat.ble (o+n) cs.length:=abT H
 grind
theorem zP{cs vs:aeN}{e:TypeId}{g:Option Nat}{o:Nat}(h:m.get b=.cells cs e g)(H:o+vs.length<=cs.length)(h1:vs.all one):
  storeCells m ⟨b,o,none⟩ vs=some (m.set b (.cells (cs.take o++(vs++cs.drop (o+vs.length))) e g)):=by
 unfold storeCells
 have:Nat.ble (o+vs.length) cs.length:=abT H
 grind
end
class aZ (α:Type) where
 ty:TypeId
 sz:Nat
 agg:Bool
 eB:List TypeId
 rep:M->α->aeN->Prop
 pos:0 < sz
 one:agg=false->sz=1
 len:∀{m x cs},rep m x cs->cs.length=sz
 fB:∀{m x cs},rep m x cs->cs.all D.one=true
 aY:∀{m m' x cs},rep m x cs->(∀b c t g,m.get b=.cells c t g->t∈eB->m'.get b=.cells c t g)->rep m' x cs
namespace aZ
def val(α:Type)[aZ α](cs:aeN):aeM:=bif agg α then .agg cs.toArray else cs.headD undef
theorem aF{α:Type}[aZ α]{m m':M}{x:α}{cs:aeN}(h:rep m x cs)(he:Ext m m'):rep m' x cs:=aY h λ_ _ _ _ H _=>he.cells H
end aZ
def Sl{α:Type}[aZ α](m:M)(l:List α)(v:aeM):Prop:=
 (v=.slice none 0 0/\l=[])\/∃b o c H g,v=.slice (some ⟨b,o,none⟩) l.length c/\m.get b=.cells H (aZ.ty α) g/\o+l.length*aZ.sz α<=H.length/\
  ∀i x,l[i]?=some x->aZ.rep m x ((H.drop (o+i*aZ.sz α)).take (aZ.sz α))
theorem Sl.aY{α:Type}[aZ α]{m m':M}{l:List α}{v:aeM}(h:Sl m l v)(hk:∀b c t g,m.get b=.cells c t g->t∈aZ.ty α::aZ.eB α->m'.get b=.cells c t g):Sl m' l v:=by
 rcases h with h |⟨b,o,c,H,g,h1,h2,h3,h4⟩;·exact .inl h
 exact .inr ⟨b,o,c,H,g,h1,hk _ _ _ _ h2 abN,h3,λi x hi=>aZ.aY (h4 i x hi) λb c t g hb ht=>hk b c t g hb (abS _ ht)⟩
theorem Sl.aF{α:Type}[aZ α]{m m':M}{l:List α}{v:aeM}(h:Sl m l v)(he:Ext m m'):Sl m' l v:=h.aY λ_ _ _ _ H _=>he.cells H
theorem Sl.form{α:Type}[aZ α]{m:M}{l:List α}{v:aeM}(h:Sl m l v):∃a c,v=.slice a l.length c:=by
 rcases h with⟨rfl,rfl⟩ |⟨b,o,c,H,g,rfl,_⟩
 ·simp_all
 ·grind
theorem Sl.one{α:Type}[aZ α]{m:M}{l:List α}{v:aeM}(h:Sl m l v):one v:=by obtain⟨a,c,rfl⟩:=h.form;rfl
theorem Sl.nil{α:Type}[aZ α]{m:M}:Sl m ([]:List α) aeQ:=.inl ⟨rfl,rfl⟩
theorem Sl.cells{α:Type}[aZ α]{m:M}{l:List α}{v:aeM}(h:Sl m l v):D.cells v=[v]:=by obtain⟨a,c,rfl⟩:=h.form;rfl
def oP(E:Env)(T t:TypeId)(α:Type)[aZ α]:Prop:=
 ∃H te,E.ty.get T=some H/\(∃e,H.d=.slice e)/\H.es=aZ.sz α/\E.ty.get t=some te/\te.d.agg=aZ.agg α/\te.size=aZ.sz α
section
variable {E:Env} {m:M} {T t:TypeId} {α:Type} [aZ α] {l:List α} {v:aeM}
theorem Sl.len(h:Sl m l v)(H:oP E T t α):aw E m .len [T] [v]=some (aeP l.length,m):=by have⟨ti,te,h1,⟨e,h2⟩,_⟩:=H;obtain⟨a,c,rfl⟩:=h.form;simp only[aw,oL,h1,h2,abi]
theorem Sl.index(h:Sl m l v)(hT:oP E T t α){k:IntKind}{i:Nat}{x:α}(hi:l[i]?=some x):
  ∃p cs,an E T v (.int k i)=some p/\ah E m t p=some (aZ.val α cs)/\aZ.rep m x cs:=by
 have⟨ti,te,h1,⟨e,h2⟩,h3,h4,h5,h6⟩:=hT;have H:=(aa9.1 hi).1;rcases h with⟨_,rfl⟩ |⟨b,o,c,bc,g,rfl,hb,hlen,a0⟩
 ·grind
 have hr:=a0 i x hi;have b0:=aZ.pos (α:=α);refine⟨aeK b (o+i*aZ.sz α),_,?_,?_,hr⟩
 ·have hc:0<=(i:Int)/\(i:Int)< (l.length:Int)/\0 < ti.es:=⟨by omega,by omega,by omega⟩
  simp only[an,h1,h2];rw[abe hc,aV rfl,h3];rfl
 ·have hle:o+i*aZ.sz α+aZ.sz α<=bc.length:=by
   have:(i+1)*aZ.sz α<=l.length*aZ.sz α:=ab4 _ H
   grind
  simp only[ah,loadVar,h4]
  unfold aZ.val
  cases ha:aZ.agg α with
  |true=>rw[h5,ha,h6];rw[aN hb hle];rfl
  |false=>
   rw[aI hb]
   have d0:=aZ.len hr
   have hs:=aZ.one ha
   rw[List.headD_eq_head?_getD,List.head?_take,List.head?_drop,abd (by omega)]
   grind
end
theorem sG{E:Env}{m:M}{t:TypeId}{ti:TI}{b o:Nat}{cs:aeN}{e:TypeId}{g:Option Nat}{x:aeM}(H:E.ty.get t=some ti)(h:m.get b=.cells cs e g)(hs:(cells x).length=ti.size)(hl:o+(cells x).length<=cs.length)(h1:(cells x).all one):
  aD E m t (aeK b o) x=some (m.set b (.cells (cs.take o++(cells x++cs.drop (o+(cells x).length))) e g),b):=by
 have:Nat.beq (cells x).length ti.size:=by simp_all
 simp only[aD,storeVar,H,this,cond_true,zP h hl h1]
theorem cg{E:Env}{m:M}{t:TypeId}{ti:TI}{b o:Nat}{cs:aeN}{e:TypeId}{g:Option Nat}{x:aeM}{P:M->Nat->Prop}(H:E.ty.get t=some ti)(h:m.get b=.cells cs e g)(hs:(cells x).length=ti.size)(hl:o+(cells x).length<=cs.length)(h1:(cells x).all one)
  (hP:∀m1,m1.n=m.n->m1.get b=.cells (cs.take o++(cells x++cs.drop (o+(cells x).length))) e g->(∀c,c≠b->m1.get c=m.get c)->P m1 b):aP (aD E m t (aeK b o) x) P:=by rw[sG H h hs hl h1,aA];exact hP _ rfl (M.eK (M.bk h)) λc hc=>M.dP hc
theorem Sl.gM{E:Env}{m:M}{T t:TypeId}{α:Type}[aZ α]{l:List α}{v:aeM}(h:Sl m l v)(hT:oP E T t α){k:IntKind}{i:Nat}{x:α}(hi:l[i]?=some x):
  ∃b o H g cs,an E T v (.int k i)=some (aeK b o)/\m.get b=.cells H (aZ.ty α) g/\aZ.rep m x cs/\o+aZ.sz α<=H.length/\∀j,j < aZ.sz α->H[o+j]?=cs[j]?:=by
 have⟨ti,te,h1,⟨e,h2⟩,h3,h4,h5,h6⟩:=hT;have a0:=(aa9.1 hi).1;rcases h with⟨_,rfl⟩ |⟨b,o,c,H,g,rfl,hb,hlen,b0⟩
 ·grind
 have hr:=b0 i x hi;have d0:=aZ.pos (α:=α);refine⟨b,o+i*aZ.sz α,H,g,_,?_,hb,hr,?_,λj hj=>?_⟩
 ·have hc:0<=(i:Int)/\(i:Int)< (l.length:Int)/\0 < ti.es:=⟨by omega,by omega,by omega⟩
  simp only[an,h1,h2];rw[abe hc,aV rfl,h3];rfl
 ·have:(i+1)*aZ.sz α<=l.length*aZ.sz α:=ab4 _ a0
  grind
 ·grind
theorem aC{E:Env}{m:M}{t:TypeId}{ti:TI}{b:Nat}{cs:aeN}{e:TypeId}{g:Option Nat}{x:aeM}{P:M->Nat->Prop}(H:E.ty.get t=some ti)(h:m.get b=.cells cs e g)(hs:(cells x).length=ti.size)(hl:(cells x).length=cs.length)(h1:(cells x).all one)
  (hP:∀m1,m1.n=m.n->m1.get b=.cells (cells x) e g->(∀c,c≠b->m1.get c=m.get c)->P m1 b):aP (aD E m t (aeK b 0) x) P:=by
 refine cg H h hs (by omega) h1 λm1 hn hg hk=>hP m1 hn ?_ hk
 grind
end
section
structure YI(n1:Nat)(m m1:M):Prop where
 n:m.n<=m1.n
 get:∀c,c < n1->m1.get c=m.get c
theorem YI.refl{n1:Nat}{m:M}:YI n1 m m:=⟨aa4 _,λ_ _=>rfl⟩
theorem YI.ext{m m1:M}(h:YI m.n m m1):Ext m m1:=⟨h.n,h.get⟩
def chunk(cs:aeN)(k i:Nat):aeN:=(cs.drop (i*k)).take k
theorem mh{a b:aeN}{k n i:Nat}(H:a.length=n*k)(hi:i < n):chunk (a++b) k i=chunk a k i:=by
 unfold chunk
 have:(i+1)*k<=n*k:=ab4 _ hi
 grind
theorem lJ{a b:aeN}{k n i:Nat}(H:a.length=n*k)(hi:n<=i):chunk (a++b) k i=chunk b k (i-n):=by unfold chunk;have:n*k<=i*k:=ab4 _ hi;rw[List.drop_append,H,ac3 (by omega),ab6,aeI]
theorem Lf{H:aeN}{o k n i:Nat}(hi:i < n):chunk ((H.drop o).take (n*k)) k i=(H.drop (o+i*k)).take k:=by
 unfold chunk
 have:(i+1)*k<=n*k:=ab4 _ hi
 rw[List.drop_take,ac2,aep]
 grind
theorem zF{p:aeM->Bool}{k:Nat}:∀(n:Nat) (cs:aeN),cs.length=n*k->(∀i,i < n->(chunk cs k i).all p)->cs.all p=true
 |0,cs,H,_=>by
  grind
 |n+1,cs,H,h=>by
  rw[acg,acW]at H
  have h0:=h 0 (by omega)
  simp only[chunk,ac4,abU]at h0
  have hd:=zF (k:=k) n (cs.drop k) (by grind) λi hi=>by
   have:=h (i+1) (by omega)
   simp only[chunk,acg,acW]at this
   simp only[chunk,ac2]
   rw[adT k]
   exact this
  rw[<-ab5 k cs,adV,h0,hd];rfl
def Ow{α:Type}[aZ α](n1:Nat)(m:M)(l:List α)(v:aeM):Prop:=
 (v=.slice none 0 0/\l=[])\/∃b cs,v=.slice (some ⟨b,0,none⟩) l.length l.length/\0 < l.length/\n1<=b/\m.get b=.cells cs (aZ.ty α) (some (aZ.sz α))/\cs.length=l.length*aZ.sz α/\
  ∀i x,l[i]?=some x->aZ.rep m x (chunk cs (aZ.sz α) i)
theorem Ow.nil{α:Type}[aZ α]{n1:Nat}{m:M}:Ow n1 m ([]:List α) aeQ:=.inl ⟨rfl,rfl⟩
theorem Ow.sl{α:Type}[aZ α]{n1:Nat}{m:M}{l:List α}{v:aeM}(h:Ow n1 m l v):Sl m l v:=by
 rcases h with h |⟨b,cs,h1,h2,h3,H,h5,h6⟩;·exact .inl h
 refine .inr ⟨b,0,_,cs,_,h1,H,by omega,λi x hi=>?_⟩;rw[abV];exact h6 i x hi
theorem Ow.aY{α:Type}[aZ α]{n1:Nat}{m m':M}{l:List α}{v:aeM}(h:Ow n1 m l v)(hk:∀b c t g,m.get b=.cells c t g->t∈aZ.ty α::aZ.eB α->m'.get b=.cells c t g):Ow n1 m' l v:=by
 rcases h with h |⟨b,cs,h1,H,h3,h4,h5,h6⟩;·exact .inl h
 exact .inr ⟨b,cs,h1,H,h3,hk _ _ _ _ h4 abN,h5,λi x hi=>aZ.aY (h6 i x hi) λb c t g hb ht=>hk b c t g hb (abS _ ht)⟩
theorem Ow.aF{α:Type}[aZ α]{n1:Nat}{m m':M}{l:List α}{v:aeM}(h:Ow n1 m l v)(he:Ext m m'):Ow n1 m' l v:=h.aY λ_ _ _ _ H _=>he.cells H
theorem Ow.mono{α:Type}[aZ α]{n1 n2:Nat}{m:M}{l:List α}{v:aeM}(h:Ow n1 m l v)(hn:n2<=n1):Ow n2 m l v:=by
 rcases h with h |⟨b,cs,h1,H,h3,h4⟩;·exact .inl h
 exact .inr ⟨b,cs,h1,H,by omega,h4⟩
theorem Ow.flat{α:Type}[aZ α]{n1:Nat}{m:M}{l:List α}{v:aeM}(h:Ow n1 m l v)(H:l≠ []):bB v=false:=by
 rcases h with⟨_,rfl⟩ |⟨b,cs,rfl,_⟩
 ·grind
 rfl
def ur(E:Env)(T:TypeId)(α:Type)[aZ α]:Prop:=
 ∃H ei,E.ty.get T=some H/\H.d=.slice (aZ.ty α)/\H.es=aZ.sz α/\E.ty.get (aZ.ty α)=some ei/\ei.bytes<=65536/\gV ei.zero (aZ.sz α)=true
section
variable {E:Env} {α:Type} [aZ α] {n1:Nat} {m:M} {l ys:List α} {v y:aeM} {T:TypeId}
theorem Sl.first(h:Sl m ys y):∃news,lY y=some ys.length/\first? m (aZ.sz α) ys.length y=some news/\news.length=ys.length*aZ.sz α/\news.all D.one/\∀i x,ys[i]?=some x->aZ.rep m x (chunk news (aZ.sz α) i):=by
 rcases h with⟨rfl,rfl⟩ |⟨b,o,c,bc,g,rfl,hb,hlen,a0⟩;·exact⟨[],rfl,rfl,by simp,rfl,by grind⟩
 have hl:((bc.drop o).take (ys.length*aZ.sz α)).length=ys.length*aZ.sz α:=by grind
 have H:∀i x,ys[i]?=some x->aZ.rep m x (chunk ((bc.drop o).take (ys.length*aZ.sz α)) (aZ.sz α) i):=λi x hi=>by rw[Lf (aa9.1 hi).1];exact a0 i x hi
 refine⟨_,rfl,?_,hl,?_,H⟩
 ·unfold first?
  cases hn:Nat.beq ys.length 0 with
  |true=>
   simp_all
  |false=>exact aN hb hlen
 exact zF ys.length _ hl λi hi=>aZ.fB (H i _ (aa5 hi))
theorem Ow.append(hT:ur E T α)(l0:aZ.ty α∉aZ.eB α)(h:Ow n1 m l v)(hy:Sl m ys y)(hn:n1<=m.n)(hs:l.length+ys.length<=268435456):
  ∃v' m1,aw E (m.wl m.n) .append [T,T] [v,y]=some (v',m1)/\Ow n1 m1 (l++ys) v'/\YI n1 m m1/\n1<=m1.low/\m1.n<=m.n+1:=by
 have⟨ti,ei,t1,t2,t3,t4,t5,t6⟩:=hT;have⟨news,e1,e2,e3,e4,e5⟩:=hy.first;have j0:=aZ.pos (α:=α)
 have hc:(Nat.beq ti.es 0 ||Nat.blt 65536 ei.bytes || !news.all D.one ||Nat.blt 268435456 (l.length+ys.length) || !Nat.beq news.length (ys.length*ti.es) || !gV ei.zero ti.es)=false:=by
  have c1:Nat.beq ti.es 0=false:=by
   cases hb:Nat.beq ti.es 0 with
   |false=>rfl
   |true=>have:=abn hb;omega
  have c2:Nat.blt 65536 ei.bytes=false:=by
   cases hb:Nat.blt 65536 ei.bytes with
   |false=>rfl
   |true=>rw[adb]at hb;omega
  have c3:Nat.blt 268435456 (l.length+ys.length)=false:=by
   cases hb:Nat.blt 268435456 (l.length+ys.length)with
   |false=>rfl
   |true=>rw[adb]at hb;omega
  simp_all
 have H:first? (m.wl m.n) ti.es ys.length y=some news:=by rw[cy,t3];exact e2
 rcases h with⟨rfl,rfl⟩ |⟨b,cs,rfl,h2,h3,h4,h5,h6⟩
 ·
  cases a0:ys with
  |nil=>subst a0;refine⟨aeQ,m.wl m.n,?_,.inl ⟨rfl,rfl⟩,⟨aa4 _,λ_ _=>rfl⟩,hn,by show m.n<=_;omega⟩;simp only[aw,eA,t1,e1,t2,t4,H];simp only[abI]at hc⊢;rw[hc];rfl
  |cons y0 g0=>
   rw[<-a0];have d0:0 < ys.length:=by grind
   have b0:Nat.ble (0+ys.length) 0=false:=by
    cases hb:Nat.ble (0+ys.length) 0 with
    |false=>rfl
    |true=>have:=abB hb;omega
   refine⟨aeL m.n 0 ys.length ys.length,(m.wl m.n).push (.cells news (aZ.ty α) (some (aZ.sz α))),?_,?_,⟨by show m.n<=m.n+1;omega,λc hc=>by rw[M.cD (by show c < m.n;omega)];rfl⟩,hn,by show m.n+1<=_;omega⟩
   ·simp only[aw,eA,t1,e1,t2,t4,H];simp only[abI]at hc;rw[hc,b0];simp only[abm,lZ];have:(Nat.beq 0 0 && Nat.beq 0 0):=rfl;rw[this,t3];simp only[cond_true,abV];rfl
   refine .inr ⟨m.n,news,by simp,by grind,hn,M.aU (m:=m.wl m.n),by grind,λi x hi=>?_⟩;have:=e5 i x (by grind);exact aZ.aF this ⟨by show m.n<=m.n+1;omega,λc hc=>by rw[M.cD (m:=m.wl m.n) hc];rfl⟩
 ·
  have n0:=M.bk h4
  cases a0:ys with
  |nil=>
   subst a0;refine⟨aeL b 0 l.length l.length,m.wl m.n,?_,?_,⟨aa4 _,λ_ _=>rfl⟩,hn,by show m.n<=_;omega⟩
   ·simp only[aw,eA,t1,e1,t2,t4,H]
    simp only[abI,acY]at hc⊢
    rw[hc]
    have:Nat.ble l.length l.length:=abT (aa4 _)
    grind
   rw[abJ];exact .inr ⟨b,cs,rfl,h2,h3,h4,h5,λi x hi=>aZ.aY (m:=m) (h6 i x hi) λ_ _ _ _ hb _=>hb⟩
  |cons y0 g0=>
   rw[<-a0];have d0:0 < ys.length:=by grind
   have b0:Nat.ble (l.length+ys.length) l.length=false:=by
    cases hb:Nat.ble (l.length+ys.length) l.length with
    |false=>rfl
    |true=>have:=abB hb;omega
   have hold:(bif Nat.beq l.length 0 then some []else loadCells (m.wl m.n) ⟨b,0,none⟩ (l.length*aZ.sz α))=some cs:=by
    cases hb:Nat.beq l.length 0 with
    |true=>have:=abn hb;omega
    |false=>simp only[abm,bU];rw[aN h4 (by omega),abU,aby (by omega)]
   have g1:((some (aZ.sz α):Option Nat).isNone ||((some (aZ.sz α):Option Nat)==some (aZ.sz α) && Nat.blt (0+l.length*aZ.sz α) cs.length))=false:=by
    have:Nat.blt (0+l.length*aZ.sz α) cs.length=false:=by
     cases hb:Nat.blt (0+l.length*aZ.sz α) cs.length with
     |false=>rfl
     |true=>rw[adb]at hb;omega
    grind
   have g2:((some (aZ.sz α):Option Nat)==some (aZ.sz α) && Nat.beq 0 0 && (none:Option Nat).isNone && Nat.beq (l.length*aZ.sz α) cs.length && Nat.beq l.length l.length && Nat.beq (aZ.ty α) (aZ.ty α)):=by
    simp_all
   refine⟨aeL m.n 0 (l.length+ys.length) (l.length+ys.length),((m.wl m.n).set b .dead).push (.cells (cs++news) (aZ.ty α) (some (aZ.sz α))),?_,?_,⟨by show m.n<=m.n+1;omega,λc hc=>?_⟩,?_,by show m.n+1<=_;omega⟩
   ·simp only[aw,eA,t1,e1,t2,t4,H];rw[hc,b0];simp only[abm,lZ,t3];have hg:(m.wl m.n).get b=.cells cs (aZ.ty α) (some (aZ.sz α)):=h4;simp only[hg,hold,g1,abm];rw[g2];rfl
   ·have e0:∀c,c < m.n->c≠b->(((m.wl m.n).set b .dead).push (.cells (cs++news) (aZ.ty α) (some (aZ.sz α)))).get c=m.get c:=λc hc h0=>by rw[M.cD (by show c < m.n;exact hc),M.dP h0];rfl
    have k0:∀x c,aZ.rep m x c->aZ.rep (α:=α) (((m.wl m.n).set b .dead).push (.cells (cs++news) (aZ.ty α) (some (aZ.sz α)))) x c:=λx c hx=>by refine aZ.aY hx λb' c' t g hb ht=>?_;rw[e0 b' (M.bk hb) (by grind),hb]
    refine .inr ⟨m.n,cs++news,by simp,by grind,hn,M.aU (m:=(m.wl m.n).set b .dead),by grind,λi x hi=>?_⟩;by_cases i0:i < l.length
    ·rw[mh h5 i0]
     grind
    ·rw[lJ h5 (by omega)]
     grind
   ·rw[M.cD (by show c < m.n;omega),M.dP (by omega)];rfl
   show n1<=min m.n b;omega
end
end
end Go.D
