/- A region that does not draw. -/
import Derived.Test.YtjpegplpgihmdaaGreatDoorG0J
import Derived.RecoverIn
import Derived.RangeFuncNested
set_option linter.defProp false
noncomputable section
namespace Go.D
open Go
variable{G b base f i j lo n nt p r rd:Nat}{ops:Array Oper}{T:Tr Φ}{o:Oper}{e t:TypeId}{L:Nat->Prop}{call:aF}{σ σ':Sg}{F br:Bool}{E:Env}{m m' m1:M}{P c:Prop}{ts:List TypeId}{args cs vs:ν}{x:Φ}{args' ca fi:Array Φ}{fn:Func}{a:Addr}{R:ν->M->Nat->Prop}{g:Option Nat}{ti:TI}
section
variable{E:Env}{P:Program}{σ:Sg}{m m':M}{w:World}
def bs.Ta{v:Φ}{b:Bool}(h:bs σ v (.bool b)):v=.bool b:=by cases h;rfl
theorem pZ{a:Act}
  (hT:∀j want d,o.guard=some (j,want)->(ops[j]?).bind (·.dst)=some d->d<a.tmps.size/\bs σ (je T d) (a.eval (.tmp d))):
  cd ops T o=Region.wanted o (yielded ops a.tmps):=by unfold cd Region.wanted;cases hg:o.guard with|none=>rfl|some p=>have⟨j,want⟩:=p;dsimp only;unfold yielded;simp only[Jk];cases hd:(ops[j]?).bind (·.dst)with|none=>rfl|some d=>have⟨h1,F⟩:=hT j want d hg hd;have he:a.tmps[d]?=some (a.eval (.tmp d)):=(by simp[Act.eval,h1]);simp only[Ls,he];generalize a.eval (.tmp d)=u at F;cases H:je T d with|bool b=>rw[H]at F;rw[F.bool];simp|_=>rw[H]at F;cases u with|bool b=>have:=F.Ta;cases this|_=>simp
def dJ(h:fm nt G o):∀d,o.dst=some d->d<nt:=by intro d F;unfold fm at h;simp_all
def fj(h:fm nt G o):∀x∈o.op.operands.toList,uQ nt G x:=by intro x F;unfold fm at h;grind
def qp{t:Nat}(h:uQ nt G (.tmp t)):t<nt:=by have h:Nat.blt t nt:=h;simp_all
def dA.By{a:Act}(h:dA σ T a nt)(H:eU P σ m w){x:Operand}(F:uQ nt P.globals.size x):bs σ (ev T x) (a.eval x):=
 Cf H (λt ht=>by subst ht;exact h.2 t (qp F)) F
def dA.wanted{a:Act}(h:dA σ T a nt)(H:∀o∈ops.toList,fm nt P.globals.size o)(o:Oper):cd ops T o=Region.wanted o (yielded ops a.tmps):=by refine pZ (σ:=σ) λj want d _ hd=>?_;simp only[YZ]at hd;have⟨o',d0,b0⟩:=hd;have F:=dJ (H o' be) d b0;exact⟨by rw[h.1];exact F,h.2 d F⟩
theorem yl(hE:E.OK P){call:aF}(cE:cM P call){nt:Nat}{ops:Array Oper}(b0:∀o∈ops.toList,fm nt P.globals.size o){ro:Option Nat}{n:Nat}{Q:Exit->Act->World->Prop}{ds:List Deferred}:
  ∀(l:List Oper),(∀o∈l,fm nt P.globals.size o)->∀(fr F:Fr),Bx E call ops l fr=some F->∀(σ:Sg) (a:Act) (w:World),dA σ fr.T a nt->a.defers=ds->eU P σ fr.m w->(∀σ' a' w',dA σ' F.T a' nt->a'.defers=ds->Ev P σ fr.m w σ' F.m w'->Q .normal a' w')->wpListIn (dG ro) n P ops Q l a w
 |[],_,fr,F,h,σ,a,w,hf,hd,hs,k=>by simp only[GK,T7]at h;subst h;exact k σ a w hf hd (Ev.refl hs)
 |o::l,hl,fr,F,h,σ,a,w,hf,hd,hs,k=>by rw[nf]at h;have hw:=hf.wanted b0 o;have H:=dJ (hl o F3);have d0:=λo ho=>hl o (Wm _ ho);unfold wpListIn;rw[<-hw];cases e0:cd ops fr.T o with|false=>rw[e0]at h;simp only[sI]at h;rw[Od co];refine⟨λ_ _=>trivial,?_⟩;refine yl hE cE b0 l d0 _ _ h σ (a.put o.dst undef) w (hf.put H bs.undef) ?_ hs k;rw[<-hd];cases o.dst <;>rfl|true=>rw[e0]at h;simp only[gc]at h;rw[F6 rfl];cases ho:dI o.op E call fr.T fr.m with|none=>rw[ho]at h;cases h|some p=>have⟨v,m1⟩:=p;rw[ho]at h;simp only at h;refine⟨λ_ _=>trivial,?_⟩;have g0:=rS hE cE hs ho (a:=a) (λx hx=>hf.By hs (fj (hl o F3) x hx));rw[Oper.semAt_eq _ _ _ (λc hc=>by rw[hc]at ho;simp[dI]at ho)];refine g0.2 ro n o a _ Q λσ' w' v' hv he=>?_;refine yl hE cE b0 l d0 _ _ h σ' (a.put o.dst v') w' ((hf.mono he.ext).put H hv) ?_ he.rk λh0 a2 w2 i0 j0 k0=>k h0 a2 w2 i0 j0 (he.trans k0);rw[<-hd];cases o.dst <;>rfl
end
section
inductive Reach (ops:Array Oper):Nat->Nat->Prop where
 |one {j:Nat} {o:Oper} {e:Edge} (ho:ops[j]?=some o) (he:e∈o.after) (hb:Region.binds .any e=true):Reach ops e.on j
 |step {i j:Nat} {o:Oper} {e:Edge} (ho:ops[j]?=some o) (he:e∈o.after) (hb:Region.binds .any e=true) (h:Reach ops i e.on):Reach ops i j
theorem vJ{acc:Array Nat}{i:Nat}:∀(l:List Edge) (s:Nat),(l.foldl (λs e=>if Region.binds .any e then s |||2 ^ e.on |||acc.getD e.on 0 else s) s).testBit i->
  s.testBit i\/∃e∈l,Region.binds .any e/\(i=e.on\/(acc.getD e.on 0).testBit i)
 |[],s,h=> .inl h
 |e::l,s,h=>by rw[RG]at h;rcases vJ l _ h with F|⟨H,F,h2,h3⟩;grind;grind
theorem zx(ops:Array Oper):∀(l pre:List Oper) (acc:Array Nat),ops.toList=pre++l->acc.size=pre.length->(∀i j,(acc.getD j 0).testBit i->Reach ops i j)->
  ∀i j,((l.foldl (λacc o=>acc.push (o.after.foldl (λs e=>if Region.binds .any e then s |||2 ^ e.on |||acc.getD e.on 0 else s) 0)) acc).getD j 0).testBit i->Reach ops i j
 |[],pre,acc,_,_,h,i,j,H=>h i j H
 |o::l,pre,acc,hp,hs,h,i,j,H=>by rw[RG]at H;refine zx ops l (pre++ [o]) _ be be ?_ i j H;intro i j F;have ho:ops[pre.length]?=some o:=(by rw[<-Jk,hp,M6 (ID _)];simp);rcases YY j acc.size with hj|hj|hj;apply h i j;rw[Z0,Zb hj]at F;rw[Z0];grind;subst hj;rw[Z0,Array.getElem?_push_size]at F;simp only[Wi]at F;rw[<-Of]at F;rcases vJ o.after.toList 0 F with h1|⟨e,h1,h2,h3⟩;grind;rw[hs];rcases h3 with rfl|h3;exact .one ho be h2;exact .step ho be h2 (h _ _ h3);grind
def jl(h:((Region.before ops).getD j 0).testBit i):Reach ops i j:=by unfold Region.before at h;rw[<-Of]at h;exact zx ops ops.toList [] #[] co rfl be i j h
def CS(ops:Array Oper)(L:Nat->Prop):Prop:=∀j o,ops[j]?=some o->L j->∀e∈o.after,Region.binds .any e=true->L e.on
def Reach.listed(hc:CS ops L){i j:Nat}(h:Reach ops i j):(∀o,ops[j]?=some o->∀e∈o.after,Region.binds .any e->L e.on)->L i:=by induction h with|one F he H=>exact λh=>h _ F _ he H|step F he H _ ih=>exact λh=>ih λo' b0 e' d0 e0=>hc _ o' b0 (h _ F _ he H) e' d0 e0
def Reach.jj(F:CS ops L){i j:Nat}(h:Reach ops i j)(H:L j):L i:=h.listed F λo ho e he hb=>F j o ho H e he hb
def Reach.lt(hl:∀j o,ops[j]?=some o->∀e∈o.after,Region.binds .any e->e.on<j){i j:Nat}(h:Reach ops i j):i<j:=by induction h with|one F he H=>exact hl _ _ F _ he H|step F he H _ ih=>exact Nat.lt_trans ih (hl _ _ F _ he H)
structure Ay(ops:Array Oper):Prop where
 lt:∀j o,ops[j]?=some o->∀e∈o.after,Region.binds .any e=true->e.on < j
 apart:∀i j o' o,ops[i]?=some o'->ops[j]?=some o->i < j->Reach ops i j\/((∀d,o.dst=some d->d∉fE ops o')/\∀d,o'.dst=some d->d∉fE ops o)
def wk(h:ym ops):Ay ops:=by have key:∀j o,ops[j]?=some o->_:=λj o H=>Jo.1 h (o,j) be;simp only[De]at key;refine⟨λj o H e he hb=>?_,λi j o' o hi hj F=>?_⟩;have:=Jo.1 (key j o H).1 e be;simp_all;have:=Jo.1 (key j o hj).2 (o',i) be;rw[kH]at this;simp only[F,decide_true,Pq,Wv,Q9,De]at this;rcases this with h1|⟨h1,h2⟩;exact .inl (jl h1);grind
def oY(h:gj ops j):∀i o,ops[i]?=some o->i=j\/fN o.op\/Reach ops i j\/Reach ops j i:=by intro i o H;have:=Jo.1 h (o,i) be;simp only[Q9,beq_iff_eq]at this;rcases this with((F|F)|F)|F;grind;grind;exact .inr (.inr (.inl (jl F)));exact .inr (.inr (.inr (jl F)))
variable{E:Env}{P:Program}{σ:Sg}{m m':M}{w:World}
def GB{op:Op}{v:Φ}(F:fN op)(h:dI op E call T m=some (v,m')):m'=m:=by cases op <;>simp[fN]at F <;>simp only[dI]at h;(case move=>cases h;rfl);(case assign=>cases h;rfl);(case pick=>unfold rT at h;split at h <;>cases h;rfl);(case build=>unfold tF at h;split at h <;>cases h;rfl);(case nilCheck=>unfold iV at h;split at h <;>cases h <;>rfl);(case binOp=>unfold DO at h;split at h <;>cases h;rfl);(case unOp=>unfold Ml at h;split at h <;>cases h;rfl);(case makeFunc=>unfold jF at h;split at h <;>cases h;rfl);(case fieldAddr=>unfold jM at h;split at h <;>cases h;rfl);(case field=>unfold tE at h;split at h <;>cases h;rfl);(case indexAddr=>unfold jL at h;split at h <;>cases h;rfl);(case index=>unfold tD at h;split at h <;>cases h;rfl);case extract=>unfold ll at h;grind
theorem Bm(hE:E.OK P){call:aF}{T:Tr Φ}{a:Act}{o:Oper}{v:Φ}(hp:fN o.op)(h:dI o.op E call T m=some (v,m'))
  (F:∀x∈o.op.operands.toList,bs σ (ev T x) (a.eval x)):∃v',(execOp a.eval o).run P w=.ok (.value v') w/\bs σ v v':=by have val:∀{s:Sem Φ} {v':Φ},s.run P w=.ok v' w->(do let x<-s;pure (Next.value x):Sem Next).run P w=.ok (.value v') w:=(by simp_all);unfold execOp;cases ho:o.op with|move x=>rw[ho]at h F;cases h;exact⟨_,rfl,F x ft⟩|assign x=>rw[ho]at h F;cases h;exact⟨_,rfl,F x ft⟩|pick c x y=>rw[ho]at h F;dsimp only;simp only[dI,rT]at h;split at h;rename_i t hc;obtain⟨rfl,rfl⟩:=h;have h1:=F c ft;rw[hc]at h1;rw[h1.bool];refine⟨_,rfl,?_⟩;cases t;exact F y ft;exact F x ft;cases h|build t ps=>rw[ho]at h F;simp only[dI,tF]at h;split at h;rename_i z H;cases h;obtain⟨v',h1,h2⟩:=zu (w:=w) hE (T:=ev T) (A:=a.eval) (λp hp=>F p.2 (by simp only[Op.operands];exact FJ hp)) H;grind;cases h|nilCheck x=>rw[ho]at h F;have h1:=F x ft;simp only[dI,iV]at h;split at h;rename_i ad hx;cases h;rw[hx]at h1;have⟨i,hi,_,he⟩:=h1.fW;simp_all;rename_i g a1 b1 hx;cases h;rw[hx]at h1;have⟨a',b',he,_⟩:=h1.Cb;simp_all;cases h|binOp op t x y yt=>rw[ho]at h F;simp only[dI,DO]at h;split at h;rename_i z H;cases h;obtain⟨q1,q2⟩:=Ek (w:=w) hE H (F x ft) (F y ft) x y;exact⟨_,val q1,.flat _ q2⟩;cases h|unOp op t x=>rw[ho]at h F;simp only[dI,Ml]at h;split at h;rename_i z H;cases h;obtain⟨q1,q2⟩:=Gf (P:=P) (w:=w) H (F x ft);exact⟨_,val q1,.flat _ q2⟩;cases h|makeFunc f x y=>rw[ho]at h F;simp only[dI,jF]at h;split at h;rename_i g;cases h;have e1:bL σ (x.toList.map (ev T)) (x.toList.map a.eval):=jQ _ (λo hx=>F o (by simp[Op.operands];exact .inl be));have e2:bL σ (y.toList.map (ev T)) (y.toList.map a.eval):=jQ _ (λo hx=>F o (by simp[Op.operands];exact .inr be));refine⟨_,rfl,?_⟩;refine .func g _ _ _ _ co co (λj u u' p q=>e1.2 j u u' be be) (λj u u' p q=>e2.2 j u u' be be);cases h|fieldAddr s x f=>rw[ho]at h F;simp only[dI,jM]at h;split at h;rename_i z H;cases h;obtain⟨v',q1,q2⟩:=qZ (w:=w) hE H (F x ft);grind;cases h|field t x f=>rw[ho]at h F;simp only[dI,tE]at h;split at h;rename_i z H;cases h;obtain⟨v',q1,q2⟩:=zr (w:=w) hE H (F x ft);grind;cases h|indexAddr t x y=>rw[ho]at h F;simp only[dI,jL]at h;split at h;rename_i z H;cases h;obtain⟨v',q1,q2⟩:=qX (w:=w) hE H (F x ft) (F y ft);grind;cases h|index t x y=>rw[ho]at h F;simp only[dI,tD]at h;split at h;rename_i z H;cases h;obtain⟨v',q1,q2⟩:=zn (w:=w) hE H (F x ft) (F y ft);grind;cases h|extract x i=>rw[ho]at h F;simp only[dI,ll]at h;split at h;rename_i vs hx;split at h;rename_i z H;cases h;have h1:=F x ft;rw[hx]at h1;have⟨b0,he,hl⟩:=h1.xO;have⟨u',hu,hr⟩:=hl.get H;refine⟨u',val ?_,hr⟩;rw[he];have:b0[i]?=some u':=be;simp[Instr.extract,this];cases h;cases h|_=>rw[ho]at hp;simp[fN]at hp
def DStep(E:Env)(call:aF)(ops:Array Oper)(fr:Fr)(o:Oper)(j:Nat)(F:Fr):Prop:=
 (cd ops fr.T o=false/\F={fr with T:=put fr.T o.dst undef})\/
 (cd ops fr.T o=true/\∃v m,dI o.op E call fr.T {fr.m with low:=fr.m.n}=some (v,m)/\(fr.m.n<=m.low\/gj ops j=true\/CZ ops j fr.m fr.T o.op=true)/\
  F={T:=put fr.T o.dst v,m:={m with low:=min fr.m.low m.low}})
theorem Cm{call:aF}{ops:Array Oper}:∀(l:List Oper) (j:Nat) (fr F:Fr),pR E call ops l j fr=some F->
  ∃tr:Nat->Fr,tr j=fr/\tr (j+l.length)=F/\∀i o,l[i]?=some o->DStep E call ops (tr (j+i)) o (j+i) (tr (j+i+1))
 |[],j,fr,F,h=>by simp only[D9,T7]at h;subst h;exact⟨λ_=>fr,rfl,rfl,λi o h=>by simp at h⟩
 |o::l,j,fr,F,h=>by
  have key:∀H,DStep E call ops fr o j H->pR E call ops l (j+1) H=some F->
    ∃tr:Nat->Fr,tr j=fr/\tr (j+(o::l).length)=F/\∀i o',(o::l)[i]?=some o'->DStep E call ops (tr (j+i)) o' (j+i) (tr (j+i+1)):=by
   intro H h1 h2;have⟨tr,t1,t2,t3⟩:=Cm l (j+1) H F h2;refine⟨λk=>if k=j then fr else tr k,co,?_,?_⟩;·grind
   ·intro i o' hi;cases i with
    |zero=>
     grind
    |succ i=>
     grind
  rw[lE]at h;cases hw:cd ops fr.T o with
  |false=>
   rw[hw]at h;exact key _ (.inl ⟨hw,rfl⟩) h
  |true=>
   rw[hw]at h;simp only[gc]at h;cases ho:dI o.op E call fr.T {fr.m with low:=fr.m.n}with
   |none=>rw[ho]at h;cases h
   |some p=>
    have⟨v,m⟩:=p;rw[ho]at h;simp only at h;cases hb:(Nat.ble fr.m.n m.low ||(gj ops j ||CZ ops j fr.m fr.T o.op))with
    |false=>rw[hb]at h;simp at h
    |true=>
     rw[hb]at h;simp only[gc]at h;refine key _ (.inr ⟨hw,v,m,ho,?_,rfl⟩) h;simp only[Q9]at hb;exact hb.imp IG id
end
section
def Sg.cut(σ:Sg)(n:Nat):Sg:=λb=>if b < n then σ b else none
def Sg.dv{i:BI}:(σ.cut n) b=some i↔b<n/\σ b=some i:=by unfold Sg.cut;grind
def Sg.Fy{F:Sg}{k:Nat}(h:σ.le F)(hn:n<=k):(σ.cut n).le (F.cut k):=by intro b i H;rw[Sg.dv]at H⊢;exact⟨ac,h b i H.2⟩
def M.kill(m:M)(l:List Nat):M:={m with st:=l.foldl (λt b=>t.set b .dead) m.st}
theorem Kw:∀(l:List Nat) (t:Tr Ob) (b:Nat),((l.foldl (λt b=>t.set b Ob.dead) t).get b).getD .dead=if b∈l then .dead else(t.get b).getD .dead
 |[],t,b=>co
 |x::l,t,b=>by rw[RG,Kw l,Tr.cF];grind
def M.kD(m:M)(l:List Nat)(b:Nat):(m.kill l).get b=if b∈l then .dead else m.get b:=by rw[M.ig,M.ig];show(if b<m.n then((l.foldl (λt b=>t.set b Ob.dead) m.st).get b).getD .dead else .dead)=_;rw[Kw];grind
theorem M.BP(m:M):m.kill []=m:=rfl
def ED{m0:M}{c:Call}{v:Φ}(F:iM m0 T (.call c)=some b)(h:dI (.call c) E call T m=some (v,m1)):
  ∃f x a,c.callee=.value f/\c.args.toList=[x]/\ev T f=.func (.func CU) #[] #[]/\ev T x=.pointer (some a)/\uD m0 a=some b/\call (.func CU) [.pointer (some a)] m=some (v,m1):=by unfold iM at F;dsimp only at F;split at F;rename_i f x hf hx;split at F;(rename_i g first captured a hg H;rw[cond_eq_ite]at F;split at F);rename_i hc;simp only[De]at hc;have⟨⟨h1,h2⟩,h3⟩:=hc;obtain rfl:=NN h1;(have e2:first= #[]:=be);have e3:captured= #[]:=be;subst e2;subst e3;refine⟨f,x,a,hf,hx,hg,H,F,?_⟩;simp only[dI,nL,hf,hg,hx,Tz,LG,H]at h;grind;grind;grind;grind
def LP{P:Program}(cE:cM P call){T:Tr Φ}{m0 m m1:M}{o:Op}{b:Nat}{v:Φ}(e0:∀a,uD m0 a=uD m a)(H:iM m0 T o=some b)(h:dI o E call T m=some (v,m1))(hb:b<m.n):m1.n=m.n/\∀c,c≠b->m1.get c=m.get c:=by cases o with|store t a x=>unfold iM at H;dsimp only at H;split at H;rename_i ad g0;(cases H;simp only[dI,qm,g0]at h;split at h;rename_i m2 F;(cases h;unfold storeVar at F;split at F;(cases hq:Nat.beq (cells (ev T x)).length _ with|false=>rw[hq]at F;cases F|true=>rw[hq]at F;unfold storeCells at F;split at F;(cases d0:(ad.spot.isNone && Nat.ble (ad.off+(cells (ev T x)).length) _ && (cells (ev T x)).all one)with|false=>rw[d0]at F;cases F|true=>rw[d0]at F;cases F;exact⟨rfl,λc hc=>by rw[M.cF _ _ _ _ hb,Od hc]⟩);grind);grind);cases h);grind|call c=>have⟨f,x,a,_,_,_,_,b0,h0⟩:=ED H h;rw[e0]at b0;obtain⟨_,rfl,_⟩:=cE.Nw a m v m1 b h0 b0;exact⟨rfl,λc hc=>by rw[M.cF _ _ _ _ hb,Od hc]⟩|_=>cases H
section
variable {E:Env} {P:Program} {call:aF} {ops:Array Oper} {nt:Nat} {tr:Nat->Fr}
structure Ctx(E:Env)(P:Program)(call:aF)(ops:Array Oper)(nt:Nat)(tr:Nat->Fr):Prop where
 hE:E.OK P
 cE:cM P call
 ord:Ay ops
 ok:∀o∈ops.toList,fm nt P.globals.size o=true
 step:∀j o,ops[j]?=some o->DStep E call ops (tr j) o j (tr (j+1))
 ghost:∀j,j<=ops.size->∃σ a w,eU P σ (tr j).m w/\dA σ (tr j).T a nt
theorem eU.low{w:World}(h:eU P σ m w)(x:Nat):eU P σ {m with low:=x} w:=⟨h.uv,h.obj,h.lt,h.inj,h.mA⟩
theorem D0(hE:E.OK P)(cE:cM P call)(b0:∀o∈ops.toList,fm nt P.globals.size o)
  (F:∀j o,ops[j]?=some o->DStep E call ops (tr j) o j (tr (j+1))) {σ:Sg} {a:Act} {w:World} (hs:eU P σ (tr 0).m w) (hf:dA σ (tr 0).T a nt):
  ∀j,j<=ops.size->∃σ a w,eU P σ (tr j).m w/\dA σ (tr j).T a nt
 |0,_=>⟨σ,a,w,hs,hf⟩
 |j+1,hj=>by obtain⟨d0,a1,w1,h1,h2⟩:=D0 hE cE b0 F hs hf j ac;have ho:ops[j]?=some ops[j]:=be;have H:=b0 ops[j] co;rcases F j _ ho with⟨_,h⟩|⟨_,v,m,e0,_,h⟩;rw[h];exact⟨d0,a1.put ops[j].dst undef,w1,h1,h2.put (dJ H) bs.undef⟩;rw[h];have⟨σ',w',v',hv,he⟩:=(rS hE cE (h1.low (tr j).m.n) e0 (a:=a1) (λx hx=>h2.By h1 (fj H x hx))).1;exact⟨σ',a1.put ops[j].dst v',w',he.rk.low _,(h2.mono he.ext).put (dJ H) hv⟩
def Wr(E:Env)(call:aF)(ops:Array Oper)(tr:Nat->Fr)(j:Nat):Prop:=
 ∃o v m,ops[j]?=some o/\cd ops (tr j).T o=true/\dI o.op E call (tr j).T {(tr j).m with low:=(tr j).m.n}=some (v,m)/\¬(tr j).m.n<=m.low
def SK(E:Env)(call:aF)(ops:Array Oper)(tr:Nat->Fr)(j:Nat):Prop:=Wr E call ops tr j/\gj ops j=true
def Ax(E:Env)(call:aF)(ops:Array Oper)(tr:Nat->Fr)(j b:Nat):Prop:=
 Wr E call ops tr j/\gj ops j=false/\∃o,ops[j]?=some o/\iM (tr j).m (tr j).T o.op=some b/\qh ops j b (tr j).T=true
def Ctx.wr(c:Ctx E P call ops nt tr){j:Nat}(h:Wr E call ops tr j):SK E call ops tr j\/∃b,Ax E call ops tr j b:=by cases hb:gj ops j with|true=>exact .inl ⟨h,hb⟩|false=>refine .inr ?_;have⟨o,v,m,ho,hw,b0,hn⟩:=id h;rcases c.step j o ho with⟨h0,_⟩|⟨_,v',m',F,H,_⟩;grind;rw[b0]at F;(cases F;rcases H with H|H|H);grind;grind;unfold CZ at H;split at H;rename_i b d0;exact⟨b,h,hb,o,ho,d0,H⟩;cases H
def Wr.lt(h:Wr E call ops tr j):j<ops.size:=by have⟨o,_,_,F,_⟩:=h;grind
def Ax.nS{F:Nat}(h:Ax E call ops tr j b)(H:Ax E call ops tr j F):F=b:=by have⟨_,_,o,ho,hs,_⟩:=h;have⟨_,_,o',b0,d0,_⟩:=H;grind
def Ctx.Wt(c:Ctx E P call ops nt tr){j b:Nat}(h:Ax E call ops tr j b):b<(tr j).m.n:=by
 have⟨⟨o,v,m,ho,hw,b0,hn⟩,_,o',h0,F,_⟩:=h;rw[ho]at h0;cases h0;cases d0:o.op with
 |store t a x=>
  rw[d0]at F b0;unfold iM at F;dsimp only at F;split at F
  ·rename_i ad j0;cases F;simp only[dI,qm,j0]at b0;split at b0
   ·rename_i m2 H;refine Ol λe0=>?_;have hd:({(tr j).m with low:=(tr j).m.n}:M).get ad.block=.dead:=by rw[M.ig,Od e0]
    unfold storeVar at H;split at H
    ·cases hq:Nat.beq (cells (ev (tr j).T x)).length _ with
     |false=>rw[hq]at H;cases H
     |true=>
      rw[hq]at H;unfold storeCells at H;grind
    ·grind
   ·grind
  ·grind
 |call cc=>rw[d0]at F b0;have⟨f,x,a,_,_,_,_,i0,k0⟩:=ED F b0;obtain⟨g0,_⟩:=c.cE.Nw a _ v m b k0 i0;refine Ol λe0=>g0 ?_;rw[M.ig,Od e0]
 |_=>rw[d0]at F;cases F
def Ctx.fact(c:Ctx E P call ops nt tr){j:Nat}{o:Oper}(ho:ops[j]?=some o):(tr j).m.n<=(tr (j+1)).m.n/\(tr (j+1)).m.low<=(tr j).m.low/\
  (∀b,b<(tr (j+1)).m.low->b<(tr j).m.n->(tr (j+1)).m.get b=(tr j).m.get b)/\
  (¬SK E call ops tr j->∀b,b<(tr j).m.n->¬Ax E call ops tr j b->(tr (j+1)).m.get b=(tr j).m.get b):=by have k0:j<ops.size:=(Q7.1 ho).1;have b0:=c.ok o be;rcases c.step j o ho with⟨_,h⟩|⟨hw,v,m,F,hb,h⟩;grind;obtain⟨l0,a1,w1,h1,h2⟩:=c.ghost j ac;have⟨σ',w',v',hv,he⟩:=(rS c.hE c.cE (h1.low (tr j).m.n) F (a:=a1) (λx hx=>h2.By h1 (fj b0 x hx))).1;have hn:=he.Ny;have ha:=he.abs;rw[h];refine⟨hn,Tn _ _,λb hb H=>ha b be H,λn0 b H g0=>?_⟩;by_cases h0:(tr j).m.n<=m.low;exact ha b ac H;have hW:Wr E call ops tr j:=⟨o,v,m,ho,hw,F,h0⟩;rcases c.wr hW with hB|⟨b',hP⟩;grind;have i0:=c.Wt hP;have⟨_,_,o',d0,j0,_⟩:=id hP;rw[ho]at d0;cases d0;have e0:=(LP (m0:=(tr j).m) (m:={(tr j).m with low:=(tr j).m.n}) c.cE (λ_=>rfl) j0 F i0).2 b λe=>g0 (e ▸ hP);exact e0
def Ctx.tS(c:Ctx E P call ops nt tr){j:Nat}{o:Oper}(ho:ops[j]?=some o)(hp:fN o.op):(tr (j+1)).m.n=(tr j).m.n/\¬Wr E call ops tr j:=by constructor;rcases c.step j o ho with⟨_,h⟩|⟨hw,v,m,F,hb,h⟩;rw[h];rw[h,GB hp F];rintro⟨o',v,m,H,_,F,hn⟩;rw[ho]at H;cases H;rw[GB hp F]at hn;grind
def Ctx.bar(c:Ctx E P call ops nt tr){j:Nat}(h:SK E call ops tr j):gj ops j/\j<ops.size:=⟨h.2,h.1.lt⟩
def CI(h:j<ops.size):∃o,ops[j]?=some o:=⟨ops[j],by simp[h]⟩
theorem Ctx.mono(c:Ctx E P call ops nt tr){i:Nat}:∀k,i<=k->k<=ops.size->(tr i).m.n<=(tr k).m.n/\(tr k).m.low<=(tr i).m.low
 |0,h,_=>by grind
 |k+1,h,hk=>by by_cases F:i=k+1;grind;obtain⟨h1,h2⟩:=c.mono (i:=i) k ac ac;obtain⟨o,H⟩:=CI (ops:=ops) (show k<ops.size by omega);have⟨h3,h4,_⟩:=c.fact H;omega
theorem Ctx.pT(c:Ctx E P call ops nt tr){i:Nat}:∀k,i<=k->k<=ops.size->(∀b,i<=b->b<k->¬SK E call ops tr b)->∀x,x<(tr i).m.n->(∀p,i<=p->p<k->¬Ax E call ops tr p x)->(tr k).m.get x=(tr i).m.get x
 |0,h,_,_,x,_,_=>by grind
 |k+1,h,hk,H,x,hx,hp=>by by_cases b0:i=k+1;grind;obtain⟨o,ho⟩:=CI (ops:=ops) (show k<ops.size by omega);have F:=(c.mono k (show i<=k by omega) ac).1;rw[(c.fact ho).2.2.2 (H k (show i<=k by omega) (Oj k)) x (F7 hx F) (hp k ac (Oj k))];exact c.pT k ac ac (λb F h2=>H b F ac) x hx (λp F h2=>hp p F ac)
theorem Ctx.abs(c:Ctx E P call ops nt tr):∀k,k<=ops.size->∀x,x<(tr k).m.low->x<(tr 0).m.n->(tr k).m.get x=(tr 0).m.get x
 |0,_,_,_,_=>rfl
 |k+1,hk,x,F,H=>by obtain⟨o,ho⟩:=CI (ops:=ops) (show k<ops.size by omega);have h1:=(c.mono (i:=0) k ac ac).1;have⟨_,h2,h3,_⟩:=c.fact ho;rw[h3 x F ac];exact c.abs k ac x ac H
def Px(T:Tr Φ){dst:Option Tmp}{t:Tmp}(h:dst≠some t)(v:Φ):je (put T dst v) t=je T t:=by cases dst with|none=>rfl|some d=>rw[CH,Od (λe=>h (by rw[e]))]
theorem Ctx.tW(c:Ctx E P call ops nt tr){i t:Nat}:∀k,i<=k->k<=ops.size->(∀j o,i<=j->j<k->ops[j]?=some o->o.dst≠some t)->je (tr k).T t=je (tr i).T t
 |0,h,_,_=>by grind
 |k+1,h,hk,H=>by by_cases b0:i=k+1;grind;obtain⟨o,ho⟩:=CI (ops:=ops) (show k<ops.size by omega);have F:=H k o ac ac ho;have ih:=c.tW k ac ac (λj o h1 h2=>H j o h1 ac);rw[<-ih];rcases c.step k o ho with⟨_,h⟩|⟨_,v,m,_,_,h⟩;rw[h];exact Px _ F _;rw[h];exact Px _ F _
structure Inv(E:Env)(P:Program)(call:aF)(ops:Array Oper)(nt:Nat)(tr:Nat->Fr)(σ0:Sg)(w0:World)(ds:List Deferred)(L:Nat->Prop)(σ:Sg)(a:Act)(w:World):Prop where
 lt:∀i,L i->i < ops.size
 closed:CS ops L
 Ic:a.tmps.size=nt
 defs:a.defers=ds
 tmp:∀t,t < nt->∃k,k<=ops.size/\bs (σ.cut (tr k).m.n) (je (tr k).T t) (a.eval (.tmp t))/\(∀i o,L i->ops[i]?=some o->o.dst=some t->i < k)/\(k=0\/∃o,L (k-1)/\ops[k-1]?=some o/\o.dst=some t)
 win:∀k l,k<=ops.size->(∀b,SK E call ops tr b->(b < k↔L b))->(∀p b,Ax E call ops tr p b->(p < k↔L p)\/b∈l)->eU P (σ.cut (tr k).m.n) ((tr k).m.kill l) w
 Nw:∀p b,L p->Ax E call ops tr p b->∃i,σ b=some i
 uv:∀b i,σ b=some i->b < (tr 0).m.n\/∃j,L j/\(tr j).m.n<=b/\b < (tr (j+1)).m.n
 base:σ0.le σ
 new:∀b i,σ b=some i->σ0 b=none->(tr 0).m.n<=b/\(w0.heap.size<=i.dK\/∃b0 i0,σ0 b0=some i0/\i0.dK=i.dK/\(tr ops.size).m.low<=b0)
 hle:w0.heap.size<=w.heap.size
 heap:∀B,B < w0.heap.size->(∀b i,σ0 b=some i->i.dK=B->b < (tr ops.size).m.low)->w.heap[B]?=w0.heap[B]?
 os:w.os=w0.os
 tape:w.tape=w0.tape
 output:w.output=w0.output
 mA:∀g,g < P.globals.size->g < (tr 0).m.n/\σ0 g=some ⟨g,none⟩
variable {σ0 σ:Sg} {w0 w:World} {ds:List Deferred} {L:Nat->Prop} {a:Act}
def Inv.names(c:Ctx E P call ops nt tr)(h:Inv E P call ops nt tr σ0 w0 ds L σ a w){j:Nat}{o:Oper}(hj:¬L j)(ho:ops[j]?=some o)(e0:∀e∈o.after,Region.binds .any e->L e.on)
  {t:Nat} (ht:t<nt) (hn:t∈fE ops o):bs (σ.cut (tr j).m.n) (je (tr j).T t) (a.eval (.tmp t)):=by have g0:j<ops.size:=(Q7.1 ho).1;have⟨k,hk,hv,hw,F⟩:=h.tmp t ht;have H:k<=j:=(by rcases F with rfl|⟨o',hL,b0,hd⟩;omega;refine Ol λhc=>?_;have h0:k-1≠j:=λe=>hj (e ▸ hL);rcases c.ord.apart j (k-1) o o' ho b0 ac with hr|⟨h1,_⟩;exact hj (hr.jj h.closed hL);grind);have hT:je (tr j).T t=je (tr k).T t:=c.tW j H ac λi oi h1 h2 d0 hd=>(by rcases c.ord.apart i j oi o d0 ho h2 with hr|⟨_,h3⟩;have:=hr.listed h.closed be;grind;grind);rw[hT];exact hv.mono (Sg.Fy (λ_ _ x=>x) (c.mono j H ac).1)
def Inv.GQ(c:Ctx E P call ops nt tr)(h:Inv E P call ops nt tr σ0 w0 ds L σ a w){j:Nat}{o:Oper}(hj:¬L j)(ho:ops[j]?=some o){v v':Φ}(hT:(tr (j+1)).T=put (tr j).T o.dst v)
  {σ':Sg} (hle:σ.le σ') (hv:bs (σ'.cut (tr (j+1)).m.n) v v'):∀t,t<nt->∃k,k<=ops.size/\bs (σ'.cut (tr k).m.n) (je (tr k).T t) ((a.put o.dst v').eval (.tmp t))/\
   (∀i F,(i=j\/L i)->ops[i]?=some F->F.dst=some t->i<k)/\(k=0\/∃F,(k-1=j\/L (k-1))/\ops[k-1]?=some F/\F.dst=some t):=by intro t ht;have e0:j<ops.size:=(Q7.1 ho).1;by_cases hd:o.dst=some t;refine⟨j+1,ac,?_,?_,.inr ⟨o,.inl rfl,ho,hd⟩⟩;rw[hT,hd,CH,F6 rfl];have:(a.put (some t) v').eval (.tmp t)=v':=(by simp[Act.put,Act.eval,h.Ic,ht]);grind;rintro i F (rfl|hL) b0 d0;omega;refine Ol λhc=>?_;rcases c.ord.apart j i o F ho b0 ac with hr|⟨h1,_⟩;exact hj (hr.jj h.closed hL);exact h1 t d0 (by unfold fE;rw[hd];simp);have⟨k,hk,hv,hw,H⟩:=h.tmp t ht;refine⟨k,hk,?_,?_,H.imp id (λ⟨F,x,y,z⟩=>⟨F,.inr x,y,z⟩)⟩;rw[Act.eval_put be];exact hv.mono (Sg.Fy hle (ID _));grind
end
end
section
variable{E:Env}{P:Program}{call:aF}{ops:Array Oper}{nt:Nat}{tr:Nat->Fr}{σ0 σ:Sg}{w0 w:World}{ds:List Deferred}{L:Nat->Prop}{a:Act}
def put_defers(a:Act)(dst:Option Tmp)(v:Φ):(a.put dst v).defers=a.defers:=by cases dst <;>rfl
def vU(a:Act)(dst:Option Tmp)(v:Φ):(a.put dst v).tmps.size=a.tmps.size:=by cases dst <;>simp[Act.put]
def Inv.zt(h:Inv E P call ops nt tr σ0 w0 ds L σ a w){j:Nat}{o:Oper}(ho:ops[j]?=some o)(H:∀e∈o.after,Region.binds .any e->L e.on):CS ops (λi=>i=j\/L i):=by rintro i o' F (rfl|hL) e he hb;grind;exact .inr (h.closed i o' F hL e he hb)
theorem Inv.same(c:Ctx E P call ops nt tr)(h:Inv E P call ops nt tr σ0 w0 ds L σ a w){j:Nat}{o:Oper}(hj:¬L j)(ho:ops[j]?=some o)(d0:∀e∈o.after,Region.binds .any e->L e.on)
  {v v':Φ} (hT:(tr (j+1)).T=put (tr j).T o.dst v) (F:¬Wr E call ops tr j) (hv:bs (σ.cut (tr (j+1)).m.n) v v'):
  Inv E P call ops nt tr σ0 w0 ds (λi=>i=j\/L i) σ (a.put o.dst v') w where
 lt:=by
  rintro i (rfl|hL);·grind
  ·exact h.lt i hL
 closed:=h.zt ho d0
 Ic:=by rw[vU];exact h.Ic
 defs:=by rw[put_defers];exact h.defs
 tmp:=h.GQ c hj ho hT (λ_ _ x=>x) hv
 win:=λk l hk hw hp=>h.win k l hk (λb H=>(hw b H).trans ⟨λx=>x.resolve_left (λe=>F (e ▸ H.1)),.inr⟩) (λp b b0=>(hp p b b0).imp (λx=>x.trans ⟨λx=>x.resolve_left (λe=>F (e ▸ b0.1)),.inr⟩) id)
 Nw:=by
  rintro p b (rfl|hL) hp;·exact absurd hp.1 F
  ·exact h.Nw p b hL hp
 uv:=λb i F=>(h.uv b i F).imp id λ⟨q,x,y⟩=>⟨q,.inr x,y⟩
 base:=h.base
 new:=h.new
 hle:=h.hle
 heap:=h.heap
 os:=h.os
 tape:=h.tape
 output:=h.output
 mA:=h.mA
def Inv.NK(c:Ctx E P call ops nt tr)(h:Inv E P call ops nt tr σ0 w0 ds L σ a w){j:Nat}{o:Oper}(hj:¬L j)(ho:ops[j]?=some o)(b0:∀e∈o.after,Region.binds .any e->L e.on)
  (hp:fN o.op=false):∀b,SK E call ops tr b->(b<j↔L b):=by intro b hb;have H:=(c.bar hb).1;rcases oY H j o ho with rfl|F|F|F;grind;grind;have:=F.lt c.ord.lt;exact⟨λx=>ac,λx=>absurd (F.jj h.closed x) hj⟩;exact⟨λ_=>F.listed h.closed be,λ_=>F.lt c.ord.lt⟩
def yf{ops:Array Oper}(h:qh ops p b T)(ho:ops[i]?=some o)(hp:fN o.op=false):
  i=p\/Reach ops i p\/Reach ops p i\/(i<p/\((∃t,o.op=.alloc t)\/(∃t x,o.op=.box t x)\/(∃t s,o.op=.load t (.tmp s)/\(∀k q,i<=k->k<p->ops[k]?=some q->q.dst≠some s)/\
   (∀g w d,o.guard=some (g,w)->(ops[g]?).bind (·.dst)=some d->∀k q,i<=k->k<p->ops[k]?=some q->q.dst≠some d)/\(cd ops T o=false\/∃ad,je T s=.pointer (some ad)/\ad.block≠b))\/
   qq o.op\/∃s,lenOf o.op=some s/\(∀k q,i<=k->k<p->ops[k]?=some q->q.dst≠some s)/\∀r,je T s≠.map r)):=by unfold qh at h;have h:=Jo.1 h (o,i) be;have same:∀t,(ops.toList.zipIdx.all λ(q,k)=> !(Nat.ble i k && Nat.blt k p && q.dst==some t))->∀k q,i<=k->k<p->ops[k]?=some q->q.dst≠some t:=(by intro t F k q H h2 hq e;have F:=Jo.1 F (q,k) be;dsimp only at F;rw[kH]at F;simp[Ox H,h2,e]at F);dsimp only at h;simp only[Q9,beq_iff_eq,De,hp]at h;rcases h with(((h|h)|h)|h)|⟨H,h2⟩;grind;cases h;exact .inr (.inl (jl h));exact .inr (.inr (.inl (jl h)));rw[kH]at H;grind
def Ax.ok(h:Ax E call ops tr p b):qh ops p b (tr p).T:=by have⟨_,_,_,_,_,F⟩:=h;exact F
def Wr.op(c:Ctx E P call ops nt tr)(h:Wr E call ops tr j):∃o,ops[j]?=some o/\fN o.op=false:=by have⟨o,v,m,F,hw,H,hn⟩:=id h;refine⟨o,F,?_⟩;cases hp:fN o.op with|false=>rfl|true=>exact absurd h (c.tS F hp).2
theorem Inv.SS(c:Ctx E P call ops nt tr)(h:Inv E P call ops nt tr σ0 w0 ds L σ a w){j:Nat}{o:Oper}(hj:¬L j)(ho:ops[j]?=some o)(i0:∀e∈o.after,Region.binds .any e->L e.on)
  (hp:fN o.op=false):∃l:List Nat,(∀p b,Ax E call ops tr p b->(p<j↔L p)\/b∈l)/\∀b∈l,∃p,L p/\Ax E call ops tr p b/\j<p/\qh ops p b (tr p).T/\¬Reach ops j p/\¬Reach ops p j:=by have key:∀n,∃l:List Nat,(∀p b,p<n->Ax E call ops tr p b->(p<j↔L p)\/b∈l)/\∀b∈l,∃p,L p/\Ax E call ops tr p b/\j<p/\qh ops p b (tr p).T/\¬Reach ops j p/\¬Reach ops p j:=(by intro n;induction n with|zero=>exact⟨[],λp b d0=>ac,λb hb=>by cases hb⟩|succ n ih=>have⟨l,h1,h2⟩:=ih;by_cases hx:∃b,Ax E call ops tr n b/\¬(n<j↔L n);have⟨b,hb,b0⟩:=hx;refine⟨b::l,λp b' d0 F=>?_,λb' F=>?_⟩;by_cases e0:p=n;subst e0;rw[hb.nS F];grind;grind;rcases Qk.1 F with rfl|F;have g0:qh ops n b' (tr n).T:=(by have⟨_,_,_,_,_,hk⟩:=id hb;exact hk);rcases yf g0 ho hp with rfl|H|H|⟨h0,_⟩;grind;exfalso;have:=H.lt c.ord.lt;exact b0 ⟨λx=>ac,λx=>absurd (H.jj h.closed x) hj⟩;exfalso;have:=H.lt c.ord.lt;exact b0 ⟨λ_=>H.listed h.closed be,λ_=>this⟩;have hL:L n:=Ol λhc=>b0 ⟨λx=>ac,λx=>absurd x hc⟩;refine⟨n,hL,hb,h0,g0,λH=>hj (H.jj h.closed hL),λH=>?_⟩;have:=H.lt c.ord.lt;omega;grind;refine⟨l,λp b' d0 F=>?_,h2⟩;grind);have⟨l,h1,h2⟩:=key ops.size;exact⟨l,λp b hb=>h1 p b hb.1.lt hb,h2⟩
theorem Inv.effect(c:Ctx E P call ops nt tr)(h:Inv E P call ops nt tr σ0 w0 ds L σ a w){j:Nat}{o:Oper}(hj:¬L j)(ho:ops[j]?=some o)(l1:∀e∈o.after,Region.binds .any e->L e.on)
  (hp:fN o.op=false) {v v':Φ} {m mk:M} {lk:List Nat} {τ:Sg} {w':World} (c2:mk.n=m.n) (G2:mk.low=m.low) (o1:∀b,b∉lk\/(tr j).m.n<=b->mk.get b=m.get b)
  (d2:∀p b,Ax E call ops tr p b->(p<j↔L p)\/b∈lk)
  (d0:Ev P (σ.cut (tr j).m.n) {(tr j).m.kill lk with low:=(tr j).m.n} w τ mk w') (hv:bs τ v v')
  (d1:tr (j+1)={T:=put (tr j).T o.dst v,m:={m with low:=min (tr j).m.low m.low}}) (hq:((tr j).m.n<=m.low/\¬Wr E call ops tr j)\/(Wr E call ops tr j/\lk=[]))
  (p1:∀b,Ax E call ops tr j b->(tr j).m.get b≠.dead/\∃i,σ b=some i/\∀B,B≠i.dK->w'.heap[B]?=w.heap[B]?):
  ∃σ',Inv E P call ops nt tr σ0 w0 ds (λi=>i=j\/L i) σ' (a.put o.dst v') w':=by
 have M2:j<ops.size:=(Q7.1 ho).1;have O2:(tr (j+1)).m.n=m.n:=by rw[d1]
 have r1:∀b,(tr (j+1)).m.get b=m.get b:=by intro b;rw[d1];rfl
 have e2:(tr (j+1)).m.low<=m.low:=be
 have hN:=(c.mono (i:=j+1) ops.size ac (ID _)).2;have z2:(tr j).m.n<=m.n:=by have:=d0.Ny;rw[c2]at this;exact this
 have g2:∀b i,σ b=some i->¬((tr j).m.n<=b/\b<m.n):=by
  rintro b i F ⟨h1,h2⟩;rcases h.uv b i F with h3|⟨q,O0,h3,h4⟩;·have:=(c.mono (i:=0) j ac ac).1;omega
  have u1:=h.lt q O0;rcases YY q j with i2|rfl|i2;·have:=(c.mono (i:=q+1) j ac ac).1;omega
  ·grind
  have:=(c.mono (i:=j+1) q ac ac).1;omega
 have P2:∀b i,τ b=some i->b<(tr j).m.n->σ b=some i:=by
  intro b i F j2;cases hs:(σ.cut (tr j).m.n) b with
  |some i'=>have:=d0.ext b i' hs;rw[F]at this;cases this;exact(Sg.dv.1 hs).2
  |none=>have h0:=(d0.new b i F hs).1;have h0:(tr j).m.n<=b:=h0;omega
 have v1:∀b i,τ b=some i->b<m.n:=λb i F=>by have:=d0.rk.uv b i F;omega
 let σ':Sg:=λb=>if(tr j).m.n<=b/\b<m.n then τ b else σ b
 have hle:σ.le σ':=by
  intro b i F;grind
 have p0:∀k,m.n<=k->τ.le (σ'.cut k):=by
  intro k hk b i F;have j2:=v1 b i F;rw[Sg.dv];grind
 have s0:∀b i,σ' b=some i->(((tr j).m.n<=b/\b<m.n)/\τ b=some i)\/(¬((tr j).m.n<=b/\b<m.n)/\σ b=some i):=by
  grind
 have k2:=h.NK c hj ho l1 hp;have hs:=d0.rk;refine⟨σ',?_⟩;constructor
 ·rintro i (rfl|hL);·grind
  exact h.lt i hL
 ·exact h.zt ho l1
 ·rw[vU];exact h.Ic
 ·rw[put_defers];exact h.defs
 ·exact h.GQ c hj ho (by rw[d1]) hle (hv.mono be)
 ·
  intro k l hk hw w1;by_cases A0:Wr E call ops tr j
  ·
   obtain rfl:lk=[]:=(hq.resolve_left λx=>x.2 A0).2;have y1:∀b,mk.get b=m.get b:=λb=>o1 b (.inl co);have l2:∀p b,Ax E call ops tr p b->(p<j↔L p):=λp b F=>(d2 p b F).resolve_right co;have c1:∀b i,σ b=some i->b<(tr j).m.n:=by
    intro b i F;rcases h.uv b i F with h3|⟨q,O0,h3,h4⟩;·have:=(c.mono (i:=0) j ac ac).1;omega
    ·have u1:=h.lt q O0;have⟨oq,e1⟩:=CI (ops:=ops) u1;have before:Reach ops q j->b<(tr j).m.n:=λh5=>by have:=h5.lt c.ord.lt;have:=(c.mono (i:=q+1) j ac ac).1;omega
     cases A1:fN oq.op with
     |true=>have:=(c.tS e1 A1).1;omega
     |false=>
      rcases c.wr A0 with B1|⟨b0,u0⟩
      ·rcases oY B1.2 q oq e1 with rfl|h5|h5|h5;·grind
       ·grind
       ·grind
       exact absurd (h5.jj h.closed O0) hj
      rcases yf (Ax.ok u0) e1 A1 with rfl|h5|h5|⟨h5,_⟩;·grind
      ·grind
      ·exact absurd (h5.jj h.closed O0) hj
      have:=(c.mono (i:=q+1) j ac ac).1;omega
   by_cases l0:j<k
   ·have G1:∀b,j+1<=b->b<k->¬SK E call ops tr b:=by
     grind
    have H1:∀p x,j+1<=p->p<k->Ax E call ops tr p x->x∈l:=by
     grind
    have K1:=(c.mono (i:=j+1) k ac hk).1;have heq:∀b i,(σ'.cut (tr k).m.n) b=some i->τ b=some i:=by
     intro b i F;rw[Sg.dv]at F;rcases s0 b i F.2 with⟨_,h1⟩|⟨_,h1⟩;·exact h1
     exact d0.ext b i (Sg.dv.2 ⟨c1 b i h1,h1⟩)
    have q0:∀b i,τ b=some i->b∉l->(tr k).m.get b=mk.get b:=by intro b i F H;rw[c.pT k (show j+1<=k by omega) hk G1 b be (λp h1 h2 h3=>H (H1 p b h1 h2 h3)),r1,y1]
    refine⟨λb i F=>(Sg.dv.1 F).1,λb i F=>?_,λb i F=>hs.lt b i (heq b i F),λb b' i i' F g0 hd e0=>?_,λg hg=>p0 _ ac g _ (hs.mA g hg)⟩
    ·rw[M.kD];by_cases H:b∈l;·rw[F6 H];trivial
     rw[Od H,q0 b i (heq b i F) H];exact(hs.obj b i (heq b i F)).aY (p0 _ ac) rfl
    rw[M.kD]at hd e0;by_cases H:b∈l;·grind
    by_cases n0:b'∈l;·grind
    rw[Od H,q0 b i (heq b i F) H]at hd;rw[Od n0,q0 b' i' (heq b' i' g0) n0]at e0;exact hs.inj b b' i i' (heq b i F) (heq b' i' g0) hd e0
   ·
    have P0:¬SK E call ops tr j:=λF=>l0 ((hw j F).2 (.inl rfl));obtain⟨b0,u0⟩:=(c.wr A0).resolve_left P0;have A2:b0∈l:=(w1 j b0 u0).resolve_left λx=>l0 (x.2 (.inl rfl));have⟨o2,i0,O1,u2⟩:=p1 b0 u0;have g1:∀b,SK E call ops tr b->(b<k↔L b):=λb F=>(hw b F).trans ⟨λx=>x.resolve_left (λe=>P0 (e ▸ F)),.inr⟩;have a1:∀p b,Ax E call ops tr p b->(p<k↔L p)\/b∈l:=by
     grind
    have hA:=h.win k l hk g1 a1;have hJ:=h.win j [] ac k2 (λp b F=> .inl (l2 p b F));have K1:=(c.mono (i:=k) j ac ac).1;have T1:∀b,b<(tr k).m.n->b∉l->(tr j).m.get b=(tr k).m.get b:=by
     intro b F H;refine c.pT j ac ac (λq h1 h2 h3=>?_) b F (λp h1 h2 h3=>H ?_);·grind
     ·grind
    have o0:(σ.cut (tr k).m.n).le (σ'.cut (tr k).m.n):=Sg.Fy hle (ID _);have j0:∀b i,(σ'.cut (tr k).m.n) b=some i->(σ.cut (tr k).m.n) b=some i:=by
     intro b i F;rw[Sg.dv]at F⊢;grind
    have v2:∀b i,(σ.cut (tr k).m.n) b=some i->b∉l->(tr k).m.get b≠.dead->i.dK≠i0.dK:=by
     intro b i F H hd he;have a2:=Sg.dv.1 F;have w2:b<(tr j).m.n:=ac
     have:=hJ.inj b b0 i i0 (Sg.dv.2 ⟨w2,a2.2⟩) (Sg.dv.2 ⟨c1 b0 i0 O1,O1⟩) (by rw[M.BP,T1 b a2.1 H];exact hd) (by rw[M.BP];exact o2) he;grind
    refine⟨λb i F=>(Sg.dv.1 F).1,λb i F=>?_,λb i F=>?_,λb b' i i' F g0 hd e0 he=>hA.inj b b' i i' (j0 b i F) (j0 b' i' g0) hd e0 he,λg hg=>o0 g _ (hA.mA g hg)⟩
    ·have g0:=j0 b i F;have j1:=hA.obj b i g0;rw[M.kD]at j1⊢;by_cases H:b∈l;·rw[F6 H];trivial
     rw[Od H]at j1⊢;by_cases hd:(tr k).m.get b=.dead;·rw[hd];trivial
     exact j1.aY o0 (u2 _ (v2 b i g0 H hd))
    ·have:=hA.lt b i (j0 b i F);have:=d0.hle;omega
  ·
   have Q2:(tr j).m.n<=m.low:=(hq.resolve_right (λx=>A0 x.1)).1;have g1:∀b,SK E call ops tr b->(b<k↔L b):=λb F=>(hw b F).trans ⟨λx=>x.resolve_left (λe=>A0 (e ▸ F.1)),.inr⟩;have a1:∀p b,Ax E call ops tr p b->(p<k↔L p)\/b∈l:=λp b F=>(w1 p b F).imp (λx=>x.trans ⟨λy=>y.resolve_left (λe=>A0 (e ▸ F.1)),.inr⟩) id;have hA:=h.win k l hk g1 a1;have k1:∀B,B<w.heap.size->w'.heap[B]?=w.heap[B]?:=λB hB=>d0.heap B hB λb i F _=>by have:=(Sg.dv.1 F).1;omega
   have o0:(σ.cut (tr k).m.n).le (σ'.cut (tr k).m.n):=Sg.Fy hle (ID _);have k0:∀b i,(σ'.cut (tr k).m.n) b=some i->(((tr j).m.n<=b/\b<m.n)/\τ b=some i/\j<k)\/(σ.cut (tr k).m.n) b=some i:=by
    intro b i F;rw[Sg.dv]at F;rcases s0 b i F.2 with⟨h1,h2⟩|⟨_,h2⟩;·refine .inl ⟨h1,h2,?_⟩;refine Ol λhc=>?_;have:=(c.mono (i:=k) j ac ac).1;omega
    exact .inr (Sg.dv.2 ⟨F.1,h2⟩)
   have q0:j<k->∀b,(tr j).m.n<=b->b<m.n->b∉l->(tr k).m.get b=mk.get b:=by
    intro l0 b y2 F H
    rw[c.pT k (show j+1<=k by omega) hk (λb h1 h2 h3=>by
     grind) b be (λp h1 h2 h3=>by
      rcases a1 p b h3 with h4|h4
      ·have⟨i,hi⟩:=h.Nw p b (h4.1 h2) h3;grind
      ·grind),r1,o1 b (.inr y2)]
   have y0:∀b i,(tr j).m.n<=b->τ b=some i->w.heap.size<=i.dK:=by
    intro b i h1 h2;have r0:(σ.cut (tr j).m.n) b=none:=by
     cases hx:(σ.cut (tr j).m.n) b with
     |none=>rfl
     |some i'=>have:=(Sg.dv.1 hx).1;omega
    rcases(d0.new b i h2 r0).2 with h3|⟨b0,i0,h3,_,h5⟩;·exact h3
    have:=(Sg.dv.1 h3).1;omega
   refine⟨λb i F=>(Sg.dv.1 F).1,λb i F=>?_,λb i F=>?_,λb b' i i' F g0 hd e0 he=>?_,λg hg=>o0 g _ (hA.mA g hg)⟩
   ·rcases k0 b i F with⟨h1,h2,l0⟩|h1
    ·rw[M.kD];by_cases H:b∈l;·rw[F6 H];trivial
     rw[Od H,q0 l0 b h1.1 h1.2 H];have K1:=(c.mono (i:=j+1) k ac hk).1;exact(hs.obj b i h2).aY (p0 _ ac) rfl
    exact(hA.obj b i h1).aY o0 (k1 _ (hA.lt b i h1))
   ·rcases k0 b i F with⟨_,h2,_⟩|h1;·exact hs.lt b i h2
    ·have:=hA.lt b i h1;grind
   ·rcases k0 b i F with⟨h1,h2,l0⟩|h1 <;>rcases k0 b' i' g0 with⟨B0,b2,B2⟩|B0
    ·rw[M.kD]at hd e0;by_cases H:b∈l;·grind
     by_cases n0:b'∈l;·grind
     rw[Od H,q0 l0 b h1.1 h1.2 H]at hd;rw[Od n0,q0 l0 b' B0.1 B0.2 n0]at e0;exact hs.inj b b' i i' h2 b2 hd e0 he
    ·have:=y0 b i h1.1 h2;have:=hA.lt b' i' B0;omega
    ·have:=y0 b' i' B0.1 b2;have:=hA.lt b i h1;omega
    exact hA.inj b b' i i' h1 B0 hd e0 he
 ·
  rintro p b (rfl|hL) F;·grind
  ·have⟨i,hi⟩:=h.Nw p b hL F;grind
 ·intro b i F;rcases s0 b i F with⟨h1,_⟩|⟨_,h1⟩;·grind
  exact(h.uv b i h1).imp id λ⟨q,x,y⟩=>⟨q,.inr x,y⟩
 ·exact λb i F=>hle b i (h.base b i F)
 ·intro b i F h0;rcases s0 b i F with⟨h1,h2⟩|⟨_,h2⟩
  ·have r0:(σ.cut (tr j).m.n) b=none:=by
    cases hx:(σ.cut (tr j).m.n) b with
    |none=>rfl
    |some i'=>have:=(Sg.dv.1 hx).1;omega
   have T2:=(c.mono (i:=0) j ac ac).1;refine⟨ac,?_⟩;have hh:=h.hle;rcases(d0.new b i h2 r0).2 with h3|⟨b0,i0,h3,h4,h5⟩;·grind
   ·have h3:=(Sg.dv.1 h3).2;cases Q0:σ0 b0 with
    |some i1=>
     have:=h.base b0 i1 Q0;grind
    |none=>
     rcases(h.new b0 i0 h3 Q0).2 with h6|⟨b1,i1,h6,h7,h8⟩;·grind
     ·grind
  exact h.new b i h2 h0
 ·have:=h.hle;have:=d0.hle;omega
 ·intro B hB hc;have hh:=h.hle;rw[<-h.heap B hB hc];refine d0.heap B ac λb i F he=>?_;have F:=(Sg.dv.1 F).2;cases Q0:σ0 b with
  |some i1=>
   have:=h.base b i1 Q0;grind
  |none=>
   rcases(h.new b i F Q0).2 with h6|⟨b1,i1,h6,h7,h8⟩;·omega
   ·grind
 ·exact d0.os.trans h.os
 ·exact d0.tape.trans h.tape
 ·exact d0.output.trans h.output
 exact h.mA
end
section
def Sg.Fz(h:∀b i,σ b=some i->b<n):σ.cut n=σ:=by funext b;unfold Sg.cut;by_cases F:b<n;grind;rw[Od F];cases H:σ b with|none=>rfl|some i=>exact absurd (h b i H) F
def HZ(l:Array Bool):Nat->Nat
 |0=>0
 |k+1=>HZ l k+(if l.getD k false=true then 0 else 1)
theorem AN{l:Array Bool}:∀{k:Nat},HZ l k=0->∀i,i<k->l.getD i false=true
 |k+1,h,i,hi=>by unfold HZ at h;by_cases H:l.getD k false=true;by_cases F:i=k;grind;exact AN (k:=k) ac i ac;grind
def wM(l:Array Bool){j:Nat}(F:j<l.size)(i:Nat):(l.setIfInBounds j true).getD i false↔i=j\/l.getD i false:=by rw[Z0,Z0,M7];grind
theorem Et{l:Array Bool}{j:Nat}(F:j<l.size)(H:¬l.getD j false=true):∀k,HZ (l.setIfInBounds j true) k+(if j<k then 1 else 0)=HZ l k
 |0=>by simp[HZ]
 |k+1=>by have ih:=Et F H k;have hs:=wM l F k;unfold HZ;grind
def G6{F:Addr}(h:m'.get F.block=m.get F.block):loadVar E m' t F=loadVar E m t F:=by unfold loadVar D.loadCells D.cellAt;rw[h]
def Qh{b:Builtin}{v:Φ}(H:b=.min\/b=.max)(h:aR E m b ts args=some (v,m1)):m1=m/\∀m2,aR E m2 b ts args=some (v,m2):=by rcases H with rfl|rfl;have h:(eh (λx y=>if y<x then y else x) args).map (·,m)=some (v,m1):=h;(cases F:eh (λx y=>if y<x then y else x) args with|none=>rw[F]at h;cases h|some w=>rw[F]at h;cases h;exact⟨rfl,λm2=>by show(eh (λx y=>if y<x then y else x) args).map (·,m2)=_;rw[F];rfl⟩);have h:(eh (λx y=>if y >x then y else x) args).map (·,m)=some (v,m1):=h;cases F:eh (λx y=>if y >x then y else x) args with|none=>rw[F]at h;cases h|some w=>rw[F]at h;cases h;exact⟨rfl,λm2=>by show(eh (λx y=>if y >x then y else x) args).map (·,m2)=_;rw[F];rfl⟩
def adO{v:Φ}(H:∀r,x≠.map r)(h:aR E m .len ts [x]=some (v,m1)):m1=m/\∀m2,aR E m2 .len ts [x]=some (v,m2):=by match ts,h with|[],h=>cases h|t::_::_,h=>cases h|[t],h=>have h:(qz E m t x).map (·,m)=some (v,m1):=h;have e:∀m2,qz E m2 t x=qz E m t x:=(by intro m2;unfold qz;cases E.ty.get t with|none=>rfl|some ti=>grind);cases F:qz E m t x with|none=>rw[F]at h;cases h|some w=>rw[F]at h;cases h;exact⟨rfl,λm2=>by show(qz E m2 t x).map (·,m2)=_;rw[e,F];rfl⟩
def abS{o:Op}{v:Φ}{lk:List Nat}{x:Nat}(h:dI o E call T {m with low:=x}=some (v,m1))
  (hk:∀b∈lk,(∃t,o=.alloc t)\/(∃t y,o=.box t y)\/(∃t s ad,o=.load t (.tmp s)/\je T s=.pointer (some ad)/\ad.block≠b)\/qq o\/∃s,lenOf o=some s/\∀r,je T s≠.map r):
  ∃mk,dI o E call T {m.kill lk with low:=x}=some (v,mk)/\mk.n=m1.n/\mk.low=m1.low/\∀b,b∉lk\/m.n<=b->mk.get b=m1.get b:=by cases lk with|nil=>exact⟨m1,h,rfl,rfl,λ_ _=>rfl⟩|cons b0 r=>have H:∀(o:Ob) b,b∉b0::r\/m.n<=b->(({m.kill (b0::r)with low:=x}:M).push o).get b=(({m with low:=x}:M).push o).get b:=(by intro o b hb;rw[M.kC,M.kC];show(if b=m.n then o else(m.kill (b0::r)).get b)=if b=m.n then o else m.get b;rw[M.kD];by_cases h1:b=m.n;grind;rw[Od h1,Od h1];rcases hb with hb|hb;grind;have:m.get b=.dead:=(by rw[M.ig,Od ac]);grind);have d0:∀b,b∉b0::r\/m.n<=b->({m.kill (b0::r)with low:=x}:M).get b=({m with low:=x}:M).get b:=(by intro b hb;show(m.kill (b0::r)).get b=m.get b;rw[M.kD];rcases hb with hb|hb;grind;have:m.get b=.dead:=(by rw[M.ig,Od ac]);grind);rcases hk b0 F3 with⟨t,rfl⟩|⟨t,y,rfl⟩|⟨t,s,ad,rfl,hs,_⟩|e0|⟨s,F,g0⟩;simp only[dI,wi]at h⊢;(cases hz:gW E t with|none=>rw[hz]at h;cases h|some z=>rw[hz]at h;cases h;exact⟨_,rfl,rfl,rfl,H _⟩);simp only[dI,PV]at h⊢;cases h;exact⟨_,rfl,rfl,rfl,H _⟩;have hn:ad.block∉b0::r:=(by intro hm;rcases hk _ hm with⟨t',h'⟩|⟨t',y,h'⟩|⟨t',s',j0,h',k0,l0⟩|h'|⟨_,h',_⟩;cases h';cases h';grind;cases h';cases h');have h0:ev T (.tmp s)=.pointer (some ad):=hs;simp only[dI,uP,h0]at h⊢;have hl:loadVar E {m.kill (b0::r)with low:=x} t ad=loadVar E {m with low:=x} t ad:=G6 (by grind);rw[hl];(cases hz:loadVar E {m with low:=x} t ad with|none=>rw[hz]at h;cases h|some z=>rw[hz]at h;cases h;refine⟨_,rfl,rfl,rfl,λb hb=>?_⟩;grind);obtain⟨c,rfl⟩:∃c,o=.call c:=(by cases o <;>first|exact⟨_,rfl⟩|cases e0);have hb:c.callee=.builtin .min\/c.callee=.builtin .max:=(by unfold qq at e0;grind);obtain⟨bb,i0,hc⟩:∃bb,(bb=.min\/bb=.max)/\c.callee=.builtin bb:=(by grind);simp only[dI,nL,hc]at h⊢;obtain⟨rfl,hw⟩:=Qh i0 h;exact⟨_,hw _,rfl,rfl,d0⟩;obtain⟨c,rfl⟩:∃c,o=.call c:=(by cases o <;>first|exact⟨_,rfl⟩|cases F);unfold lenOf at F;dsimp only at F;split at F;rename_i hc;split at F;rename_i t ha;cases F;simp only[dI,nL,hc,ha]at h⊢;obtain⟨rfl,hw⟩:=adO (x:=je T s) g0 h;exact⟨_,hw _,rfl,rfl,d0⟩;grind;grind
def Es{F:Tr Φ}(h:∀g w d,o.guard=some (g,w)->(ops[g]?).bind (·.dst)=some d->je F d=je T d):cd ops F o=cd ops T o:=by unfold cd;cases H:o.guard with|none=>rfl|some p=>have⟨g,w⟩:=p;simp only[Jk];cases hd:(ops[g]?).bind (·.dst)with|none=>rfl|some d=>dsimp only;rw[h g w d H hd]
def CX{F:Addr}{v:Φ}(h:storeVar E m t F v=some m'):m.get F.block≠.dead:=by unfold storeVar at h;split at h;(cases H:Nat.beq (cells v).length _ with|false=>rw[H]at h;cases h|true=>rw[H]at h;unfold D.storeCells at h;grind);cases h
variable{E:Env}{P:Program}{call:aF}{ops:Array Oper}{nt:Nat}{tr:Nat->Fr}{σ0 σ:Sg}{w0 w:World}{ds:List Deferred}{L:Nat->Prop}{a:Act}{ro:Option Nat}{n:Nat}{Q:Exit->Act->World->Prop}
theorem Inv.step(c:Ctx E P call ops nt tr)(h:Inv E P call ops nt tr σ0 w0 ds L σ a w){j:Nat}{o:Oper}(hj:¬L j)(ho:ops[j]?=some o)(g0:∀e∈o.after,Region.binds .any e->L e.on)
  {K:Act->World->Prop} (hK:∀σ' a' w',Inv E P call ops nt tr σ0 w0 ds (λi=>i=j\/L i) σ' a' w'->K a' w'):wpOpIn (dG ro) n P ops Q j K a w:=by
 have T1:j<ops.size:=(Q7.1 ho).1;have A0:=c.ok o be;have d0:∀t,t<nt->t∈fE ops o->bs (σ.cut (tr j).m.n) (je (tr j).T t) (a.eval (.tmp t)):=λt ht hn=>h.names c hj ho g0 ht hn;have hw:cd ops (tr j).T o=Region.wanted o (yielded ops a.tmps):=(by refine pZ (σ:=σ.cut (tr j).m.n) λq want d hg hd=>?_;have a2:=hd;simp only[YZ]at hd;have⟨o',p0,p1⟩:=hd;have a1:=dJ (c.ok o' be) d p1;refine⟨by rw[h.Ic];exact a1,d0 d a1 ?_⟩;unfold fE;grind);unfold wpOpIn;rw[ho];dsimp only;rw[<-hw];rcases c.step j o ho with⟨s0,l0⟩|⟨s0,v,m,H,hb,l0⟩;rw[s0,Od co];refine⟨λ_ _=>trivial,hK σ _ w (h.same c hj ho g0 (v:=undef) (by rw[l0]) ?_ bs.undef)⟩;rintro⟨o',v,m,p0,b2,_⟩;grind
 (·rw[s0,F6 rfl];refine⟨λ_ _=>trivial,?_⟩;rw[Oper.semAt_eq _ _ _ (λc hc=>by rw[hc]at H;simp[dI]at H)];cases hp:fN o.op with|true=>have F:∀x∈o.op.operands.toList,bs (σ.cut (tr j).m.n) (ev (tr j).T x) (a.eval x):=(by intro x hx;have n0:=fj A0 x hx;cases x with|tmp t=>exact d0 t (qp n0) (by unfold fE;simp only[HN];exact .inr (.inl (E0.2 ⟨.tmp t,hx,rfl⟩)))|const v=>exact .lY n0|global g=>have hg:g<P.globals.size:=(by have h:Nat.blt g P.globals.size:=n0;simp_all);have⟨h1,h2⟩:=h.mA g hg;have h3:=(c.mono (i:=0) j ac ac).1;exact .ptr ⟨g,0,none⟩ ⟨g,none⟩ (Sg.dv.2 ⟨be,h.base g _ h2⟩) rfl|func f=>exact .flat _ rfl);have⟨v',hr,hv⟩:=Bm (w:=w) c.hE hp H F;rw[hr];refine hK σ _ w (h.same c hj ho g0 (v:=v) (by rw[l0]) (c.tS ho hp).2 ?_);rw[(c.tS ho hp).1];exact hv|false=>have⟨lk,j0,B0⟩:=h.SS c hj ho g0 hp;have k0:=h.win j lk ac (h.NK c hj ho g0 hp) j0;have F:∀x∈o.op.operands.toList,bs (σ.cut (tr j).m.n) (ev (tr j).T x) (a.eval x):=(by intro x hx;have n0:=fj A0 x hx;exact Cf k0 (λt ht=>by subst ht;exact d0 t (qp n0) (by unfold fE;simp only[HN];exact .inr (.inl (E0.2 ⟨.tmp t,hx,rfl⟩)))) n0);have i0:∀b∈lk,(∃t,o.op=.alloc t)\/(∃t y,o.op=.box t y)\/(∃t s ad,o.op=.load t (.tmp s)/\je (tr j).T s=.pointer (some ad)/\ad.block≠b)\/qq o.op\/∃s,lenOf o.op=some s/\∀r,je (tr j).T s≠.map r:=(by intro b hb;have⟨p,hL,q0,r1,b1,u1,v1⟩:=B0 b hb;have c2:=q0.1.lt;rcases yf b1 ho hp with rfl|hr|hr|⟨_,h4⟩;omega;grind;grind;(·rcases h4 with h4|h4|⟨t,s,h4,h5,h6,h7⟩|h4|⟨s,h4,h5,h6⟩;grind;grind;rotate_left;grind;have hT:je (tr p).T s=je (tr j).T s:=c.tW p ac ac λq oq h1 h2 hq=>h5 q oq h1 h2 hq;grind;refine .inr (.inr (.inl ⟨t,s,?_⟩));have hT:je (tr p).T s=je (tr j).T s:=c.tW p ac ac λq oq h1 h2 hq=>h5 q oq h1 h2 hq;have hW:cd ops (tr p).T o=cd ops (tr j).T o:=Es λg w d hg hd=>c.tW p ac ac λq oq h1 h2 hq=>h6 g w d hg hd q oq h1 h2 hq;grind));by_cases P0:∃b0,Ax E call ops tr j b0;have⟨b0,r0⟩:=P0;have⟨_,_,o',p0,e0,_⟩:=id r0;rw[ho]at p0;(cases p0;cases h0:o.op with|store t x y=>rw[h0]at e0;unfold iM at e0;dsimp only at e0;split at e0;rename_i ad u0;(cases e0;obtain rfl:lk=[]:=by refine Nq.2 λb hb=>?_;rcases i0 b hb with⟨_,h'⟩|⟨_,_,h'⟩|⟨_,_,_,h',_⟩|h'|⟨_,h',_⟩ <;>rw[h0]at h' <;>cases h');rw[h0]at H F;simp only[dI,qm,u0]at H;split at H;rename_i m2 hz;cases H;have hx:=F x ft;rw[u0]at hx;have⟨i,hi,_,he⟩:=hx.fW;obtain⟨w',q1,q2,_,q4⟩:=rE c.hE (k0.low (tr j).m.n) hi (F y ft) hz;have hr:(Instr.storeAt t (a.eval x) (a.eval y)).run P w=.ok () w':=(by rw[he];simpa[Instr.storeAt,Instr.sureAddr]using q1);have o0:Wr E call ops tr j:=r0.1;obtain⟨σ',hI⟩:=h.effect c (v':=undef) (mk:=m) (lk:=[]) hj ho g0 hp rfl rfl (λ_ _=>rfl) j0 q2 bs.undef l0 (.inr ⟨o0,rfl⟩) (λb hb=>by have:=r0.nS hb;subst this;exact⟨λhd=>CX hz hd,i,(Sg.dv.1 hi).2,q4⟩);unfold execOp;rw[h0];simp only[Na,hr,S4,SZ];exact hK σ' _ w' hI;grind;grind|call cc=>rw[h0]at e0 H F;have⟨f,x,ad,y0,c1,w1,hex,d1,y1⟩:=ED e0 H;obtain rfl:lk=[]:=(by refine Nq.2 λb hb=>?_;rcases i0 b hb with⟨_,h'⟩|⟨_,_,h'⟩|⟨_,_,_,h',_⟩|h'|⟨_,h',_⟩ <;>rw[h0]at h';cases h';cases h';cases h';simp[qq,y0]at h';simp[lenOf,y0]at h');obtain⟨Q0,d2,e1⟩:=c.cE.Nw ad _ v m b0 y1 d1;have g1:=F x (by simp[Op.operands,Call.operands];exact .inr (by rw[<-Array.mem_toList_iff,c1];simp));rw[hex]at g1;have i1:=F f (by simp[Op.operands,Call.operands,y0]);rw[w1]at i1;have A1:a.eval f=.func (.func CU) #[] #[]:=(by exact i1.bK rfl);obtain⟨i,hi,B1,j1⟩:=e1 _ w #[a.eval x] ((k0.low (tr j).m.n)) (.cons g1 .nil);have o0:Wr E call ops tr j:=r0.1;unfold execOp;rw[h0];have G1:cc.args.map a.eval= #[a.eval x]:=(by apply UF;simp[c1]);simp only[resolve,y0,A1,Deferred.ofValue,Na,SZ,S4,invoke,G1,Array.empty_append,Array.append_empty,j1];refine Jb B1 ro n o a K Q λe w' he=>?_;obtain⟨⟨v',e2,rfl,hv,u0⟩,k1⟩:=he;obtain⟨σ',hI⟩:=h.effect c (v':=v') (mk:=m) (lk:=[]) hj ho g0 hp rfl rfl (λ_ _=>rfl) j0 u0 hv l0 (.inr ⟨o0,rfl⟩) (λb hb=>by have:=r0.nS hb;subst this;exact⟨Q0,i,(Sg.dv.1 hi).2,k1⟩);grind|_=>rw[h0]at e0;cases e0);obtain⟨mk,l1,H1,K1,O1⟩:=abS H i0;refine(rS c.hE c.cE (k0.low (tr j).m.n) l1 F).2 ro n o a K Q λτ w' v' hv he=>?_;obtain⟨σ',hI⟩:=h.effect c hj ho g0 hp H1 K1 O1 j0 he hv l0 (by by_cases hq:(tr j).m.n<=m.low;refine .inl ⟨hq,?_⟩;rintro⟨o',v',m',p0,_,O0,hn⟩;grind;have o0:Wr E call ops tr j:=⟨o,v,m,ho,s0,H,hq⟩;have o1:gj ops j:=((c.wr o0).resolve_right P0).2;refine .inr ⟨o0,Nq.2 λb hb=>?_⟩;have⟨p,hL,q0,r1,b1,u1,v1⟩:=B0 b hb;have⟨op,O0,g2⟩:=Wr.op c q0.1;rcases oY o1 p op O0 with rfl|h1|h1|h1;omega;grind;grind;grind) (λb hb=>absurd ⟨b,hb⟩ P0);grind)
theorem aeW(c:Ctx E P call ops nt tr)(hQ:∀σ a w,Inv E P call ops nt tr σ0 w0 ds (λi=>i<ops.size) σ a w->Q .normal a w):
  ∀(fuel:Nat) (listed:Array Bool) (σ:Sg) (a:Act) (w:World),listed.size=ops.size->HZ listed ops.size<=fuel->Inv E P call ops nt tr σ0 w0 ds (λi=>listed.getD i false=true) σ a w->
   wpAnyIn (dG ro) n P .any ops Q fuel listed a w:=by have fin:∀(listed:Array Bool) (σ:Sg) (a:Act) (w:World),listed.size=ops.size->(∀i,i<ops.size->listed.getD i false)->Inv E P call ops nt tr σ0 w0 ds (λi=>listed.getD i false=true) σ a w->Q .normal a w:=(by intro listed σ a w F H h;have:(λi=>listed.getD i false=true)=(λi=>i<ops.size):=(by grind);grind);have b0:∀(listed:Array Bool),listed.size=ops.size->(∀i,i<ops.size->listed.getD i false)->Region.ready .any ops listed=[]:=(by intro listed F H;refine Nq.2 λj hj=>?_;have h1:=(mem_ready.1 hj).1;grind);have ready_all:∀(listed:Array Bool),listed.size=ops.size->Region.ready .any ops listed=[]->∀i,i<ops.size->listed.getD i false:=(by intro listed F hr i;induction i using Nat.strongRecOn with|_ i ih=>intro hi;refine Ol λhn=>?_;have⟨o,ho⟩:=CI (ops:=ops) hi;have:i∈Region.ready .any ops listed:=mem_ready.2 ⟨be,o,ho,λe he hb=>by have:=c.ord.lt i o ho e he hb;grind⟩;grind);intro fuel;induction fuel with|zero=>intro listed σ a w F hu h;have H:=λi hi=>AN (l:=listed) (k:=ops.size) ac i hi;exact⟨b0 listed F H,fin listed σ a w F H h⟩|succ fuel ih=>intro listed σ a w F hu h;refine⟨λhr=>fin listed σ a w F (ready_all listed F hr) h,λj hj=>?_⟩;obtain⟨h1,o,ho,e0⟩:=mem_ready.1 hj;have g0:j<ops.size:=(Q7.1 ho).1;have d0:¬listed.getD j false=true:=(by grind);refine h.step c d0 ho e0 λσ' a' w' hI=>?_;refine ih _ σ' a' w' be ?_ ?_;have:=Et (l:=listed) (j:=j) ac d0 ops.size;grind;have:(λi=>(listed.setIfInBounds j true).getD i false=true)=(λi=>i=j\/listed.getD i false):=(by funext i;exact propext (wM listed ac i));grind
theorem Je(hE:E.OK P)(cE:cM P call)(i0:∀o∈ops.toList,fm nt P.globals.size o)(hd:ym ops){fr b0:Fr}(h:pR E call ops ops.toList 0 fr=some b0)
  (hf:dA σ fr.T a nt) (hs:eU P σ fr.m w) (k:∀σ' a' w',dA σ' b0.T a' nt->a'.defers=a.defers->Ev P σ fr.m w σ' b0.m w'->Q .normal a' w'):
  wpAnyIn (dG ro) n P .any ops Q ops.size (Array.replicate ops.size false) a w:=by
 have⟨tr,t0,tN,o0⟩:=Cm ops.toList 0 fr b0 h;have j0:∀j o,ops[j]?=some o->DStep E call ops (tr j) o j (tr (j+1)):=(by grind);subst t0;have tN:tr ops.size=b0:=be;subst tN;have c:Ctx E P call ops nt tr:=⟨hE,cE,wk hd,i0,j0,D0 hE cE i0 j0 hs hf⟩;refine aeW (σ0:=σ) (w0:=w) (ds:=a.defers) c ?_ ops.size _ σ a w co ?_ ?_
 ·intro σ' a' w' hI;have k0:∀b i,σ' b=some i->b<(tr ops.size).m.n:=(by intro b i F;rcases hI.uv b i F with h1|⟨q,hq,_,h2⟩;have:=(c.mono (i:=0) ops.size ac (ID _)).1;omega;have:=(c.mono (i:=q+1) ops.size ac (ID _)).1;omega);have e0:=hI.win ops.size [] (ID _) (λb F=>Iff.rfl) (λp b F=> .inl Iff.rfl);rw[Sg.Fz k0,M.BP]at e0;refine k σ' a' w' ⟨hI.Ic,λt ht=>?_⟩ hI.defs ⟨hI.base,e0,(c.mono (i:=0) ops.size ac (ID _)).2,(c.mono (i:=0) ops.size ac (ID _)).1,hI.hle,hI.new,λb F hn=>c.abs ops.size (ID _) b F hn,hI.heap,hI.os,hI.tape,hI.output⟩;have⟨q,hq,hv,hw,_⟩:=hI.tmp t ht;have hT:je (tr ops.size).T t=je (tr q).T t:=c.tW ops.size hq (ID _) λi o h1 h2 ho r0=>(by grind);rw[hT];refine hv.mono λb i F=>(Sg.dv.1 F).2
 ·have:∀k,HZ (Array.replicate ops.size false) k<=k:=(by intro k;induction k with|zero=>simp[HZ]|succ k ih=>unfold HZ;grind);grind
 have hL:∀i,¬(Array.replicate ops.size false).getD i false=true:=(by intro i;simp[Z0,zI];grind);have l0:σ.cut (tr 0).m.n=σ:=Sg.Fz hs.uv
 exact{
  lt:=λi hi=>absurd hi (hL i)
  closed:=λj o ho hj=>absurd hj (hL j)
  Ic:=hf.1
  defs:=rfl
  tmp:=λt ht=>⟨0,ac,by rw[l0];exact hf.2 t ht,λi o hi=>absurd hi (hL i),.inl rfl⟩
  win:=λk l hk hw p0=>by
   have h0:σ.cut (tr k).m.n=σ:=Sg.Fz λb i F=>by have:=hs.uv b i F;have:=(c.mono (i:=0) k ac hk).1;omega
   rw[h0]
   have d0:∀b,b<(tr 0).m.n->b∉l->(tr k).m.get b=(tr 0).m.get b:=λb F H=>c.pT (i:=0) k ac hk (λb _ h2 h3=>hL b ((hw b h3).1 h2)) b F
    (λp _ h2 h3=>(p0 p b h3).elim (λx=>hL p (x.1 h2)) H)
   have q0:=(c.mono (i:=0) k ac hk).1;refine⟨λb i F=>?_,λb i F=>?_,hs.lt,λb b' i i' F n0 h1 h2=>?_,hs.mA⟩;·have:=hs.uv b i F;show b<(tr k).m.n;omega
   ·rw[M.kD];by_cases H:b∈l;·rw[F6 H];trivial
    rw[Od H,d0 b (hs.uv b i F) H];exact hs.obj b i F
   rw[M.kD]at h1 h2;by_cases H:b∈l;·grind
   by_cases g0:b'∈l;·grind
   rw[Od H,d0 b (hs.uv b i F) H]at h1;rw[Od g0,d0 b' (hs.uv b' i' n0) g0]at h2;exact hs.inj b b' i i' F n0 h1 h2
  Nw:=λp b hp=>absurd hp (hL p)
  uv:=λb i F=> .inl (hs.uv b i F)
  base:=λ_ _ x=>x
  new:=be
  hle:=ID _
  heap:=λ_ _ _=>rfl
  os:=rfl
  tape:=rfl
  output:=rfl
  mA:=λg hg=>⟨hs.uv g _ (hs.mA g hg),hs.mA g hg⟩}
end
section
variable{E:Env}{P:Program}{call:aF}{nt:Nat}{σ:Sg}{w:World}{a:Act}{ro:Option Nat}{k:Nat}
def Ex.to:Ex->Exit
 |.normal=> .normal
 |.exit id=> .exit id
 |.ret=> .ret
def oL(base:Nat)(σ:Sg)(w:World):List Deferred->Prop
 |[]=>True
 |d::ds=>(∃r,d.target=.collected r/\base<=r/\w.heap[r]?=some (.deferred (some []))/\(∀b i,σ b=some i->i.dK≠r)/\∀F∈ds,F.target≠.collected r)/\oL base σ w ds
theorem oL.ev{w':World}(he:Ev P σ m w σ' m' w'):∀{ds:List Deferred},oL base σ w ds->oL base σ' w' ds
 |[],_=>trivial
 |d::ds,h=>by have⟨⟨r,h1,h2,H,h4,h5⟩,h6⟩:=h;have hr:r<w.heap.size:=(Q7.1 H).1;refine⟨⟨r,h1,h2,?_,?_,h5⟩,h6.ev he⟩;rw[he.heap r hr (λb i F e=>absurd e (h4 b i F))];exact H;intro b i F e;cases hs:σ b with|some i'=>have:=he.ext b i' hs;grind|none=>rcases(he.new b i F hs).2 with h|⟨b0,i0,h,h',_⟩;omega;grind
theorem oL.lt:∀{ds:List Deferred},oL base σ w ds->∀d∈ds,∃r,d.target=.collected r/\r<w.heap.size
 |d::ds,h,H,F=>by have⟨⟨r,h1,_,h3,_,_⟩,h6⟩:=h;rcases Qk.1 F with rfl|F;grind;exact h6.lt H F
def FX(base:Nat)(σ:Sg)(w:World)(tl ds:List Deferred):Prop:=∃ms,ds=ms++tl/\oL base σ w ms
def FX.ev{tl ds:List Deferred}{w':World}(he:Ev P σ m w σ' m' w')(h:FX base σ w tl ds):FX base σ' w' tl ds:=by have⟨ms,F,H⟩:=h;exact⟨ms,F,H.ev he⟩
def AG{F:Fence}{c:Code}{Q:Exit->Act->World->Prop}(h:c.wpIn F n P (Exit.noGoto Q) a w):(Code.scope c).wpIn F n P Q a w:=by intro b k cs e0 hb hr;have h1:step P (lone (b.atR a (.code (.scope c)::k)) cs w)=.next (lone (b.atR a (.code c::.inScope c::k)) cs w):=step_lone_go (by simp[stepG,stepG.exec,Frame.atR]);have i1:(lone (b.atR a (.code (.scope c)::k)) cs w).fenced P F:=fenced_calm hb hr rfl;have⟨e,H,b0,hq,d0⟩:=h b (.inScope c::k) cs e0 hb hr;have h2:step P (lone (b.atR H (.inScope c::k)) cs b0)=.next (lone (b.atR H k) cs b0):=step_lone_go (by simp[stepG,stepG.exec,Frame.atR]);have i2:(lone (b.atR H (.inScope c::k)) cs b0).fenced P F:=fenced_calm hb hr rfl;cases e with|normal=>exact⟨.normal,H,b0,hq,StepsIn.head i1 h1 (StepsIn.trans d0 (.one i2 h2))⟩|exit id=>exact⟨.exit id,H,b0,hq,.of_steps (.one i1 h1) ⟨λk' hk=>d0.1 k' (by simp[exitTo,hk]),λg0 hk=>d0.2 g0 (by simp[exitTo,hk])⟩⟩|goto l=>exact hq.elim|ret=>exact⟨_,H,b0,hq,.of_steps (.one i1 h1) d0⟩|panic ch=>exact⟨_,H,b0,hq,.of_steps (.one i1 h1) d0⟩|outgrown=>exact⟨_,H,b0,hq,.of_steps (.one i1 h1) d0⟩
def Ev.extra(F:eU P σ m w)(o:Obj):Ev P σ m w σ m (w.alloc o):=by have hk:∀B,B<w.heap.size->(w.alloc o).heap[B]?=w.heap[B]?:=λB hB=>heap_alloc_old w o hB;refine⟨λ_ _ x=>x,⟨F.uv,λb i H=>(F.obj b i H).aY (λ_ _ x=>x) (hk _ (F.lt b i H)),λb i H=>?_,F.inj,F.mA⟩,ID _,ID _,co,λb i x y=>be,λ_ _ _=>rfl,λB hB _=>hk B hB,rfl,rfl,rfl⟩;have:=F.lt b i H;grind
def Vd(ro:Option Nat)(σ:Sg)(m:M):Prop:=ro=none\/∃l i r,ro=some i.dK/\σ l=some i/\m.get l=.loop r
def Vd.next{ro:Option Nat}(h:Vd ro σ m)(he:σ.le σ')(F:LK m m'):Vd ro σ' m':=by rcases h with h|⟨l,i,r,H,h2,h3⟩;exact .inl h;have⟨r',h4⟩:=F l r h3;exact .inr ⟨l,i,r',H,he _ _ h2,h4⟩
def Zz(P:Program)(nt:Nat)(c:Code)(fr:Fr)(e:Ex)(F:Fr):Prop:=
 ∀(ro:Option Nat) (k base:Nat) (σ:Sg) (a:Act) (w:World) (Q:Exit->Act->World->Prop) (tl:List Deferred),Vd ro σ fr.m->dA σ fr.T a nt->eU P σ fr.m w->FX base σ w tl a.defers->base<=w.heap.size->
  (∀σ' H w',dA σ' F.T H nt->FX base σ' w' tl H.defers->(fH c=true->H.defers=a.defers)->Ev P σ fr.m w σ' F.m w'->Q e.to H w')->c.wpIn (dG ro) k P Q a w
def least(p:Nat->Prop):Nat:=by
 classical
 exact if h:∃j,p j/\∀i,i < j->¬p i then Classical.choose h else 0
def BN{p:Nat->Prop}(h:p j):p (least p)/\least p<=j:=by have ex:∃j,p j/\∀i,i<j->¬p i:=(by induction j using Nat.strongRecOn with|_ j F=>grind);have H:=It ex;have he:least p=Classical.choose ex:=(by unfold least;simp_all);grind
theorem IU{c:Code}{body:Fr->Option (Ex×Fr)}(p0:∀fr e F,body fr=some (e,F)->LK fr.m F.m)(hb:∀fr e F,body fr=some (e,F)->Zz P nt c fr e F){n:Nat}{fr:Fr}{e:Ex}{F:Fr}(h:jN body n fr=some (e,F)):
  Zz P nt (.loop c) fr e F:=by intro ro k base σ a w Q tl q0 hf hs hd r0 hQ;let I:Nat->Act->World->Prop:=λj a' w'=>∃H d0,jN body j H=some (e,F)/\dA d0 H.T a' nt/\FX base d0 w' tl a'.defers/\(fH c->a'.defers=a.defers)/\LK fr.m H.m/\Ev P σ fr.m w d0 H.m w';refine wpIn_loop (λa' w'=>∃j,I j a' w') (λa' w'=>least λj=>I j a' w') ⟨n,fr,σ,h,hf,hd,λ_=>rfl,LK.refl,Ev.refl hs⟩ λa1 w1 ⟨j,hI⟩=>?_;have⟨⟨H,d0,hl,s0,u0,y0,l0,b0⟩,_⟩:=BN (p:=λj=>I j a1 w1) hI;generalize hq:(least λj=>I j a1 w1)=q at hl;cases q with|zero=>simp[jN]at hl|succ q=>unfold jN at hl;cases g0:body H with|none=>rw[g0]at hl;cases hl|some p=>have⟨e2,n0⟩:=p;rw[g0]at hl;refine hb H e2 n0 g0 ro k base d0 a1 w1 _ tl (q0.next b0.ext l0) s0 b0.rk u0 (WA r0 b0.hle) λh0 a2 w2 i0 j0 A0 k0=>?_;have e0:fH c->a2.defers=a.defers:=λx=>(A0 x).trans (y0 x);cases e2 with|normal=>have o0:I q a2 w2:=⟨n0,h0,hl,i0,j0,e0,l0.trans (p0 _ _ _ g0),b0.trans k0⟩;refine⟨⟨q,o0⟩,?_⟩;have:=(BN (p:=λj=>I j a2 w2) o0).2;omega|exit id=>cases hl;exact hQ h0 a2 w2 i0 j0 e0 (b0.trans k0)|ret=>cases hl;exact hQ h0 a2 w2 i0 j0 e0 (b0.trans k0)
def ja(hE:E.OK P)(cE:cM P call){n:Nat}:∀(c:Code) (fr:Fr) (e:Ex) (b0:Fr),dp nt P.globals.size c->bH E call n c fr=some (e,b0)->Zz P nt c fr e b0:=by
 intro c;induction c with
 |skip=>intro fr e b0 _ h ro k base σ a w Q tl e0 hf hs hd g0 hQ;cases h;exact wpIn_skip (hQ σ a w hf hd (λ_=>rfl) (Ev.refl hs))
 |label l=>intro fr e b0 _ h ro k base σ a w Q tl e0 hf hs hd g0 hQ;cases h;exact wpIn_label (hQ σ a w hf hd (λ_=>rfl) (Ev.refl hs))
 |region id ops d=>
  intro fr e b0 F h ro k base σ a w Q tl e0 hf hs k1 g0 hQ;unfold dp at F;simp only[De]at F;have s0:∀o∈ops.toList,fm nt P.globals.size o:=Jo.1 F.1;unfold bH at h;simp only[Qp,MD]at h;obtain⟨o0,h,rfl,rfl⟩:=h;cases d with
  |false=>simp only[sI]at h;exact wpIn_region_list (yl hE cE s0 ops.toList s0 fr o0 h σ a w hf rfl hs λσ' a' w' h1 h2 h3=>hQ σ' a' w' h1 (by rw[h2];exact k1.ev h3) (λ_=>h2) h3)
  |true=>
   simp only[gc]at h;have hd:ym ops:=be
   have hw:Ev P σ fr.m w σ fr.m {w with drawn:=w.drawn+1}:=Ev.of_heap hs rfl rfl rfl rfl;exact wpIn_region_any hE.mixed (Je hE cE s0 hd h hf hw.rk λσ' a' w' h1 h2 h3=>hQ σ' a' w' h1 (by rw[h2];exact k1.ev (hw.trans h3)) (λ_=>h2) (hw.trans h3))
 |seq x y c1 d1=>
  intro fr e b0 F h ro k base σ a w Q tl e0 hf hs hd g0 hQ;unfold dp at F;simp only[De]at F;unfold bH at h;apply wpIn_seq;cases hx:bH E call n x fr with
  |none=>rw[hx]at h;cases h
  |some p=>
   have⟨e1,o0⟩:=p;rw[hx]at h;refine c1 fr e1 o0 F.1 hx ro k base σ a w _ tl e0 hf hs hd g0 λk0 a1 w1 l0 n0 j0 i0=>?_;have hn:fH (.seq x y)->fH x/\fH y:=λhh=>by unfold fH at hh;simp only[De]at hh;exact hh
   cases e1 with
   |normal=>exact d1 o0 e b0 F.2 h ro k base k0 a1 w1 Q tl (e0.next i0.ext (gd cE.aY x _ _ _ hx)) l0 i0.rk n0 (WA g0 i0.hle) λp0 a2 w2 y1 A1 B1 G1=>hQ p0 a2 w2 y1 A1 (λx=>(B1 (hn x).2).trans (j0 (hn x).1)) (i0.trans G1)
   |exit id=>cases h;exact hQ k0 a1 w1 l0 n0 (λx=>j0 (hn x).1) i0
   |ret=>cases h;exact hQ k0 a1 w1 l0 n0 (λx=>j0 (hn x).1) i0
 |cond c x y c1 d1=>
  intro fr e b0 F h ro k base σ a w Q tl e0 hf hs hd g0 hQ;unfold dp at F;simp only[De]at F;unfold bH at h;have hc:=hf.By hs F.1;cases hv:ev fr.T c with
  |bool t=>
   rw[hv]at h hc;apply wpIn_cond hc.bool;cases t with
   |true=>exact c1 fr e b0 F.2.1 h ro k base σ a w Q tl e0 hf hs hd g0 λσ' a' w' q1 q2 q3=>hQ σ' a' w' q1 q2 λhh=>q3 (by unfold fH at hh;simp only[De]at hh;exact hh.1)
   |false=>exact d1 fr e b0 F.2.2 h ro k base σ a w Q tl e0 hf hs hd g0 λσ' a' w' q1 q2 q3=>hQ σ' a' w' q1 q2 λhh=>q3 (by unfold fH at hh;simp only[De]at hh;exact hh.2)
  |_=>rw[hv]at h;cases h
 |block id c ih=>
  intro fr e b0 F h ro k base σ a w Q tl e0 hf hs hd g0 hQ;unfold dp at F;unfold bH at h;apply wpIn_block;cases hc:bH E call n c fr with
  |none=>rw[hc]at h;cases h
  |some p=>
   have⟨e1,o0⟩:=p;rw[hc]at h;refine ih fr e1 o0 F hc ro k base σ a w _ tl e0 hf hs hd g0 λk0 a1 w1 l0 n0 j0 i0=>?_;have j0:fH (.block id c)->a1.defers=a.defers:=λhh=>j0 (by unfold fH at hh;exact hh);cases e1 with
   |normal=>cases h;exact hQ k0 a1 w1 l0 n0 j0 i0
   |exit H1=>
    simp only at h;simp only[Ex.to,Exit.inBlock];by_cases hid:H1=id;·subst hid;simp only[FF,gc,T7,MD]at h;obtain⟨rfl,rfl⟩:=h;rw[F6 rfl];exact hQ k0 a1 w1 l0 n0 j0 i0
    rw[jG hid]at h;simp only[sI,T7,MD]at h;obtain⟨rfl,rfl⟩:=h;rw[Od hid];exact hQ k0 a1 w1 l0 n0 j0 i0
   |ret=>cases h;exact hQ k0 a1 w1 l0 n0 j0 i0
 |loop c ih=>intro fr e b0 F h;unfold dp at F;unfold bH at h;exact IU (c:=c) (λfr e b0 hb=>gd cE.aY c fr e b0 hb) (λfr e b0 hb=>ih fr e b0 F hb) h
 |scope c ih=>intro fr e b0 F h ro k base σ a w Q tl e0 hf hs hd g0 hQ;unfold dp at F;unfold bH at h;refine AG (ih fr e b0 F h ro k base σ a w _ tl e0 hf hs hd g0 λσ' a' w' q1 q2 q3 q4=>?_);have:=hQ σ' a' w' q1 q2 (λhh=>q3 (by unfold fH at hh;exact hh)) q4;cases e <;>exact this
 |exit id=>intro fr e b0 _ h ro k base σ a w Q tl e0 hf hs hd g0 hQ;cases h;exact wpIn_exit (hQ σ a w hf hd (λ_=>rfl) (Ev.refl hs))
 |ret=>intro fr e b0 _ h ro k base σ a w Q tl e0 hf hs hd g0 hQ;cases h;exact wpIn_ret (hQ σ a w hf hd (λ_=>rfl) (Ev.refl hs))
 |rangeFunc g ps assign body _ _=>
  intro fr e b0 F h ro k base σ a w Q tl e0 hf hs hd g0 hQ;unfold dp at F;simp only[De]at F;have⟨K1,O1,T1,b2⟩:=F;unfold bH at h;have hg:=hf.By hs K1;split at h
  ·rename_i f first captured c2;rw[c2]at hg;cases hc:call (.func f) (first.toList++(.func (.yield fr.m.n) #[] #[]::captured.toList)) (fr.m.push (.loop ⟨fr.T,ps,assign,body,.ready,none,E.G⟩))with
   |none=>rw[hc]at h;cases h
   |some p=>
    have⟨v,m⟩:=p;rw[hc]at h;simp only at h;split at h
    ·rename_i r hr;have l1:r.st≠.busy/\e=r.zM.getD .normal/\b0={fr with m:=m.set fr.m.n (.loop {r with st:=.exhausted})}:=by
      grind
     obtain⟨B2,rfl,rfl⟩:=l1;have d2:∃d0 H,a.eval g=.func (.func f) d0 H/\bL σ first.toList d0.toList/\bL σ captured.toList H.toList:=hg.Cb;have⟨d0,H,e2,g2,i2⟩:=d2;refine wpIn_rangeFunc λfn _=>?_
     have⟨wa,mark,D,A0,g1,i1⟩:∃(wa:World) (mark:List Deferred) (D:Nat),
       (Instr.enterLoop fn a.tmps ps assign body (dG ro).round).run P w=.ok (wa.heap.size,mark) (wa.alloc (.loop {state:=.ready,pending:=none,fn,tmps:=a.tmps,params:=ps,assign,body,defers:=D}))/\
       Ev P σ fr.m w σ fr.m wa/\∀σ' m' W',Ev P σ fr.m wa σ' m' W'->FX base σ' W' tl (mark++a.defers):=by
      rcases e0 with rfl|⟨l,i,r0,rfl,hl,j2⟩
      ·refine⟨w.alloc (.deferred (some [])),[{target:=.collected w.heap.size,args:= #[]}],w.heap.size,?_,Ev.extra hs _,λσ' m' W' u0=>?_⟩
       ·have k2:(w.alloc (.deferred (some []))).heap.size=w.heap.size+1:=co
        rw[k2];exact run_enterLoop_outer fn a.tmps ps assign body
       have⟨ms,G2,hd⟩:=hd;refine⟨[{target:=.collected w.heap.size,args:= #[]}]++ms,be,?_⟩;have h0:oL base σ (w.alloc (.deferred (some []))) ([{target:=.collected w.heap.size,args:= #[]}]++ms):=by
        refine⟨⟨w.heap.size,rfl,g0,heap_alloc_new w _,λb i hb=>?_,λd' l2 e=>?_⟩,hd.ev (Ev.extra hs _)⟩;·have:=hs.lt b i hb;omega
        ·have⟨r2,h1,h2⟩:=hd.lt d' l2;grind
       exact h0.ev u0
      ·have ho:=hs.obj _ _ hl;rw[j2]at ho;have⟨_,o2,_,u2,_⟩:=ho;exact⟨w,[],o2.defers,run_enterLoop_inner u2 fn a.tmps ps assign body,Ev.refl hs,λσ' m' W' u0=>hd.ev u0⟩
     let P0:Loop:={state:=.ready,pending:=none,fn,tmps:=a.tmps,params:=ps,assign,body,defers:=D}
     let w1:=wa.alloc (.loop P0)
     have j1:Ev P σ fr.m wa (σ.add fr.m.n ⟨wa.heap.size,none⟩) (fr.m.push (.loop ⟨fr.T,ps,assign,body,.ready,none,E.G⟩)) w1:=by
      refine Ev.tI g1.rk ⟨rfl,P0,nt,heap_alloc_new wa _,rfl,rfl,rfl,rfl,rfl,hf.1,λt ht=>?_,?_,?_,?_,co⟩;·exact(hf.2 t ht).mono (Sg.yq g1.rk.ng)
      ·rw[hE.G];exact T1
      ·rw[hE.G];exact b2
      ·intro p hp;have:=Jo.1 O1 p hp;simp_all
     have o1:=g1.trans j1
     have B0:bs (σ.add fr.m.n ⟨wa.heap.size,none⟩) (.func (.yield fr.m.n) #[] #[]) (.func (.yield wa.heap.size) #[] #[]):=
      .yield fr.m.n ⟨wa.heap.size,none⟩ (Sg.add_same _ _)
     have hle:=o1.ext;obtain⟨O0,p1⟩:=cE.func f _ _ v m hc _ w1 (d0++ #[.func (.yield wa.heap.size) #[] #[]]++H) j1.rk (by simp only[Le,UO,List.singleton_append];exact(g2.mono hle).append (bL.cons B0 (i2.mono hle)))
     refine⟨wa.heap.size,mark,w1,{target:=.fn (.func f) H,args:=d0++ #[.func (.yield wa.heap.size) #[] #[]]},w1,f,_,w1,
      A0,?_,λ_ _=>trivial,p1,λhh=>by simp[dG,Fence.wide]at hh,?_⟩
     ·have hm:Array.map a.eval #[Operand.const (Value.func (Fn.yield wa.heap.size) #[] #[])]= #[Value.func (Fn.yield wa.heap.size) #[] #[]]:=by simp[Act.eval]
      simp only[resolve,e2,Deferred.ofValue,SZ,hm]
     ·have v2:CallsIn (dG ro) (k-1) P f (d0++ #[.func (.yield wa.heap.size) #[] #[]]++H) w1 (dP P (σ.add fr.m.n ⟨wa.heap.size,none⟩) (fr.m.push (.loop ⟨fr.T,ps,assign,body,.ready,none,E.G⟩)) w1 v m):=⟨trivial,λcs _=>O0.2 cs (room_wide _)⟩
      refine v2.mono λe w3 he=>?_;obtain⟨v',p0,rfl,_,y0⟩:=he;have Q0:p0 fr.m.n=some ⟨wa.heap.size,none⟩:=y0.ext _ _ (Sg.add_same _ _);have ho:=y0.rk.obj _ _ Q0;rw[hr]at ho;have⟨M2,r',y2,q1,q2,q3,q4,q5,q6,q7,q8,q9,ZL,z2,r1⟩:=ho;have q1:w3.heap[wa.heap.size]?=some (.loop r'):=q1;have u1:Ev P p0 m w3 p0 (m.set fr.m.n (.loop {r with st:=.exhausted})) (w3.putObj wa.heap.size (.loop {r' with state:=.exhausted})):=by
       have A2:wa.heap.size<w3.heap.size:=(Q7.1 q1).1;refine Ev.write y0.rk Q0 be ⟨rfl,{r' with state:=.exhausted},y2,?_,rfl,q3,q4,q5,q6,q7,q8,q9,ZL,z2,r1⟩ ?_ co rfl rfl rfl;·show(w3.putObj wa.heap.size _).heap[wa.heap.size]?=_;exact World.putObj_heap_same A2
       intro B hB;exact World.putObj_heap_other λe=>hB e
      have b1:=(o1.trans y0).trans u1;have v1:=i1 _ _ _ ((j1.trans y0).trans u1);refine⟨r'.pending,_,run_endLoop q1 be,?_⟩;have q0:=hQ p0 {a with defers:=mark++a.defers} _ ⟨hf.1,λt ht=>(hf.2 t ht).mono b1.ext⟩ v1 (λhh=>by simp[fH]at hh) b1;generalize w3.putObj wa.heap.size (.loop {r' with state:=.exhausted})=W4 at q0⊢;rw[q3];cases hp:r.zM with
      |none=>rw[hp]at q0;exact q0
      |some e=>
       rw[hp]at q0;cases e with
       |normal=>exact absurd hp r1
       |exit id=>exact wpIn_exit q0
       |ret=>exact wpIn_ret q0
    cases h
  cases h
 |_=>intro fr e b0 _ h;simp[bH]at h
end
section
variable{E:Env}{P:Program}{call:aF}{nt:Nat}{σ σ':Sg}{m m':M}{w w':World}{a:Act}
theorem HK:∀(l:ν) (i t:Nat),je (enter l i) t=if t<i then undef else(l[t-i]?).getD undef
 |[],i,t=>by unfold enter je;rw[Tr.Ca];grind
 |v::l,i,t=>by unfold enter;have F:=HK l (i+1) t;unfold je at F⊢;rw[Tr.cF];grind
def nj(h:bL σ args args'.toList)(hn:args.length<=nt):
  dA σ (enter args 0) {tmps:=args'++Array.replicate (nt-args'.size) undef,defers:=[]} nt:=by have F:=h.1;simp only[Il]at F;refine⟨be,λt ht=>?_⟩;rw[HK,Od ac,TA];simp only[Act.eval];by_cases H:t<args'.size;have h1:args[t]?=some args[t]:=be;have⟨u',hu,hr⟩:=h.get h1;simp_all;rw[L5 ac,Option.getD_none,Z0,Array.getElem?_append_right ac,zI];split <;>exact bs.undef
theorem zJ(hE:E.OK P)(hs:eU P σ m w){T:Tr Φ}(hf:dA σ T a nt){r:ResultVar}(F:(match r with |.tmp t=>Nat.blt t nt |.cell a _=>Nat.blt a nt)){v:Φ}(h:nc E T m r=some v):
  ∃v',((match r with |.tmp t=>pure (a.tmps.getD t undef) |.cell x t=>do Go.loadVar t (<-asAddr (a.tmps.getD x undef))):Sem Φ).run P w=.ok v' w/\bs σ v v':=by unfold nc at h;cases r with|tmp t=>cases h;have F:Nat.blt t nt:=F;rw[kH]at F;exact⟨_,rfl,hf.2 t be⟩|cell x t=>have F:Nat.blt x nt:=F;rw[kH]at F;have hx:=hf.2 x be;dsimp only at h;split at h;rename_i ad H;rw[H]at hx;have⟨i,hi,_,he⟩:=hx.fW;have he:a.tmps.getD x undef=_:=he;have⟨v',h1,h2,_⟩:=oQ (w:=w) hE hs hi h;refine⟨v',?_,h2⟩;dsimp only;rw[he,Na];exact h1;cases h
theorem uf(hE:E.OK P)(hs:eU P σ m w){T:Tr Φ}(hf:dA σ T a nt):∀(rs:List ResultVar) (vs:ν),(∀r∈rs,(match r with |.tmp t=>Nat.blt t nt |.cell a _=>Nat.blt a nt))->iw E T m rs=some vs->
  ∃F:ν,(rs.mapM (m:=Sem) λ|.tmp t=>pure (a.tmps.getD t undef) |.cell x t=>do Go.loadVar t (<-asAddr (a.tmps.getD x undef))).run P w=.ok F w/\bL σ vs F
 |[],vs,_,h=>by simp only[iw,T7]at h;subst h;exact⟨[],rfl,bL.nil⟩
 |r::rs,vs,hr,h=>by unfold iw at h;cases H:nc E T m r with|none=>rw[H]at h;simp at h|some v=>cases h2:iw E T m rs with|none=>rw[H,h2]at h;simp at h|some b0=>rw[H,h2]at h;simp only[T7]at h;subst h;have⟨v',q1,q2⟩:=zJ hE hs hf (hr r F3) H;obtain⟨F,q3,q4⟩:=uf hE hs hf rs b0 (λr h=>hr r (Wm _ h)) h2;refine⟨v'::F,?_,bL.cons q2 q4⟩;simp_all
theorem vT(hE:E.OK P)(hs:eU P σ m w){T:Tr Φ}{fn:Func}(hf:dA σ T a nt)(hr:∀r∈fn.results.toList,(match r with |.tmp t=>Nat.blt t nt |.cell a _=>Nat.blt a nt)){v:Φ}(h:result? E fn T m=some v):
  ∃v',(results fn a.tmps).run P w=.ok v' w/\bs σ v v':=by unfold result? at h;cases h1:iw E T m fn.results.toList with|none=>rw[h1]at h;simp at h|some vs=>rw[h1]at h;have⟨F,q1,q2⟩:=uf hE hs hf fn.results.toList vs hr h1;refine⟨if h:F.toArray.size=1 then F.toArray[0]else .tuple F.toArray,?_,?_⟩;unfold results;rw[TJ];rw[Na,Sem.run_map];generalize hG:Sem.run P (List.mapM _ _) w=G;have hG:G=.ok F w:=hG.symm.trans q1;simp_all;split at h;rename_i v1 H;cases H;cases h;obtain⟨v',l2,rfl,hv,hl⟩:=q2.cases;obtain rfl:=hl.nil_eq;grind;rename_i b0 d0 H;cases H;cases h;have hlen:¬F.toArray.size=1:=(by intro hl;have:vs.length=1:=(by rw[q2.1];simpa using hl);obtain⟨x,rfl⟩:=List.length_eq_one_iff.1 this;grind);rw[dif_neg hlen];exact q2.tuple;grind
theorem Ev.Bi(h:Ev P σ {m with low:=m.n} w σ' m' w'):Ev P σ m w σ' {m' with low:=min m.low m'.low} w' where
 ext:=h.ext
 rk:=h.rk.low _
 low:=Tn _ _
 Ny:=h.Ny
 hle:=h.hle
 new:=λb i x y=>by
  have⟨F,H⟩:=h.new b i x y;grind
 abs:=λb x y=>h.abs b be y
 heap:=λB x y=>h.heap B x λb i p q=>be
 os:=h.os
 tape:=h.tape
 output:=h.output
def bs.zs{v v':Φ}(h:bs σ v v')(H:aZ v):v'=v:=by by_cases hc:eo v=true;exact h.mj hc;cases v with|tuple vs=>obtain⟨a',rfl,ha⟩:=h.xO;congr 1;apply UF;apply Mh;intro j;(cases F:vs.toList[j]? with|none=>exact L5 (by rw[<-ha.1];exact MA.1 F)|some u=>have⟨u',hu,hr⟩:=ha.get F;rw[hu,hr.mj (Jo.1 H u (Vb F))])|_=>exact absurd H hc
theorem Ev.forget(F:eU P σ m w)(h:Ev P σ {m with low:=m.n} w σ' m' w')(hl:m.n<=m'.low):Ev P σ m w σ m w':=by have hk:∀B,B<w.heap.size->w'.heap[B]?=w.heap[B]?:=λB hB=>h.heap B hB λb i p _=>(by have:=F.uv b i p;omega);have b0:=h.hle;refine⟨λ_ _ x=>x,⟨F.uv,λb i H=>(F.obj b i H).aY (λ_ _ x=>x) (hk _ (F.lt b i H)),λb i H=>?_,F.inj,F.mA⟩,ID _,ID _,b0,λb i x y=>be,λ_ _ _=>rfl,λB hB _=>hk B hB,h.os,h.tape,h.output⟩;have:=F.lt b i H;omega
def Ev.im{o:Obj}(h:Ev P σ m w σ' m' w')(hb:w.heap.size<=r)(H:∀b i,σ' b=some i->i.dK≠r):Ev P σ m w σ' m' (w'.putObj r o):=by have F:=h.rk;refine⟨h.ext,⟨F.uv,λb i x=>(F.obj b i x).aY (λ_ _ x=>x) (World.putObj_heap_other (H b i x)),λb i x=>by rw[World.putObj_size];exact F.lt b i x,F.inj,F.mA⟩,h.low,h.Ny,by rw[World.putObj_size];exact h.hle,h.new,h.abs,λB x y=>?_,h.os,h.tape,h.output⟩;rw[World.putObj_heap_other ac];exact h.heap B x y
theorem oL.im{o:Obj}:∀{ds:List Deferred},oL base σ w ds->(∀d∈ds,d.target≠.collected r)->oL base σ (w.putObj r o) ds
 |[],_,_=>trivial
 |d::ds,h,H=>by have⟨⟨q,h1,h2,h3,h4,h5⟩,h6⟩:=h;refine⟨⟨q,h1,h2,?_,h4,h5⟩,h6.im λd' F=>H d' (Wm _ F)⟩;rw[World.putObj_heap_other (λe=>H d F3 be)];exact h3
theorem kz{fn:Func}{tmps:Array Φ}{R:Ending->World->Prop}:∀(ds:List Deferred) (w':World),oL w.heap.size σ' w' ds->Ev P σ m w σ' m' w'->
  (∀F,Ev P σ m w σ' m' F->∃v,(results fn tmps).run P F=.ok v F/\R (.returned v) F)->LeavesInM Fence.wide 0 P fn tmps R ds .returning w'
 |[],w',_,he,h=>h w' he
 |d::ds,w',H,he,h=>by have⟨⟨r,h1,h2,h3,h4,h5⟩,h6⟩:=H;exact⟨co,.inl ⟨r,_,h1,run_takeDeferred h3,kz ds _ (h6.im h5) (he.im h2 h4) h⟩⟩
theorem uk{fn:Func}{tmps:Array Φ}{R:Ending->World->Prop}{rest:List Deferred}{base:Nat}{K:World->Prop}(hK:∀w r o,base<=r->(∀b i,σ' b=some i->i.dK≠r)->K w->K (w.putObj r o))(hb:w.heap.size<=base):
  ∀(ds:List Deferred) (w':World),oL base σ' w' ds->Ev P σ m w σ' m' w'->K w'->
  (∀F,Ev P σ m w σ' m' F->K F->LeavesInM Fence.wide 0 P fn tmps R rest .returning F)->LeavesInM Fence.wide 0 P fn tmps R (ds++rest) .returning w'
 |[],w',_,he,H,h=>h w' he H
 |d::ds,w',hd,he,H,h=>by have⟨⟨r,h1,h2,h3,h4,h5⟩,h6⟩:=hd;exact⟨co,.inl ⟨r,_,h1,run_takeDeferred h3,uk hK hb ds _ (h6.im h5) (he.im (WA hb h2) h4) (hK _ _ _ h2 h4 H) h⟩⟩
theorem yz(hE:E.OK P){fn:Func}{fr:Fr}{v:Φ}(h:C7 E fn m fr=some (v,m'))(d0:(fn.results.toList.all λ|.tmp t=>Nat.blt t nt |.cell a _=>Nat.blt a nt))
  (hs:eU P σ m w) (hf:dA σ' fr.T a nt) (he:Ev P σ {m with low:=m.n} w σ' fr.m w'):∃H,(results fn a.tmps).run P w'=.ok H w'/\dP P σ m w v m' (.returned H) w':=by unfold C7 at h;cases hr:result? E fn fr.T fr.m with|none=>rw[hr]at h;cases h|some v1=>rw[hr]at h;dsimp only at h;obtain⟨H,q1,q2⟩:=vT hE he.rk hf (λr hr=>by grind) hr;refine⟨H,q1,?_⟩;cases F:(aZ v1 && Nat.ble m.n fr.m.low)with|true=>rw[F]at h;cases h;simp only[De]at F;have b0:=q2.zs F.1;subst b0;exact⟨_,σ,rfl,bs.gI F.1,Ev.forget hs he (IG F.2)⟩|false=>rw[F]at h;cases h;exact⟨_,σ',rfl,q2,he.Bi⟩
theorem mO(hE:E.OK P)(cE:cM P call){n:Nat}:∀(pre:List Code) (c2:Code) (fr:Fr) (e:Ex) (F:Fr),dp nt P.globals.size (nF pre c2)->mF (bH E call n) pre fr=some (e,F)->
  ∀(k base:Nat) (σ:Sg) (a:Act) (w:World) (Q:Exit->Act->World->Prop) (tl:List Deferred),dA σ fr.T a nt->eU P σ fr.m w->FX base σ w tl a.defers->base<=w.heap.size->
  (∀σ' a' w',dA σ' F.T a' nt->FX base σ' w' tl a'.defers->Ev P σ fr.m w σ' F.m w'->match e with |.normal=>c2.wpIn (dG none) k P Q a' w'|e=>Q e.to a' w')->(nF pre c2).wpIn (dG none) k P Q a w
 |[],c2,fr,e,F,_,h=>λk base σ a w Q tl hf hs hd _ hQ=>by cases h;exact hQ σ a w hf hd (Ev.refl hs)
 |c::pre,c2,fr,e,F,b0,h=>λk base σ a w Q tl hf hs hd h0 hQ=>by unfold nF dp at b0;simp only[De]at b0;unfold mF at h;unfold nF;apply wpIn_seq;cases hc:bH E call n c fr with|none=>rw[hc]at h;cases h|some p=>have⟨e1,i0⟩:=p;rw[hc]at h;refine ja hE cE c fr e1 i0 b0.1 hc none k base σ a w _ tl (.inl rfl) hf hs hd h0 λd0 a1 w1 e0 g0 _ H=>?_;cases e1 with|normal=>exact mO hE cE pre c2 i0 e F b0.2 h k base d0 a1 w1 Q tl e0 H.rk g0 (WA h0 H.hle) λj0 a2 w2 k0 l0 n0=>hQ j0 a2 w2 k0 l0 (H.trans n0)|exit id=>cases h;exact hQ d0 a1 w1 e0 g0 H|ret=>cases h;exact hQ d0 a1 w1 e0 g0 H
theorem oP:∀(pre:List Code) (c:Code) {n G:Nat},dp n G (nF pre c)->dp n G c=true
 |[],_,_,_,h=>h
 |_::pre,c,n,G,h=>by unfold nF dp at h;simp only[De]at h;exact oP pre c h.2
def pE{f:FuncId}{body:Code}(H:P.funcs[f]?=some fn)(hb:fn.body=some body)(F:mS P.globals.size fn):(callFunc f args').run P w=.ok (.enter f args') w:=by unfold mS at F;unfold callFunc;simp_all
theorem Bj{ops:Array Oper}(e0:∀o∈ops.toList,fm nt P.globals.size o){n:Nat}{F:Frame}{cs:List Frame}(hu:F.mode=.returning)(hs:eU P σ m w){Q:Exit->Act->List Frame->World->Prop}{ds:List Deferred}{T':Tr Φ}:
  ∀(l:List Oper) (i:Nat) (T:Tr Φ) (a:Act),(∀j o,l[j]?=some o->ops[i+j]?=some o)->ki l T=some T'->dA σ T a nt->a.defers=ds->
  (∀a',dA σ T' a' nt->a'.defers=ds->Q .normal a' (F::cs) w)->wpOpsSIn Fence.wide n P ops Q (List.range' i l.length) a (F::cs) w
 |[],i,T,a,_,h,hf,hd,hQ=>by cases h;simp only[H8,List.range'_zero,wpOpsSIn];grind
 |o::l,i,T,a,hi,h,hf,hd,hQ=>by have ho:ops[i]?=some o:=(by have:=hi 0 o rfl;simpa using this);have h0:o∈ops.toList:=be;have g0:=e0 o h0;(have next:∀(v v':Φ),ki l (put T o.dst v)=some T'->bs σ v v'->wpOpsSIn Fence.wide n P ops Q (List.range' (i+1) l.length) (a.put o.dst v') (F::cs) w:=λv v' h1 h2=>Bj e0 hu hs l (i+1) _ _ (λj o' hj=>by have:=hi (j+1) o' be;rw[show i+1+j=i+(j+1) by omega];exact this) h1 (hf.put (dJ g0) h2) (by rw[put_defers];exact hd) hQ);simp only[S6,Nh,wpOpsSIn,ho];refine⟨λ_ _=>trivial,?_⟩;unfold ki at h;have hw:o.guard=none->Region.wanted o (yielded ops a.tmps):=(by intro hg;unfold Region.wanted;rw[hg]);have b0:∀x∈o.op.operands.toList,bs σ (ev T x) (a.eval x):=λx hx=>hf.By hs (fj g0 x hx);split at h;(·rename_i c hg d0;rw[F6 (hw hg)];split at h;(·rename_i hc;cases i0:c.args.toList.isEmpty with|false=>rw[i0]at h;cases h|true=>rw[i0]at h;simp only[gc]at h;have H:(execOp a.eval o).run P w=.ok .recover w:=(by unfold execOp;rw[d0];unfold resolve;dsimp only;rw[hc];simp only[Na,SZ,S4,invoke,Go.builtin]);rw[H];have j0:recoverD (F::cs)=none:=(by simp[recoverD,hu]);simp only[j0];exact next .nilIface .nilIface h (.flat _ rfl));cases h);(·rename_i x hg d0;rw[F6 (hw hg)];have H:(execOp a.eval o).run P w=.ok (.value (a.eval x)) w:=(by unfold execOp;simp_all);rw[H];exact next _ _ h (b0 x (by rw[d0];simp[Op.operands])));(·rename_i x hg d0;rw[F6 (hw hg)];have H:(execOp a.eval o).run P w=.ok (.value (a.eval x)) w:=(by unfold execOp;simp_all);rw[H];exact next _ _ h (b0 x (by rw[d0];simp[Op.operands])));cases h
theorem Nc(hE:E.OK P)(cE:cM P call){n:Nat}{g:Nat}{args:ν}{m3:M}(h:FC E (bH E call n) g args m=some m3){args':Array Φ}(hs:eU P σ m w)(hl:bL σ args args'.toList):
  CallsDIn Fence.wide 0 P g args' .returning w (λe u' w'=>u'=.returning/\∃v,e=.returned v/\∃σ',Ev P σ m w σ' m3 w')/\(callFunc g args').run P w=.ok (.enter g args') w:=by
 unfold FC at h;split at h
 ·rename_i c hc;have⟨h0,H⟩:=hE.cl g c hc;have d0:=hE.VK hc;refine⟨?_,pE h0 H d0⟩;unfold mS at d0;rw[H]at d0;simp only[De]at d0;cases hb:(Nat.ble args.length c.fn.ntmps && (c.fn.results.toList.isEmpty && fH c.rest))with
  |false=>rw[hb]at h;cases h
  |true=>
   rw[hb]at h;simp only[De,UK]at hb;have⟨hle,A0,l0⟩:=hb;have hle:=IG hle;have F:=d0.1;unfold dp at F;simp only[De]at F;have e0:=F.1;unfold dp at e0;simp only[De]at e0;have i0:∀o∈c.ops.toList,fm c.fn.ntmps P.globals.size o:=Jo.1 e0.1;have j0:=nj (nt:=c.fn.ntmps) hl hle;split at h
   ·rename_i T hT
    have fin:∀(e:Ex) (fr:Fr),e=.normal\/e=.ret->bH E call n c.rest {T:=T,m:={m with low:=m.n}}=some (e,fr)->m3={fr.m with low:=min m.low fr.m.low}->
      CallsDIn Fence.wide 0 P g args' .returning w (λe u' w'=>u'=.returning/\∃v,e=.returned v/\∃σ',Ev P σ m w σ' m3 w'):=by
     intro e fr g0 hex hm;subst hm;refine callsDIn_of_wpSIn h0 H trivial λb0 cs hu=>wpSIn_seq (wpSIn_region ?_);rw[Td,<-Il];refine Bj (nt:=c.fn.ntmps) i0 hu hs c.ops.toList 0 _ _ be hT j0 rfl λa' n0 o0=>?_;refine wpSIn_of_wpIn rfl ?_;refine ja hE cE c.rest _ e fr F.2 hex none 0 w.heap.size σ a' w _ [] (.inl rfl) n0 (hs.low m.n) ⟨[],be,trivial⟩ (ID _) λp0 a1 w1 B0 O0 q0 r0=>?_;have k0:a1.defers=[]:=(q0 l0).trans o0;have s0:(results c.fn a1.tmps).run P w1=.ok (.tuple #[]) w1:=by
      unfold results;simp_all
     have u0:b0::cs={b0 with mode:=.returning}::cs:=by rw[<-hu]
     have hq:a1.defers=[]/\∃u',b0::cs={b0 with mode:=u'}::cs/\∃v,(results c.fn a1.tmps).run P w1=.ok v w1/\
       (u'=.returning/\∃v',Ending.returned v=.returned v'/\∃σ',Ev P σ m w σ' {fr.m with low:=min m.low fr.m.low} w1):=
      ⟨k0,.returning,u0,_,s0,rfl,_,rfl,p0,r0.Bi⟩
     rcases g0 with rfl|rfl <;>exact hq
    split at h;·cases h
    ·cases h
    ·rename_i e fr y0 hex;cases h;refine fin e fr ?_ hex rfl;cases e with
     |normal=>exact .inl rfl
     |ret=>exact .inr rfl
     |exit id=>exact absurd rfl (y0 id)
   cases h
 cases h
theorem HG(hE:E.OK P)(cE:cM P call){n:Nat}{f:FuncId}{d:K8}(hd:E.df.get f=some d){args:ν}{v:Φ}(h:qH E (bH E call n) d args m=some (v,m')){args':Array Φ}(hs:eU P σ m w)(hl:bL σ args args'.toList):
  CallsIn Fence.wide 0 P f args' w (dP P σ m w v m')/\(callFunc f args').run P w=.ok (.enter f args') w:=by
 have⟨k1,g0⟩:=hE.df f d hd;have F:=hE.VJ hd;refine⟨?_,pE k1 g0 F⟩;unfold mS at F;rw[g0]at F;simp only[De]at F;unfold qH at h;cases hle:Nat.ble args.length d.fn.ntmps with
 |false=>rw[hle]at h;cases h
 |true=>
  rw[hle]at h;simp only[gc]at h;have hle:=IG hle;have B0:=nj (nt:=d.fn.ntmps) hl hle;have l1:=hs.low m.n;have H:=oP _ _ F.1;unfold dp at H;simp only[De]at H;have j0:=H.1;unfold dp at j0;simp only[De]at j0;have O0:∀o∈(#[d.mf,d.de]:Array Oper).toList,fm d.fn.ntmps P.globals.size o:=Jo.1 j0.1;apply callsIn_of_wp_marks k1 g0 trivial;split at h
  ·
   rename_i fr hex;refine mO hE cE d.pre _ _ .ret fr F.1 hex 0 w.heap.size σ _ w _ [] B0 l1 ⟨[],rfl,trivial⟩ (ID _) λh0 a1 w1 k0 b1 i0=>?_;have⟨ms,c1,H1⟩:=b1;have c1:a1.defers=ms:=by rw[c1,Y4]
   show LeavesInM Fence.wide 0 P d.fn a1.tmps (dP P σ m w v m') a1.defers .returning w1;rw[c1];exact kz ms w1 H1 i0 λw2 l0=>yz hE h F.2.2 hs k0 l0
  ·rename_i fr hex;refine mO hE cE d.pre _ _ .normal fr F.1 hex 0 w.heap.size σ _ w _ [] B0 l1 ⟨[],rfl,trivial⟩ (ID _) λh0 a1 w1 k0 b1 i0=>?_;have⟨n0,o0,P0⟩:=b1;have o0:a1.defers=n0:=by rw[o0,Y4]
   dsimp only;split at h
   ·rename_i td g fi ca c K1 p0 d1 O1 T1;split at h
    ·rename_i t o1;cases b0:(Nat.beq t td && (c.args.toList.isEmpty && fi.toList.isEmpty))with
     |false=>rw[b0]at h;cases h
     |true=>
      rw[b0]at h;simp only[gc]at h;simp only[De,UK]at b0;have⟨ht,b2,c2⟩:=b0;obtain rfl:=NN ht;have p1:fi= #[]:=SR (by rw[<-Il,c2];rfl);have r1:c.args= #[]:=SR (by rw[<-Il,b2];rfl);subst p1;have q0:=O0 d.mf co;have u1:=O0 d.de co;have Q0:bL h0 (ca.toList.map (ev fr.T)) (ca.toList.map a1.eval):=jQ _ (λo hx=>k0.By i0.rk (fj q0 o (by rw[d1];simpa[Op.operands]using hx)));let cv:Φ:=.func (.func g) #[] (ca.toList.map a1.eval).toArray
      have d2:bs h0 (.func (.func g) #[] (ca.toList.map (ev fr.T)).toArray) cv:=.func g _ _ _ _ rfl co (λj u u' p q=>by simp at p) (λj u u' p q=>Q0.2 j u u' (by simpa using p) (by simpa using q));have e2:ca.map a1.eval=(ca.toList.map a1.eval).toArray:=by apply UF;simp
      let dd:Deferred:={target:=.fn (.func g) (ca.toList.map a1.eval).toArray,args:= #[]}
      let a2:Act:=a1.put (some t) cv
      let a3:Act:=({a2 with defers:=dd::a2.defers}:Act).put d.de.dst undef
      have v1:dA h0 (put fr.T (some t) (.func (.func g) #[] (ca.toList.map (ev fr.T)).toArray)) a2 d.fn.ntmps:=k0.put (λx hx=>dJ q0 x (by rw[p0];exact hx)) d2
      have g2:dA h0 (put (put fr.T (some t) (.func (.func g) #[] (ca.toList.map (ev fr.T)).toArray)) d.de.dst undef) a3 d.fn.ntmps:=
       dA.put (a:=({a2 with defers:=dd::a2.defers}:Act)) ⟨v1.1,v1.2⟩ (dJ u1) bs.undef
      have i2:t<d.fn.ntmps:=dJ q0 t p0;have j2:a2.eval (.tmp t)=cv:=by
       have:t<a1.tmps.size:=by rw[k0.1];exact i2
       simp[a2,Act.put,Act.eval,this]
      refine wpIn_seq (wpIn_region_list ?_);unfold wpListIn;have k2:Region.wanted d.mf (yielded #[d.mf,d.de] a1.tmps):=by unfold Region.wanted;rw[K1]
      rw[F6 k2];refine⟨λ_ _=>trivial,?_⟩;rw[Oper.semAt_eq _ _ _ (λc hc=>by rw[d1]at hc;cases hc)];have e1:(execOp a1.eval d.mf).run P w1=.ok (.value cv) w1:=by unfold execOp;rw[d1];simp[Instr.makeFunc,cv,e2]
      rw[e1,Oper.uponIn_value];unfold wpListIn;rw[p0];have l2:Region.wanted d.de (yielded #[d.mf,d.de] (a1.put (some t) cv).tmps):=by unfold Region.wanted;rw[O1]
      rw[F6 l2];refine⟨λ_ _=>trivial,?_⟩;have g1:(d.de.semAt (dG none).round a2.eval).run P w1=.ok (.defer dd) w1:=by show(d.de.semAt none a2.eval).run P w1=_;rw[Oper.semAt_none];unfold execOp;rw[T1];unfold resolve;dsimp only;rw[o1];dsimp only;rw[j2,r1];simp[Deferred.ofValue,cv,dd]
      have y0:(d.de.semAt (dG none).round (a1.put (some t) cv).eval).run P w1=.ok (.defer dd) w1:=g1;rw[y0,Oper.uponIn_defer];unfold wpListIn;have i1:a3.defers=dd::n0:=by show(Act.put _ _ _).defers=_;rw[put_defers];show dd::(a1.put (some t) cv).defers=_;rw[put_defers,o0]
      show d.post.wpIn (dG none) 0 P _ a3 w1
      have fin:∀(e:Ex) (d0:Fr),e=.normal\/e=.ret->bH E call n d.post {T:=put (put fr.T (some t) (.func (.func g) #[] (ca.toList.map (ev fr.T)).toArray)) d.de.dst undef,m:=fr.m}=some (e,d0)->
        (match FC E (bH E call n) g (ca.toList.map (ev fr.T)) d0.m with
         |some m3=>C7 E d.fn m {d0 with m:=m3}
         |none=>none)=some (v,m')->d.post.wpIn (dG none) 0 P (bodyPostM Fence.wide 0 P d.fn (dP P σ m w v m')) a3 w1:=by
       intro e d0 j1 r0 e0;refine ja hE cE d.post _ e d0 H.2 r0 none 0 w1.heap.size h0 a3 w1 _ (dd::n0) (.inl rfl) g2 i0.rk ⟨[],by rw[i1];rfl,trivial⟩ (ID _) λy1 a4 w2 o2 u2 _ l0=>?_;have⟨v2,A1,B1⟩:=u2;have A0:LeavesInM Fence.wide 0 P d.fn a4.tmps (dP P σ m w v m') a4.defers .returning w2:=by
        rw[A1];have y2:=i0.hle;refine uk (K:=λw'=>Ev P h0 fr.m w1 y1 d0.m w'/\oL w.heap.size y1 w' n0) (base:=w1.heap.size) (λW r o hr z2 hk=>⟨hk.1.im hr z2,hk.2.im λd' A2 e=>?_⟩) y2 v2 w2 B1 (i0.trans l0) ⟨l0,P0.ev l0⟩ λw3 G1 B2=>?_;·have⟨r',h1,h2⟩:=P0.lt d' A2;rw[e]at h1;cases h1;omega
        ·have⟨G2,M2⟩:=B2;cases s0:FC E (bH E call n) g (ca.toList.map (ev fr.T)) d0.m with
         |none=>rw[s0]at e0;cases e0
         |some m3=>rw[s0]at e0;dsimp only at e0;obtain⟨O2,P2⟩:=Nc (args':= #[]++(ca.toList.map a1.eval).toArray) hE cE s0 G1.rk (by simpa using Q0.mono G2.ext);refine⟨co,.inr ⟨λhh=>by simp[Fence.wide]at hh,.func g,_,g,_,rfl,P2,λ_ _=>trivial,O2.mono λe u' w' hx=>?_⟩⟩;obtain⟨rfl,v',rfl,σ',u0⟩:=hx;exact kz n0 w' (M2.ev u0) (G1.trans u0) λw4 Q2=>yz hE e0 F.2.2 hs (o2.mono u0.ext) Q2
       rcases j1 with rfl|rfl <;>exact A0
      split at h;·cases h
      ·cases h
      ·rename_i e d0 T2 r0;refine fin e d0 ?_ r0 h;cases e with
       |normal=>exact .inl rfl
       |ret=>exact .inr rfl
       |exit id=>exact absurd rfl (T2 id)
    cases h
   cases h
  cases h
theorem vg(hE:E.OK P){X:aF}(hX:cM P X){n:Nat}(ih:cM P (bU E X n)){f:FuncId}{args:ν}{v:Φ}(h:bU E X (n+1) (.func f) args m=some (v,m')){args':Array Φ}(hs:eU P σ m w)(hl:bL σ args args'.toList):
  CallsIn Fence.wide 0 P f args' w (dP P σ m w v m')/\(callFunc f args').run P w=.ok (.enter f args') w:=by
 unfold bU at h;split at h
 ·rename_i r hr;cases h;exact hX.func f args m v m' hr σ w args' hs hl
 split at h
 ·split at h;rename_i d hd;exact HG hE ih hd h hs hl;cases h
 ·rename_i fn k0;have l0:=hE.fn f fn k0;have d0:=hE.code k0;unfold mS at d0;simp only[De]at d0;split at h
  ·cases h
  ·rename_i body H;rw[H]at d0
   cases hle:Nat.ble args.length fn.ntmps with
   |false=>rw[hle]at h;simp at h
   |true=>
    rw[hle]at h
    simp only[gc]at h
    have hle:=IG hle
    have n0:(callFunc f args').run P w=.ok (.enter f args') w:=by
     have g0:(fn.name== "runtime.NumGoroutine")=false:=by simpa using d0.2.1
     unfold callFunc
     simp only[Na,run_program,S4,l0,g0,H]
     rfl
    refine⟨?_,n0⟩
    have p0:=hs.low m.n
    have o0:=nj (nt:=fn.ntmps) hl hle
    have go:∀(e:Ex) (fr:Fr),e=.normal\/e=.ret->bH E (bU E X n) n body {T:=enter args 0,m:={m with low:=m.n}}=some (e,fr)->
      (match result? E fn fr.T fr.m with
       |none=>none
       |some v=>bif aZ v && Nat.ble m.n fr.m.low then some (v,m)else some (v,{fr.m with low:=min m.low fr.m.low}))=some (v,m')->CallsIn Fence.wide 0 P f args' w (dP P σ m w v m'):=by
     intro e fr h0 hex F
     apply callsIn_of_wp_marks l0 H trivial
     refine ja hE ih body _ e fr d0.1 hex none 0 w.heap.size σ _ w _ [] (.inl rfl) o0 p0 ⟨[],rfl,trivial⟩ (ID _) λq0 a1 w1 r0 e0 _ s0=>?_
     have⟨ms,i0,e0⟩:=e0
     have i0:a1.defers=ms:=by rw[i0,Y4]
     rw[<-i0]at e0
     have b0:LeavesInM Fence.wide 0 P fn a1.tmps (dP P σ m w v m') a1.defers .returning w1:=by
      refine kz a1.defers w1 e0 s0 λw2 j0=>?_
      cases hr:result? E fn fr.T fr.m with
      |none=>rw[hr]at F;cases F
      |some v1=>
       rw[hr]at F
       dsimp only at F
       obtain⟨v',q1,q2⟩:=vT hE j0.rk r0 (λr hr=>by
        have:=Jo.1 d0.2.2 r hr
        cases r <;>exact this) hr
       refine⟨v',q1,?_⟩
       cases hb:(aZ v1 && Nat.ble m.n fr.m.low)with
       |true=>
        rw[hb]at F
        cases F
        simp only[De]at hb
        have u0:=q2.zs hb.1
        subst u0
        exact⟨_,σ,rfl,bs.gI hb.1,Ev.forget hs j0 (IG hb.2)⟩
       |false=>
        rw[hb]at F
        cases F
        exact⟨_,q0,rfl,q2,j0.Bi⟩
     rcases h0 with rfl |rfl
     ·exact b0
     ·exact b0
    split at h
    ·cases h
    ·cases h
    ·rename_i e fr g0 hex
     refine go e fr ?_ hex h
     cases e with
     |normal=>exact .inl rfl
     |ret=>exact .inr rfl
     |exit id=>exact absurd rfl (g0 id)
theorem AY:∀(ps:List Tmp) (args args':ν) (T:Tr Φ) (tmps:Array Φ) (ds:List Deferred),dA σ T {tmps,defers:=ds} nt->(∀p∈ps,p<nt)->bL σ args args'->
  dA σ (xT T (ps.zip args)) {tmps:=(ps.zip args').foldl (λtmps x=>tmps.setIfInBounds x.1 x.2) tmps,defers:=ds} nt
 |[],_,_,_,_,_,h,_,_=>h
 |p::ps,[],args',T,tmps,ds,h,_,F=>by obtain rfl:=F.nil_eq;exact h
 |p::ps,v::args,x,T,tmps,ds,h,hp,F=>by obtain⟨v',args',rfl,hv,H⟩:=F.cases;have h2:=h.put (dst:=some p) (λd hd=>dg) hv;exact AY ps args args' (T.set p v) (tmps.setIfInBounds p v') ds h2 (λq hq=>hp q (Wm _ hq)) H
def Ev.loop{i:BI}{r r2:CO}{H r2':Loop}(hs:eU P σ m w)(hb:σ b=some i)(hm:m.get b=.loop r)(hr:w.heap[i.dK]?=some (.loop H))(hh:∀w',w'.heap[i.dK]?=some (.loop r2')->Holds σ i w' (.loop r2)):
  Ev P σ m w σ (m.set b (.loop r2)) (w.putObj i.dK (.loop r2')):=by have F:i.dK<w.heap.size:=(Q7.1 hr).1;exact Ev.write hs hb be (hh _ (World.putObj_heap_same F)) (λB hB=>World.putObj_heap_other hB) co rfl rfl rfl
def M.Fl{r r2:CO}(h:m.get b=.loop r):(m.set b (.loop r2)).get b=.loop r2:=by have:b<m.n:=M.nP be;rw[M.cF _ _ _ _ this,F6 rfl]
theorem Gx(hE:E.OK P){X:aF}{n:Nat}(ih:cM P (bU E X n)){l:Nat}{args:ν}{v:Φ}(h:xX (bH E (bU E X n) n) E.G l args m=some (v,m')){i:BI}{args':Array Φ}(hs:eU P σ m w)(hl:σ l=some i)(ha:bL σ args args'.toList):
  eM P σ m w ((Instr.yield i.dK args').run P w) v m':=by
 unfold xX at h;split at h
 ·rename_i r hr;have ho:=hs.obj _ _ hl;rw[hr]at ho;have⟨v1,H,nt,q1,q2,q3,q4,q5,q6,q7,q8,q9,ZL,u0,y1⟩:=ho;cases hb:(Nat.beq args.length r.ps.size && Nat.beq r.G E.G)with
  |false=>rw[hb]at h;simp at h
  |true=>
   rw[hb]at h;simp only[gc]at h;simp only[De]at hb;have hlen:=NN hb.1;have hG:=NN hb.2;rw[hE.G]at hG;rw[hG]at q9 ZL;have y0:args'.size=H.params.size:=by
    have:=ha.1;grind
   rw[run_yield q1 y0];let R:Ending->World->Prop:=dP P σ m w v m'
   suffices F:∀(ro:Option Nat) (k:Nat),RoundIn (dG ro) k P i.dK H.fn ((H.params.zip args').foldl (λtmps (t,a)=>tmps.setIfInBounds t a) H.tmps) H.assign H.body w R by
    refine⟨?_,λro k o a next Q hk=>?_⟩
    ·obtain⟨e,w',⟨v',σ',_,hv,he⟩,_⟩:=(F none 0).2 default [] (room_wide _);grind
    ·refine⟨λhh=>by simp[dG,Fence.wide]at hh,(F ro (k-1)).mono λe w' he=>?_⟩;obtain⟨v',σ',rfl,hv,A1⟩:=he;grind
   intro ro k;apply roundIn_of_wpIn trivial;have A0:dA σ (xT r.T (r.ps.toList.zip args)) {tmps:=((H.params.zip args').foldl (λtmps (t,a)=>tmps.setIfInBounds t a) H.tmps),defers:=[]} nt:=by
    have h0:dA σ r.T {tmps:=H.tmps,defers:=[]} nt:=⟨q7,λt ht=>q8 t ht⟩
    have h1:=AY r.ps.toList args args'.toList r.T H.tmps [] h0 u0 ha;have e:(H.params.zip args').foldl (λtmps (t,a)=>tmps.setIfInBounds t a) H.tmps=(r.ps.toList.zip args'.toList).foldl (λtmps x=>tmps.setIfInBounds x.1 x.2) H.tmps:=by rw[<-Of,Array.toList_zip,q4]
    grind
   rw[q5,q6];split at h
   ·rename_i B0 hx;split at h
    ·rename_i r1 i0;split at h
     ·rename_i u1;split at h
      ·rename_i e j0 O0;split at h
       ·rename_i r2 l0;refine ja hE ih r.assign _ .normal B0 q9 hx (some i.dK) k 0 σ _ w _ [] (.inr ⟨l,i,r,rfl,hl,hr⟩) A0 (hs.low m.n) ⟨[],rfl,trivial⟩ (PS _) λP0 a1 w1 Q0 b1 _ d0=>?_;have e0:=d0.ext _ _ hl;have n0:=d0.rk.obj _ _ e0;rw[i0]at n0;have⟨o0,c1,d1,p1,p2,p3,p4,p5,p6,p7,p8,p9,e1,g1,i1⟩:=n0;refine⟨_,run_beginRound p1 be,?_⟩;have b0:=Ev.loop (r2:={r1 with st:=.busy}) (r2':={c1 with state:=.busy}) d0.rk e0 i0 p1 λw' k0=>⟨o0,_,d1,k0,rfl,p3,p4,p5,p6,p7,p8,p9,e1,g1,i1⟩
        refine ja hE ih r.body _ e j0 ZL O0 (some i.dK) k 0 P0 a1 _ _ [] (.inr ⟨l,i,_,rfl,e0,M.Fl i0⟩) Q0 b0.rk (b1.ev b0) (PS _) λj1 a2 w2 B1 G1 _ g0=>?_;have p0:=g0.ext _ _ e0;have q0:=g0.rk.obj _ _ p0;rw[l0]at q0;have⟨r0,r2',k1,z1,z2,z3,z4,z5,z6,z7,z8,z9,l1,o1,H1⟩:=q0;have s0:=(d0.trans b0).trans g0;have fin:∀(j:Option Ex),j≠some .normal->∃v' w',(Instr.endRound i.dK (j.map yC)).run P w2=.ok v' w'/\(v=.bool (j.map yC).isNone->m'={j0.m.set l (.loop {r2 with st:=if(j.map yC).isNone then .ready else .done,zM:=j})with low:=min m.low (j0.m.set l (.loop {r2 with st:=if(j.map yC).isNone then .ready else .done,zM:=j})).low}->R (.returned v') w'):=by intro j hj;refine⟨_,_,run_endRound (j.map yC) z1,λhv hm=>?_⟩;subst hv hm;refine⟨_,j1,rfl,.flat _ rfl,Ev.Bi (s0.trans ?_)⟩;exact Ev.loop g0.rk p0 l0 z1 λw' k0=>⟨r0,_,k1,k0,rfl,rfl,z4,z5,z6,z7,z8,z9,l1,o1,hj⟩
        cases e with
        |normal=>cases h;obtain⟨v',w',f1,f2⟩:=fin none co;exact⟨v',w',f1,f2 rfl rfl⟩
        |exit id=>cases h;obtain⟨v',w',f1,f2⟩:=fin (some (.exit id)) co;exact⟨v',w',f1,f2 rfl rfl⟩
        |ret=>cases h;obtain⟨v',w',f1,f2⟩:=fin (some .ret) co;exact⟨v',w',f1,f2 rfl rfl⟩
       cases h
      cases h
     cases h
    cases h
   cases h
 cases h
theorem jT(hE:E.OK P){X:aF}(H:cM P X):∀n,cM P (bU E X n)
 |0=>⟨λf args m v m' h=>by simp[bU]at h,λl args m v m' h=>by simp[bU]at h,wY H.aY 0,λa m v m' b h=>by simp[bU]at h⟩
 |n+1=>⟨λf args m v m' h σ w F hs hl=>vg hE H (jT hE H n) h hs hl,λl args m v m' h σ w i F hs hl ha=>by
   unfold bU at h;exact Gx hE (jT hE H n) h hs hl ha,wY H.aY (n+1),λa m v m' b h hb=>by
   unfold bU at h;split at h
   ·rename_i r hr;cases h;exact H.Nw a m v m' b hr hb
   ·rw[hE.st.1]at h;dsimp only at h;rw[hE.st.2]at h;cases h⟩
theorem wX(hE:E.OK P){X:aF}(F:cM P X){n:Nat}{f:FuncId}{args:ν}{v:Φ}(h:bU E X n (.func f) args m=some (v,m')){args':Array Φ}(H:eU P σ m w)(hl:bL σ args args'.toList):
  Calls P f args' w (dP P σ m w v m'):=by cases n with|zero=>simp[bU]at h|succ n=>exact callsIn_wide.1 (vg hE F (jT hE F n) h H hl).1
def Wy:aF:=λ_ _ _=>none
def Wx:cM P Wy:=⟨λf args m v m' h=>by simp[Wy]at h,λl args m v m' h=>by simp[Wy]at h,λf args m v m' h=>by simp[Wy]at h,λa m v m' b h=>by simp[Wy]at h⟩
end
section
def M.wl(m:M)(l:Nat):M:={m with low:=l}
variable{m:M}{l k b:Nat}{o:Ob}
theorem M.dF:(m.wl l).get b=m.get b:=rfl
theorem M.AH:(m.wl l).low=l:=rfl
theorem M.JI:(m.wl l).wl k=m.wl k:=rfl
theorem M.JJ:(m.wl l).push o=(m.push o).wl l:=rfl
theorem M.NI:(m.wl l).set b o=(m.set b o).wl (min l b):=rfl
theorem M.lg:(m.push o).n=m.n+1:=rfl
structure bX{α:Type}(m:M)(f:M->Option (α×M)):Prop where
 eq:∀l,l<=m.n->f (m.wl l)=(f (m.wl m.n)).map (λr=>(r.1,r.2.wl (min l r.2.low)))
 Ny:∀r,f (m.wl m.n)=some r->m.n<=r.2.n
section
variable {α:Type} {m:M}
theorem bX.none:bX (α:=α) m (λ_=>none):=⟨λ_ _=>rfl,λ_ h=>by cases h⟩
def bX.same(v:α):bX m (λm=>some (v,m)):=⟨λl h=>by simp only[O6,M.AH,M.JI,Zh h],λr h=>by cases h;exact ID _⟩
def bX.push(v:α)(o:Ob):bX m (λm=>some (v,m.push o)):=⟨λl h=>by simp only[O6,M.JJ,M.AH,M.JI,Zh h],λr h=>by cases h;exact LW _⟩
theorem bX.set(v:α)(b:Nat)(o:Ob):bX m (λm=>some (v,m.set b o)):=⟨λl h=>by simp only[O6,M.NI,M.AH,M.JI];congr 3;omega,λr h=>by cases h;exact ID _⟩
def bX.Tq(v:α)(b:Nat)(o F:Ob):bX m (λm=>some (v,(m.set b o).push F)):=⟨λl h=>by simp only[O6,M.NI,M.JJ,M.AH,M.JI];congr 3;omega,λr h=>by cases h;exact LW _⟩
def bX.of_eq{f g:M->Option (α×M)}(h:bX m g)(e:∀l,f (m.wl l)=g (m.wl l)):bX m f:=⟨λl F=>by rw[e,e,h.eq l F],λr H=>h.Ny r be⟩
end
noncomputable section
variable {E:Env} {m:M}
theorem cj{l:Nat}:loadCells (m.wl l) a n=loadCells m a n:=rfl
theorem BM{l:Nat}:loadVar E (m.wl l) t a=loadVar E m t a:=rfl
theorem dH{l:Nat}:rG (m.wl l) a=rG m a:=rfl
theorem cQ{l s:Nat}:first? (m.wl l) s n x=first? m s n x:=rfl
theorem eO{l:Nat}:qz E (m.wl l) t x=qz E m t x:=rfl
theorem adn{l:Nat}{a b c:Option Φ}:slice? E (m.wl l) t x a b c=slice? E m t x a b c:=rfl
theorem IV{l:Nat}{k:Φ}{ok:Bool}:eX E (m.wl l) t x k ok=eX E m t x k ok:=rfl
theorem acp{l:Nat}{s d:TypeId}:SJ E (m.wl l) s d x=SJ E m s d x:=rfl
def nC{v:Φ}:bX m (λm=>(storeCells m a vs).map λm=>(v,m)):=by unfold storeCells;cases h:m.get a.block with|cells c e g=>(cases F:(a.spot.isNone && Nat.ble (a.off+vs.length) c.length && vs.all one)with|true=>exact(bX.set v a.block _).of_eq (λl=>by simp only[M.dF,cj,cQ,eO,dH, *,gc,sI,O6,MO] <;>rfl)|false=>exact bX.none.of_eq (λl=>by simp only[M.dF,cj,cQ,eO,dH, *,gc,sI,O6,MO] <;>rfl))|_=>exact bX.none.of_eq (λl=>by simp only[M.dF,cj,cQ,eO,dH, *,gc,sI,O6,MO] <;>rfl)
def MC{e k:Nat}{base:Option Addr}{sl H F:Nat}{news:ν}:bX m (λm=>oH m e k base sl H F news):=by unfold oH;cases base with|none=>(cases (Nat.beq sl 0 && Nat.beq H 0)with|true=>exact bX.of_eq (bX.push (RZ m.n 0 F F) _) (λl=>rfl)|false=>exact bX.none)|some a=>cases h:m.get a.block with|cells c te g=>(cases ho:(bif Nat.beq sl 0 then some []else loadCells m a (sl*k))with|none=>exact bX.none.of_eq (λl=>by simp only[M.dF,cj,cQ,eO,dH, *,gc,sI,O6,MO] <;>rfl)|some iE=>cases h1:(g.isNone ||(g==some k && Nat.blt (a.off+H*k) c.length))with|true=>exact bX.of_eq (bX.push (RZ m.n 0 F F) (.cells (iE++news) e (some k))) (λl=>by simp only[M.dF,cj,cQ,eO,dH, *,gc,sI,O6,MO] <;>rfl)|false=>cases h2:(g==some k && Nat.beq a.off 0 && a.spot.isNone && Nat.beq (sl*k) c.length && Nat.beq H sl && Nat.beq te e)with|true=>exact bX.of_eq (bX.Tq (RZ m.n 0 F F) a.block .dead (.cells (iE++news) e (some k))) (λl=>by simp only[M.dF,cj,cQ,eO,dH, *,gc,sI,O6,MO] <;>rfl)|false=>exact bX.none.of_eq (λl=>by simp only[M.dF,cj,cQ,eO,dH, *,gc,sI,O6,MO] <;>rfl))|_=>exact bX.none.of_eq (λl=>by simp only[M.dF,cj,cQ,eO,dH, *,gc,sI,O6,MO] <;>rfl)
def HQ{u:TypeId}{s:Φ}:bX m (λm=>eC E m t u s x):=by unfold eC;split;rename_i F ui base sl H n _ _ _;split;exact bX.none;rename_i e _ _;(cases h1:E.ty.get e with|none=>exact bX.none|some ei=>cases h2:first? m F.es n x with|none=>exact bX.none.of_eq (λl=>by simp only[M.dF,cj,cQ,eO,dH, *,gc,sI,O6,MO] <;>rfl)|some news=>cases h3:(Nat.beq F.es 0 ||Nat.blt 65536 ei.bytes || !news.all one ||Nat.blt 268435456 (sl+n) || !Nat.beq news.length (n*F.es) || !iK ei.zero F.es)with|true=>exact bX.none.of_eq (λl=>by simp only[M.dF,cj,cQ,eO,dH, *,gc,sI,O6,MO] <;>rfl)|false=>cases h4:Nat.ble (sl+n) H with|false=>exact MC.of_eq (λl=>by simp only[M.dF,cj,cQ,eO,dH, *,gc,sI,O6,MO] <;>rfl)|true=>cases base with|none=>(cases h5:Nat.beq n 0 with|true=>exact bX.of_eq (bX.same (.slice none sl H)) (λl=>by simp only[M.dF,cj,cQ,eO,dH, *,gc,sI,O6,MO] <;>rfl)|false=>exact bX.none.of_eq be)|some a=>cases h5:Nat.beq n 0 with|true=>exact bX.of_eq (bX.same (.slice (some a) (sl+n) H)) (λl=>by simp only[M.dF,cj,cQ,eO,dH, *,gc,sI,O6,MO] <;>rfl)|false=>exact bX.of_eq (nC (v:=.slice (some a) (sl+n) H) (a:=a.add (sl*F.es)) (vs:=news)) (λl=>by simp only[M.dF,cj,cQ,eO,dH, *,gc,sI,O6,MO] <;>rfl));exact bX.none;exact bX.none
def M8{d:Φ}:bX m (λm=>Cr E m t d x):=by unfold Cr;split;rename_i F base dl _ xl _ _;(cases h2:first? m F.es (min xl dl) x with|none=>exact bX.none.of_eq (λl=>by cases H:F.d <;>simp only[cQ,h2,H])|some cs=>cases H:F.d with|slice e=>(cases h3:Nat.beq F.es 0 with|true=>exact bX.none.of_eq be|false=>cases base with|none=>exact bX.of_eq (bX.same (Ω (min xl dl:Nat))) (λl=>by simp only[M.dF,cj,cQ,eO,dH, *,gc,sI,O6,MO] <;>rfl)|some a=>cases h5:Nat.beq (min xl dl) 0 with|true=>exact bX.of_eq (bX.same (Ω (min xl dl:Nat))) (λl=>by simp only[M.dF,cj,cQ,eO,dH, *,gc,sI,O6,MO] <;>rfl)|false=>exact bX.of_eq (nC (v:=Ω (min xl dl:Nat)) (a:=a) (vs:=cs)) (λl=>by simp only[M.dF,cj,cQ,eO,dH, *,gc,sI,O6,MO] <;>rfl))|_=>exact bX.none.of_eq be);exact bX.none
def Jm:bX m (λm=>sF E m t x):=by unfold sF;split;exact bX.same _;rename_i F a n _ _;(cases Nat.beq n 0 with|true=>exact bX.same _|false=>split;split;exact nC;exact bX.none;exact bX.none);exact bX.none
def C3{k:Φ}:bX m (λm=>jk E m t x k):=by unfold jk;split;rename_i F r _;(cases h:m.get r with|map es clock=>(cases F.d with|map H et=>(cases h1:keyed E H k with|false=>exact bX.none.of_eq be|true=>cases h2:findKey E H k es 0 with|none=>exact bX.none.of_eq (λl=>by simp only[M.dF, *,gc,sI] <;>rfl)|some r2=>cases r2 with|none=>(cases hz:gW E et with|none=>exact bX.none.of_eq (λl=>by simp only[M.dF, *,gc,sI,MO] <;>rfl)|some z=>exact(bX.set (.tuple #[z,Ω clock]) r _).of_eq (λl=>by simp only[M.dF, *,gc,sI,O6] <;>rfl))|some p=>exact(bX.set (.tuple #[p.2,Ω (((es[p.1]?).map (·.born)).getD 0)]) r _).of_eq (λl=>by simp only[M.dF, *,gc,sI] <;>rfl))|_=>exact bX.none.of_eq be)|_=>exact bX.none.of_eq (λl=>by cases hd:F.d <;>simp only[M.dF,h,hd]));exact bX.none
def abr{v s y:Φ}:bX m (λm=>(fa m x s y).map λm=>(v,m)):=by unfold fa;split;rename_i r k b;(cases h:m.get r with|map es clock=>(cases F:tg b es 0 with|none=>exact bX.none.of_eq (λl=>by simp only[M.dF, *,MO] <;>rfl)|some i=>exact(bX.set v r _).of_eq (λl=>by simp only[M.dF, *,O6] <;>rfl))|_=>exact bX.none.of_eq (λl=>by simp only[M.dF, *,MO] <;>rfl));exact bX.none
def ac0{b:Builtin}:bX m (λm=>aR E m b ts args):=by unfold aR;split;exact HQ;exact M8;exact Jm;rename_i t x;(cases h:qz E m t x with|none=>exact bX.none.of_eq (λl=>by simp only[M.dF,cj,cQ,eO,dH, *,gc,sI,O6,MO] <;>rfl)|some v=>exact(bX.same v).of_eq (λl=>by simp only[M.dF,cj,cQ,eO,dH, *,gc,sI,O6,MO] <;>rfl));(cases h:(eh (λx y=>if y<x then y else x) args)with|none=>exact bX.none|some v=>exact bX.same v);(cases h:(eh (λx y=>if y >x then y else x) args)with|none=>exact bX.none|some v=>exact bX.same v);split;split;rename_i e a y c _;(cases h:rG m a with|true=>exact bX.none.of_eq (λl=>by simp only[dH,h,gc])|false=>exact(bX.same (Ω c)).of_eq (λl=>by simp only[dH,h,sI]));exact bX.same _;exact bX.none;exact bX.none;exact bX.none
end
end
section
inductive KV where
 |u
 |v (x:Φ)
def KV.val:KV->Φ
 |.u=>undef
 |.v x=>x
inductive KT where
 |e
 |c (t:Nat) (x:Option KV) (r:KT)
def KT.get(K:KT):Nat->Option KV:=
 KT.rec (motive:=λ_=>Nat->Option KV) (λ_=>none) (λt x _ g i=>bif Nat.beq t i then x else g i) K
def KT.set(K:KT)(t:Nat)(x:KV):KT:=.c t (some x) K
def KT.del(K:KT)(t:Nat):KT:=.c t none K
def KT.VC{t:Nat}{x:Option KV}{r:KT}:(KT.c t x r).get i=if i=t then x else r.get i:=by show(bif Nat.beq t i then x else r.get i)=_;cases h:Nat.beq t i with|true=>rw[F6 (NN h).symm];rfl|false=>rw[Od λe=>Er h e.symm];rfl
def KT.cF(K:KT)(t i:Nat)(x:KV):(K.set t x).get i=if i=t then some x else K.get i:=KT.VC
def KT.Ur(K:KT)(t i:Nat):(K.del t).get i=if i=t then none else K.get i:=KT.VC
structure St where
 K:KT
 m:M
 lo:Nat
def Kn(K:KT)(T:Tr Φ):Prop:=∀t v,K.get t=some v->T.get t=some v.val
noncomputable section
def oN(K:KT)(dst:Option Tmp)(v:KV):KT:=
 match dst with
 |some d=>K.set d v
 |none=>K
def mN(K:KT):Operand->Option Φ
 |.tmp t=>match K.get t with |some k=>some k.val |none=>none
 |.const v=>some v
 |.global g=>some (.pointer (some ⟨g,0,none⟩))
 |.func f=>some (.func (.func f) #[] #[])
def Cg(K:KT):List Operand->Option (ν)
 |[]=>some []
 |x::xs=>match mN K x with
  |some v=>match Cg K xs with
   |some F=>some (v::F)
   |none=>none
  |none=>none
def RM(K:KT):List (Nat×Operand)->Option (List (Nat×Φ))
 |[]=>some []
 |p::xs=>match mN K p.2 with
  |some v=>match RM K xs with
   |some F=>some ((p.1,v)::F)
   |none=>none
  |none=>none
def evO(K:KT):Option Operand->Option (Option Φ)
 |none=>some none
 |some x=>match mN K x with |some v=>some (some v) |none=>none
variable (E:Env) (X:aF)
def Cl(f:Fn)(args:ν)(m:M)(b:Nat)(v:Φ)(m':M):Prop:=
 m.n<=m'.n/\b<=m.n/\∃F,∀n,F<=n->∀l,l<=m.n->bU E X n f args (m.wl l)=some (v,m'.wl (min l b))
def V(c:Code)(s:St)(Q:Ex->St->Prop):Prop:=
 ∀T,Kn s.K T->s.lo<=s.m.n->∃e F H,Q e F/\Kn F.K H/\s.m.n<=F.m.n/\F.lo<=F.m.n/\∃n0,∀n,n0<=n->
  bH E (bU E X n) n c ⟨T,s.m.wl s.lo⟩=some (e,⟨H,F.m.wl F.lo⟩)
def aS{α:Type}(r:Option α)(P:α->Prop):Prop:=match r with |some x=>P x |none=>False
def dn{α β:Type}(r:Option (α×β))(P:α->β->Prop):Prop:=match r with |some x=>P x.1 x.2 |none=>False
def od(m:M)(P:M->Prop):Prop:=P m
def lR(b:Bool)(P Q:Prop):Prop:=match b with |true=>P |false=>Q
def iR(v:Φ)(P Q:Prop):Prop:=match v with |.bool b=>lR b P Q |_=>False
def rn(v:Φ)(P:Fn->Array Φ->Array Φ->Prop):Prop:=match v with |.func g F H=>P g F H |_=>False
def lM(f:Fn)(args:ν)(m:M)(P:Φ->M->Nat->Prop):Prop:=∃v m' b,Cl E X f args m b v m'/\P v m' b
def UU(F:Bool)(c:Prop)(P:Prop):Prop:=match F with |true=>c/\P |false=>P
def un(vs:ν)(P:Φ->ν->Prop):Prop:=match vs with |v::r=>P v r |[]=>False
variable {E}
def EY(v:Φ):Option Φ:=match v with |.pointer (some a)=>some (.pointer (some a)) |.func (.func f) a b=>some (.func (.func f) a b) |_=>none
def mi(v:Φ)(i:Nat):Option Φ:=match v with |.tuple F=>F.toList[i]? |_=>none
variable (E)
def aC(m:M)(t:TypeId)(a:Φ):Option Φ:=match a with |.pointer (some a)=>loadVar E m t a |_=>none
def bw(m:M)(t:TypeId)(a x:Φ):Option (M×Nat):=match a with |.pointer (some a)=>(match storeVar E m t a x with |some m1=>some (m1,a.block) |none=>none) |_=>none
def lP(m:M)(t:TypeId)(x k y:Φ):Option (M×Nat):=match x with |.map (some r)=>(match fo E m t x k y with |some m1=>some (m1,r) |none=>none) |_=>none
def ptrTo(b:Nat):Φ:=.pointer (some ⟨b,0,none⟩)
def jn(G:(ν->M->Nat->Prop)->Prop)(k:ν->M->Nat->Prop):Prop:=G k
def Lp(F:(ν->M->Nat->Prop)->ν->M->Nat->Prop)(vs:ν)(m:M)(lo:Nat):Prop:=
 ∃(H:Type) (μ:H->Nat) (I:H->ν->M->Nat->Prop),(∃g,I g vs m lo)/\
  ∀g vs m lo,I g vs m lo->F (λvs m lo=>∃g',μ g' < μ g/\I g' vs m lo) vs m lo
def Ex.Nx(e:Ex)(P Q:Prop):Prop:=match e with |.normal=>P |_=>Q
structure Ky(y:Nat)(m m':M):Prop where
 n:m.n<=m'.n
 get:∀c,c < m.n->c≠y->m'.get c=m.get c
structure Ext(m m':M):Prop where
 n:m.n<=m'.n
 get:∀b,b < m.n->m'.get b=m.get b
inductive ZP where
 |ob (φ:Ob->Prop)
 |own (P:Nat)
def EX(P:Nat)(m:M)(c:Nat):Prop:=∀v e g,m.get P=.cells [v] e g->∀a n k,v=.slice (some a) n k->c≠a.block
@[reducible] def ZP.gen:ZP->M->M->Nat->Prop
 |.ob F,m1,m2,c=>F (m1.get c)->m2.get c=m1.get c
 |.own P,m1,m2,c=>EX P m1 c->m2.get c=m1.get c/\EX P m2 c
@[reducible] def ZP.rel:ZP->Nat->M->M->M->Nat->Prop
 |.ob F,y,_,m2,m3,c=>(c=y\/F (m2.get c))->m3.get c=m2.get c
 |.own P,y,m1,m2,m3,c=>P < y/\(c=y->m3.get c=m2.get c)/\(EX P m1 c->m3.get c=m2.get c/\EX P m3 c)
def ZD(fr:ZP)(g:Fn)(fi ca:ν)(xs:List (ν))(H:M->Prop):Prop:=
 ∀(y F B:Nat) (I:Nat->M->Prop) (J:M->Prop) (m:M),(∀i m1,I i m1->H m1)->(∀i m1 m2,I i m1->Ext m1 m2->I i m2)->(∀m1 m2,J m1->Ext m1 m2->J m2)->
  y < F->F<=m.n->B<=F->
  (∀i args m1,F<=m1.n->xs[i]?=some args->I i m1->∃v m2 b,Cl E X (.yield y) args m1 b v m2/\B<=b/\b<=y/\(∀c,F<=c->c < m1.n->fr.gen m1 m2 c)/\((v=.bool true/\I (i+1) m2)\/(v=.bool false/\J m2)))->
  I 0 m->∃v m2 b,Cl E X g (fi++ .func (.yield y) #[] #[]::ca) m b v m2/\B<=b/\(I xs.length m2\/J m2)
def RF(g:Fn)(fi ca:ν)(m:M)(lo:Nat)(F:ν->M->(M->Ex->M->Nat->Prop)->Prop)(Q:M->Nat->Prop)(Qs:List (Ex×(M->Nat->Prop))):Prop:=
 ∃(fr:ZP) (xs:List (ν)) (Dt:M->Prop) (I:Nat->M->Prop) (J:Ex->M->Prop) (B:Nat),(∃k,g=.func k)/\ZD E X fr g fi ca xs Dt/\B<=m.n/\
  (∀i m1,I i m1->Dt m1)/\(∀i m1 m2,I i m1->Ky m.n m1 m2->I i m2)/\(∀e m1 m2,J e m1->Ky m.n m1 m2->J e m2)/\I 0 m/\
  (∀i args m1,m.n+1<=m1.n->xs[i]?=some args->I i m1->F args m1 λm2 e m3 H=>B<=H/\(∀c,m.n<=c->c < m1.n->fr.rel m.n m1 m2 m3 c)/\e.Nx (I (i+1) m3) (J e m3))/\
  (∀m2 iT,I xs.length m2->min lo B<=iT->Q m2 iT)/\(∀e m2 iT,e≠.normal->J e m2->min lo B<=iT->∃p∈Qs,p.1=e/\p.2 m2 iT)
def Vv(y:Nat)(m1 m:M)(P:M->Prop):Prop:=(∀c,y<=c->c < m1.n->m.get c=m1.get c)/\∀m2,m2.n=m.n->(∀c,c≠y->m2.get c=m.get c)->P m2
def Nu(vs:ν)(P:Prop):Prop:=match vs with |[]=>P |_=>False
structure Words where
 aS:{α:Type}->Option α->(α->Prop)->Prop
 dn:{α β:Type}->Option (α×β)->(α->β->Prop)->Prop
 od:M->(M->Prop)->Prop
 lM:Fn->ν->M->(Φ->M->Nat->Prop)->Prop
 un:ν->(Φ->ν->Prop)->Prop
 Nu:ν->Prop->Prop
 jn:((ν->M->Nat->Prop)->Prop)->(ν->M->Nat->Prop)->Prop
 Lp:((ν->M->Nat->Prop)->ν->M->Nat->Prop)->ν->M->Nat->Prop
 RF:Fn->ν->ν->M->Nat->(ν->M->(M->Ex->M->Nat->Prop)->Prop)->(M->Nat->Prop)->List (Ex×(M->Nat->Prop))->Prop
 Vv:Nat->M->M->(M->Prop)->Prop
@[reducible] def aG:Words:=⟨D.aS,D.dn,D.od,D.lM E X,D.un,D.Nu,D.jn,D.Lp,D.RF E X,D.Vv⟩
variable (W:Words)
abbrev jV:=Bool×Nat×Option (Nat×Bool)
def vP(ops:Array Oper)(j i t:Nat):Bool:=ops.toList.zipIdx.all λ(q,k)=> !(Nat.ble i k && Nat.blt k j && q.dst==some t)
def PF(F:Array Nat)(ops:Array Oper)(j:Nat)(x:Oper×Nat)(acc:Option (List jV)):Option (List jV):=
 bif x.2==j ||fN x.1.op ||(F.getD j 0).testBit x.2 ||(F.getD x.2 0).testBit j then acc
 else bif Nat.blt x.2 j then(match x.1.op with
  |.alloc _ |.box _ _=>acc
  |.load _ (.tmp t)=>bif vP ops j x.2 t then(match x.1.guard with
    |none=>acc.map ((true,t,none)::·)
    |some (g,want)=>match(ops.toList[g]?).bind (·.dst)with
     |some d=>bif vP ops j x.2 d then acc.map ((true,t,some (d,want))::·)else none
     |none=>none)else none
  |_=>bif qq x.1.op then acc else match lenOf x.1.op with
   |some t=>bif vP ops j x.2 t then acc.map ((false,t,none)::·)else none
   |none=>none)
 else none
def PE(ops:Array Oper)(j:Nat):Option (List jV):=ops.toList.zipIdx.foldr (PF (Region.before ops) ops j) (some [])
def mK(k:Option KV)(b:Nat):Prop:=match k with |some (.v (.pointer (some a)))=>a.block≠b |_=>False
def IM(k:Option KV):Prop:=match k with |some (.v (.map _))=>False |some _=>True |none=>False
def FP(k:Option KV)(want:Bool)(P:Prop):Prop:=match k with
 |some (.v (.bool b))=>(match b==want with |true=>P |false=>True)
 |some .u=>True
 |_=>False
def mL(K:KT)(b:Nat):List jV->Prop
 |[]=>True
 |(true,t,none)::ts=>mK (K.get t) b/\mL K b ts
 |(true,t,some (d,want))::ts=>FP (K.get d) want (mK (K.get t) b)/\mL K b ts
 |(false,t,_)::ts=>IM (K.get t)/\mL K b ts
def cndP(F:Bool)(H:Option (List jV))(K:KT)(c:Prop)(b:Nat)(P:Prop):Prop:=
 match F with
 |true=>(match H with |none=>c |some ts=>c\/mL K b ts)/\P
 |false=>P
def JP(c:Call):Bool:=match c.callee,c.args.toList with |.value (.func g),[_]=>Nat.beq g CU |_,_=>false
def KY(m:M)(args:ν):Option Nat:=match args with |[.pointer (some a)]=>uD m a |_=>none
def cndQ(F:Bool)(H:Option (List jV))(K:KT)(c:Prop)(bo:Option Nat)(b:Nat)(P:Prop):Prop:=
 match F with
 |true=>(match H with |none=>c |some ts=>c\/(bo=some b/\mL K b ts))/\P
 |false=>P
def ZT(b:Builtin)(ts:List TypeId)(args:ν)(F:Bool)(m:M)(lo:Nat)(P:Φ->M->Nat->Prop):Prop:=
 match b with
 |.len |.cap |.min |.max=>W.dn (aR E m b ts args) λv _=>P v m lo
 |_=>W.dn (aR E (m.wl m.n) b ts args) λv m1=>UU F (m.n<=m1.low) (P v m1 (min lo m1.low))
def HL(E:Env)(t:TypeId)(ok:Bool)(x:Φ):Option Φ:=match x with
 |.nilIface=>bif ok then(match gW E t with |some z=>some (.tuple #[z,.bool false]) |none=>none)else none
 |.iface F (.agg cs)=>bif ok && (Nat.beq F t && cs.toList.isEmpty)then(match E.ty.get t with
  |some H=>(match H.d with |.struct _=>some (.tuple #[.agg #[],.bool true]) |_=>none)
  |none=>none)else none
 |_=>none
def VW(o:Op)(F:Bool)(H:Option (List jV))(K:KT)(m:M)(lo:Nat)(P:Φ->M->Nat->Prop):Prop:=
 match o with
 |.move x |.assign x=>aS (mN K x) λx=>P x m lo
 |.pick c a b=>aS (mN K c) λc=>iR c (aS (mN K a) λa=>P a m lo) (aS (mN K b) λb=>P b m lo)
 |.alloc t=>aS (gW E t) λz=>W.od (m.push (.cells (cells z) t none)) λm1=>P (ptrTo m.n) m1 lo
 |.box t x=>aS (mN K x) λx=>W.od (m.push (.cells (cells x) t none)) λm1=>P (ptrTo m.n) m1 lo
 |.build t ps=>aS (RM K ps.toList) λps=>W.aS (bz E t ps) λv=>P v m lo
 |.buildSlice t n ps=>aS (RM K ps.toList) λps=>W.dn (aO E m t n ps) λv m1=>P v m1 lo
 |.load t a=>aS (mN K a) λa=>W.aS (aC E m t a) λv=>P v m lo
 |.store t a x=>aS (mN K a) λa=>aS (mN K x) λx=>W.dn (bw E m t a x) λm1 b=>cndP F H K (m.n<=b) b (P undef m1 (min lo b))
 |.nilCheck x=>aS (mN K x) λx=>aS (EY x) λv=>P v m lo
 |.binOp op t x y _=>aS (mN K x) λx=>aS (mN K y) λy=>W.aS (bE E op t x y) λv=>P v m lo
 |.unOp op _ x=>aS (mN K x) λx=>W.aS (CT op x) λv=>P v m lo
 |.convert s d x=>aS (mN K x) λx=>W.aS (SJ E m s d x) λv=>P v m lo
 |.makeFunc f a b=>aS (Cg K a.toList) λa=>aS (Cg K b.toList) λb=>match f with
  |.func f=>P (.func (.func f) a.toArray b.toArray) m lo
  |_=>False
 |.makeMap _ r=>match r with
  |none=>W.od (m.push (.map [] 0)) λm1=>P (.map (some m.n)) m1 lo
  |some _=>False
 |.makeSlice t l c=>aS (mN K l) λl=>aS (mN K c) λc=>W.dn (ic E m t l c) λv m1=>P v m1 lo
 |.slice t x a b c=>aS (mN K x) λx=>aS (evO K a) λa=>aS (evO K b) λb=>aS (evO K c) λc=>W.aS (slice? E m t x a b c) λv=>P v m lo
 |.fieldAddr s x f=>aS (mN K x) λx=>W.aS (az E s x f) λv=>P v m lo
 |.field t x f=>aS (mN K x) λx=>W.aS (Fs E t x f) λv=>P v m lo
 |.indexAddr t x i=>aS (mN K x) λx=>aS (mN K i) λi=>W.aS (aE E t x i) λv=>P v m lo
 |.index t x i=>aS (mN K x) λx=>aS (mN K i) λi=>W.aS (index? E t x i) λv=>P v m lo
 |.lookup t x i ok=>aS (mN K x) λx=>aS (mN K i) λi=>W.aS (eX E m t x i ok) λv=>P v m lo
 |.mapUpdate t x k y=>aS (mN K x) λx=>aS (mN K k) λk=>aS (mN K y) λy=>W.dn (lP E m t x k y) λm1 b=>UU F (m.n<=b) (P undef m1 (min lo b))
 |.insert t x k y=>aS (mN K x) λx=>aS (mN K k) λk=>aS (mN K y) λy=>W.dn (lP E m t x k y) λm1 b=>UU F (m.n<=b) (P undef m1 (min lo b))
 |.mapEntry t x k=>aS (mN K x) λx=>aS (mN K k) λk=>W.dn (jk E (m.wl m.n) t x k) λv m1=>UU F (m.n<=m1.low) (P v m1 (min lo m1.low))
 |.entryStore _ x s y=>aS (mN K x) λx=>aS (mN K s) λs=>aS (mN K y) λy=>W.aS (fa (m.wl m.n) x s y) λm1=>UU F (m.n<=m1.low) (P undef m1 (min lo m1.low))
 |.extract x i=>aS (mN K x) λx=>W.aS (mi x i) λv=>P v m lo
 |.typeAssert x _ t ok=>aS (mN K x) λx=>W.aS (HL E t ok x) λv=>P v m lo
 |.call c=>match c.callee with
  |.value f=>aS (mN K f) λf=>rn f λg fi ca=>aS (Cg K c.args.toList) λargs=>W.lM g (fi.toList++(args++ca.toList)) m λv m1 b=>bif JP c then cndQ F H K (m.n<=b) (KY m args) b (P v m1 (min lo b))else UU F (m.n<=b) (P v m1 (min lo b))
  |.builtin b=>aS (Cg K c.args.toList) λargs=>ZT E W b c.argTypes.toList args F m lo P
  |_=>False
 |_=>False
def Du(ops:Array Oper)(K:KT)(o:Oper)(P S:KT->Prop):Prop:=
 match o.guard with
 |none=>P K
 |some (j,want)=>match(ops.toList[j]?).bind (·.dst)with
  |some d=>match K.get d with
   |some (.v v)=>iR v (cond want (P (K.set d (.v (.bool true)))) (S (K.set d (.v (.bool true))))) (cond want (S (K.set d (.v (.bool false)))) (P (K.set d (.v (.bool false)))))
   |some .u=>S K
   |none=>False
  |none=>S K
def stq(s:St)(f:St->Prop):Prop:=match s with |⟨K,m,lo⟩=>f ⟨K,m,lo⟩
theorem OP{s:St}{f:St->Prop}:stq s f=f s:=rfl
def NT(d:Bool)(ops:Array Oper):List Oper->Nat->St->(St->Prop)->Prop
 |[],_,s,P=>P s
 |o::rest,j,s,P=>stq s λs=>Du ops s.K o
   (λK=>VW E W o.op (d && !(gj ops j)) (bif d && !(gj ops j)then PE ops j else none) K s.m s.lo λv m lo=>NT d ops rest (j+1) ⟨oN K o.dst (.v v),m,lo⟩ P)
   (λK=>NT d ops rest (j+1) ⟨oN K o.dst .u,s.m,s.lo⟩ P)
def Ex.KX(id:Nat)(e:Ex):Ex:=match e with |.exit F=>bif Nat.beq F id then .normal else .exit F |e=>e
def assigned:Code->List Nat
 |.region _ ops _=>ops.toList.filterMap (·.dst)
 |.seq a b=>assigned a++assigned b
 |.cond _ x y=>assigned x++assigned y
 |.block _ c |.loop c |.scope c=>assigned c
 |_=> []
def KZ(t n:Nat):Nat:=Nat.lor n (Nat.shiftLeft 2 t)
def Sn(t n:Nat):Bool:=Nat.beq (Nat.land (Nat.shiftRight n t) 2) 2
def bitsOf:List Nat->Nat->Nat
 |[],n=>n
 |t::ts,n=>bitsOf ts (KZ t n)
def Fo:List Nat->(List Nat->Prop)->Prop
 |[],k=>k []
 |x::xs,k=>Fo xs λF=>k (x::F)
theorem yy:∀{l:List Nat} {k:List Nat->Prop},Fo l k=k l
 |[],_=>rfl
 |_::xs,_=>yy (l:=xs)
def wW(K:KT):List Nat->Nat->List Nat
 |[],_=> []
 |t::ts,n=>bif Sn t n then wW K ts n else match K.get t with
  |some (.v _)=>t::wW K ts (KZ t n)
  |_=>wW K ts n
def carried(K:KT)(l:List Nat):List Nat:=wW K l 0
def forget(K:KT):List Nat->KT
 |[]=>K
 |t::ts=>forget (K.del t) ts
def HJ:List Nat->ν->KT->(KT->Prop)->Prop
 |[],_,K,f=>f K
 |t::ts,F,K,f=>W.un F λv r=>HJ ts r (K.set t (.v v)) f
def K0:List Nat->ν->KT->(KT->Prop)->Prop
 |[],F,K,f=>W.Nu F (f K)
 |t::ts,F,K,f=>W.un F λv r=>K0 ts r (K.set t (.v v)) f
def xN(K:KT):List Nat->Option (ν)
 |[]=>some []
 |t::ts=>match K.get t with
  |some (.v v)=>match xN K ts with
   |some F=>some (v::F)
   |none=>none
  |_=>none
def Bk:List Operand->Nat->Nat
 |[],n=>n
 |.tmp t::r,n=>Bk r (KZ t n)
 |_::r,n=>Bk r n
def Pr:List Oper->Nat->Nat
 |[],n=>n
 |o::r,n=>Pr r (Bk o.op.operands.toList n)
def reads:Code->Nat
 |.region _ ops _=>Pr ops.toList 0
 |.seq a b=>Nat.lor (reads a) (reads b)
 |.cond c x y=>Bk [c] (Nat.lor (reads x) (reads y))
 |.block _ c |.loop c |.scope c=>reads c
 |.rangeFunc f _ a b=>Bk [f] (Nat.lor (reads a) (reads b))
 |_=>0
def parts:Code->Bool
 |.region _ ops _=>ops.toList.any λo=>o.guard.isSome
 |_=>false
def Qo(rd:Nat):List Nat->Nat->List Nat
 |[],_=> []
 |t::ts,n=>bif Sn t rd && !Sn t n then t::Qo rd ts (KZ t n)else Qo rd ts n
def WI(a:Code)(rd:Nat):List Nat:=Qo rd (assigned a) 0
def Zs(e:Ex)(l:List Ex):List Ex:=bif l.any (·==e)then l else l++ [e]
def lZ:Code->List Ex->List Ex
 |.exit id,acc=>Zs (.exit id) acc
 |.ret,acc=>Zs .ret acc
 |.seq a b,acc=>lZ b (lZ a acc)
 |.cond _ x y,acc=>lZ y (lZ x acc)
 |.block id c,acc=>(lZ c []).foldl (λacc e=>bif e==.exit id then acc else Zs e acc) acc
 |.loop c,acc |.scope c,acc=>lZ c acc
 |.rangeFunc _ _ _ b,acc=>lZ b acc
 |_,acc=>acc
def leaves(c:Code):List Ex:=lZ c []
def jjN:Nat:=1
def oI(id:Nat):Code->Nat
 |.exit i=>bif Nat.beq i id then 1 else 0
 |.seq a b=>oI id a+oI id b
 |.cond _ x y=>oI id x+oI id y
 |.block _ c |.loop c |.scope c=>oI id c
 |.rangeFunc _ _ _ b=>oI id b
 |_=>0
def pP:Code->Bool
 |.exit _ |.ret |.loop _ |.goto _ |.refuse _=>false
 |.seq a b=>pP a && pP b
 |.cond _ x y=>pP x ||pP y
 |.block id c=>pP c ||Nat.blt 0 (oI id c)
 |.scope c=>pP c
 |_=>true
def DQ:Code->Bool
 |.seq a b=>pP a && DQ b
 |.cond _ x y=>(pP x && pP y) ||((pP x && DQ x) ||(pP y && DQ y))
 |.block id c=>Nat.blt 1 (oI id c+(bif pP c then 1 else 0)) ||(pP c && DQ c)
 |.scope c=>DQ c
 |_=>false
def S9:Code->Bool
 |.skip |.ret |.exit _ |.label _=>true
 |.seq a b=>S9 a && S9 b
 |.scope c=>S9 c
 |_=>false
def PK(rd:Nat)(a b:Code):Bool:=parts a ||((DQ a && !S9 b) && Nat.beq (Nat.land rd jjN) jjN)
def zF:Code->Nat->St->(Ex->St->Prop)->Prop
 |.skip,_,s,Q=>Q .normal s
 |.label _,_,s,Q=>Q .normal s
 |.region _ ops d,_,s,Q=>NT E W d ops ops.toList 0 s (Q .normal)
 |.seq a b,rd,s,Q=>
  bif PK rd a b then
   Fo (WI a (Nat.lor (reads b) rd)) λl=>W.jn (λR=>zF a (Nat.lor (reads b) rd) s λe F=>e.Nx (aS (xN F.K l) λH=>R H F.m F.lo) (Q e F))
    (λH m lo=>HJ W l H (forget s.K (assigned a)) λK=>zF b rd ⟨K,m,lo⟩ Q)
  else zF a (Nat.lor (reads b) rd) s λe s=>e.Nx (zF b rd s Q) (Q e s)
 |.cond c x y,rd,s,Q=>aS (mN s.K c) λv=>iR v (zF x rd s Q) (zF y rd s Q)
 |.block id c,rd,s,Q=>zF c rd s λe s=>Q (e.KX id) s
 |.exit id,_,s,Q=>Q (.exit id) s
 |.ret,_,s,Q=>Q .ret s
 |.loop c,rd,s,Q=>
  Fo (carried s.K (assigned c)) λl=>aS (xN s.K l) λH=>W.Lp (λP H m lo=>HJ W l H (forget s.K (assigned c)) λK=>zF c (bitsOf l rd) ⟨K,m,lo⟩ λe F=>
   e.Nx (aS (xN F.K l) λH=>P H F.m F.lo) (Q e F)) H s.m s.lo
 |.scope c,rd,s,Q=>zF c rd s Q
 |.rangeFunc f ps a b,_,s,Q=>aS (mN s.K f) λf=>rn f λg fi ca=>W.RF g fi.toList ca.toList s.m s.lo
   (λargs m1 Qb=>K0 W ps.toList args s.K λK1=>zF a (reads b) ⟨K1,m1,m1.n⟩ λe s1=>e.Nx (W.Vv s.m.n m1 s1.m λm2=>zF b 0 ⟨s1.K,m2,min s1.lo s.m.n⟩ λe2 s2=>Qb m2 e2 s2.m s2.lo) False)
   (λm lo=>Q .normal ⟨s.K,m,lo⟩) ((leaves b).map λe=>(e,λm lo=>Q e ⟨s.K,m,lo⟩))
 |_,_,_,_=>False
end
section
variable {E:Env} {X:aF}
theorem ae{α:Type}{x:α}{P:α->Prop}:aS (some x) P=P x:=rfl
theorem ak{α β:Type}{x:α}{y:β}{P:α->β->Prop}:dn (some (x,y)) P=P x y:=rfl
def bB{α:Type}{r:Option α}{P:α->Prop}:aS r P↔∃x,r=some x/\P x:=by cases r with|none=>exact⟨λh=>h.elim,λ⟨x,h,_⟩=>by cases h⟩|some y=>exact⟨λh=>⟨y,rfl,h⟩,λ⟨x,h,F⟩=>by cases h;exact F⟩
def oz{α β:Type}{r:Option (α×β)}{P:α->β->Prop}:dn r P↔∃x y,r=some (x,y)/\P x y:=by cases r with|none=>exact⟨λh=>h.elim,λ⟨x,y,h,_⟩=>by cases h⟩|some y=>exact⟨λh=>⟨y.1,y.2,rfl,h⟩,λ⟨x,y,h,F⟩=>by cases h;exact F⟩
def ads{b:Bool}{Q:Prop}:lR b P Q↔(b->P)/\(b=false->Q):=by cases b with|true=>exact⟨λh=>⟨λ_=>h,λe=>by cases e⟩,λh=>h.1 rfl⟩|false=>exact⟨λh=>⟨(λe=>by cases e),λ_=>h⟩,λh=>h.2 rfl⟩
def Ar{v:Φ}{Q:Prop}:iR v P Q↔∃b,v=.bool b/\lR b P Q:=by constructor;intro h;(cases v with|bool b=>exact⟨b,rfl,h⟩|_=>exact h.elim);rintro⟨b,rfl,h⟩;exact h
def rV{v:Φ}{P:Fn->Array Φ->Array Φ->Prop}:rn v P↔∃g fi ca,v=.func g fi ca/\P g fi ca:=by constructor;intro h;(cases v with|func g fi ca=>exact⟨g,fi,ca,rfl,h⟩|_=>exact h.elim);rintro⟨g,fi,ca,rfl,h⟩;exact h
def NX{P:Φ->ν->Prop}:un vs P↔∃v r,vs=v::r/\P v r:=by cases vs with|nil=>exact⟨λh=>h.elim,λ⟨v,r,h,_⟩=>by cases h⟩|cons v r=>exact⟨λh=>⟨v,r,rfl,h⟩,λ⟨v,r,h,F⟩=>by cases h;exact F⟩
def Au:UU F c P↔(F->c)/\P:=by cases F with|true=>exact⟨λh=>⟨λ_=>h.1,h.2⟩,λh=>⟨h.1 rfl,h.2⟩⟩|false=>exact⟨λh=>⟨(λe=>by cases e),h⟩,λh=>h.2⟩
theorem Kn.put{K:KT}(h:Kn K T)(d:Option Tmp)(v:KV):Kn (oN K d v) (put T d v.val):=by cases d with|none=>exact h|some d=>intro t x F;simp only[D.put,oN,Tr.cF,KT.cF]at F⊢;split;grind;rename_i e;rw[Od e]at F;exact h t x F
def Kn.again{K:KT}(h:Kn K T){d:Nat}{v:Φ}(H:K.get d=some (.v v)):Kn (K.set d (.v v)) T:=by intro t x F;simp only[KT.cF]at F;split at F;rename_i e;cases F;rw[e];exact h d _ H;exact h t x F
theorem Kn.set{K:KT}(h:Kn K T){d:Nat}{v:Φ}(H:T.get d=some v):Kn (K.set d (.v v)) T:=by intro t x F;simp only[KT.cF]at F;split at F;rename_i e;cases F;rw[e];exact H;exact h t x F
def bD{K:KT}(h:Kn K T){x:Operand}{v:Φ}(F:mN K x=some v):ev T x=v:=by cases x with|tmp t=>simp only[mN]at F;split at F;rename_i k H;cases F;simp only[ev,je,h t k H,Wi];cases F|const c=>cases F;rfl|global g=>cases F;rfl|func f=>cases F;rfl
theorem jb{K:KT}{T:Tr Φ}(h:Kn K T):∀{xs:List Operand} {vs:ν},Cg K xs=some vs->xs.map (ev T)=vs
 |[],vs,F=>by cases F;rfl
 |x::xs,vs,F=>by unfold Cg at F;split at F;rename_i v H;split at F;rename_i b0 h2;cases F;simp only[Tz,bD h H,jb h h2];cases F;cases F
theorem ve{K:KT}{T:Tr Φ}(h:Kn K T):∀{xs:List (Nat×Operand)} {vs:List (Nat×Φ)},RM K xs=some vs->xs.map (λp=>(p.1,ev T p.2))=vs
 |[],vs,F=>by cases F;rfl
 |x::xs,vs,F=>by unfold RM at F;split at F;rename_i v H;split at F;rename_i b0 h2;cases F;simp only[Tz,bD h H,ve h h2];cases F;cases F
def yD{K:KT}(h:Kn K T){x:Option Operand}{v:Option Φ}(F:evO K x=some v):x.map (ev T)=v:=by cases x with|none=>cases F;rfl|some x=>unfold evO at F;dsimp only at F;split at F;rename_i w H;cases F;simp only[O6,bD h H];cases F
def VR(E:Env)(X:aF)(o:Op)(F:Bool)(H:Option (List jV))(K:KT)(T:Tr Φ)(m:M)(lo:Nat)(P:Φ->M->Nat->Prop):Prop:=
 ∃v m1 w,P v m1 (min lo w)/\m.n<=m1.n/\(F=true->m.n<=w\/∃ts,H=some ts/\mL K w ts/\iM m T o=some w)/\
  ∃n0,∀n,n0<=n->∀l,l<=m.n->dI o E (bU E X n) T (m.wl l)=some (v,m1.wl (min l w))
def VR.push{o:Op}{H:Option (List jV)}{K:KT}{P:Φ->M->Nat->Prop}{v:Φ}(b0:lo<=m.n)(hP:P v m1 lo)(hn:m.n<=m1.n)(h:∀n l,dI o E (bU E X n) T (m.wl l)=some (v,m1.wl l)):VR E X o F H K T m lo P:=
 ⟨v,m1,m.n,be,hn,λ_=> .inl (ID _),0,be⟩
def VR.aY{o:Op}{H:Bool}{pt:Option (List jV)}{K:KT}{P:Φ->M->Nat->Prop}{v:Φ}(F:lo<=m.n)(hP:P v m lo)(h:∀n l,dI o E (bU E X n) T (m.wl l)=some (v,m.wl l)):VR E X o H pt K T m lo P:=
 .push F hP (ID _) h
def za(h:storeVar E m t a x=some m1)(l:Nat):storeVar E (m.wl l) t a x=some (m1.wl (min l a.block))/\m1.n=m.n:=by unfold storeVar at h⊢;cases F:E.ty.get t with|none=>rw[F]at h;cases h|some ti=>rw[F]at h;dsimp only at h⊢;cases H:Nat.beq (cells x).length ti.size with|false=>rw[H]at h;cases h|true=>rw[H]at h;unfold storeCells at h⊢;rw[M.dF];cases hg:m.get a.block with|cells c e g=>rw[hg]at h;dsimp only at h⊢;(cases hc:(a.spot.isNone && Nat.ble (a.off+(cells x).length) c.length && (cells x).all one)with|false=>rw[hc]at h;cases h|true=>rw[hc]at h;cases h;exact⟨rfl,rfl⟩)|_=>rw[hg]at h;cases h
def lO{k y:Φ}(h:fo E m t (.map (some r)) k y=some m1)(l:Nat):fo E (m.wl l) t (.map (some r)) k y=some (m1.wl (min l r))/\m1.n=m.n:=by unfold fo at h⊢;cases H:E.ty.get t with|none=>rw[H]at h;cases h|some ti=>rw[H]at h;dsimp only at h⊢;rw[M.dF];cases F:ti.d with|map kt et=>(cases hg:m.get r with|map es clock=>rw[F,hg]at h;dsimp only at h⊢;(cases hk:keyed E kt k with|false=>rw[hk]at h;cases h|true=>rw[hk]at h;cases hf:findKey E kt k es 0 with|none=>rw[hf]at h;cases h|some p=>rw[hf]at h;cases p with|none=>cases h;exact⟨rfl,rfl⟩|some q=>cases h;exact⟨rfl,rfl⟩)|_=>rw[F,hg]at h;cases h)|_=>rw[F]at h;cases h
def sK{ps:List (Nat×Φ)}{v:Φ}(h:aO E m t n ps=some (v,m1))(l:Nat):aO E (m.wl l) t n ps=some (v,m1.wl l)/\m.n<=m1.n:=by unfold aO at h⊢;split at h;cases h;split at h;split at h;(cases h;rename_i F ht _ e hd _ z hz;cases H:(Nat.beq (cells z).length F.es && Nat.ble (n*F.es) 1048576)with|false=>rw[H]at h;cases h|true=>rw[H]at h;cases hf:fill (λi=>some (i*F.es,F.es)) (gD (cells z) n) ps with|none=>rw[hf]at h;cases h|some cs=>rw[hf]at h;cases h;refine⟨?_,LW _⟩;rfl);cases h
def uj{y v:Φ}(h:ic E m t x y=some (v,m1))(l:Nat):ic E (m.wl l) t x y=some (v,m1.wl l)/\m.n<=m1.n:=by unfold ic at h⊢;cases H:E.ty.get t with|none=>rw[H]at h;cases h|some ti=>rw[H]at h;dsimp only at h⊢;split at h;rename_i e k a k' c hd;(cases he:E.ty.get e with|none=>rw[he]at h;cases h|some ei=>rw[he]at h;dsimp only at h;cases F:ei.zero with|none=>rw[F]at h;cases h|some z=>rw[F]at h;dsimp only at h;split at h;rename_i hc;cases h;refine⟨?_,LW _⟩;simp only[hd,he,F];rw[F6 hc];rfl;cases h);cases h
def Dg{b:Builtin}{v:Φ}(hb:b=.len\/b=.cap\/b=.min\/b=.max)(h:aR E m b ts args=some (v,m1))(l:Nat):aR E (m.wl l) b ts args=some (v,m.wl l):=by rcases hb with rfl|rfl|rfl|rfl;(·unfold aR at h⊢;split at h;(all_goals try (rename_i H;first|cases H|skip));all_goals first|(simp only[eO];cases F:qz E m _ _ with|none=>rw[F]at h;cases h|some w=>rw[F]at h;cases h;rfl)|cases h|skip);(·unfold aR at h⊢;split at h;(all_goals try (rename_i H;first|cases H|skip));split at h;split at h;rename_i ti ht _ _ e a n c hd;(cases hs:rG m a with|true=>rw[hs]at h;cases h|false=>rw[hs]at h;cases h;simp only[ht,hd,dH,hs,sI]);grind;cases h;cases h;cases h);have h:(eh (λx y=>if y<x then y else x) args).map (·,m)=some (v,m1):=h;show(eh (λx y=>if y<x then y else x) args).map (·,m.wl l)=some (v,m.wl l);(cases F:eh (λx y=>if y<x then y else x) args with|none=>rw[F]at h;cases h|some w=>rw[F]at h;cases h;rfl);have h:(eh (λx y=>if y >x then y else x) args).map (·,m)=some (v,m1):=h;show(eh (λx y=>if y >x then y else x) args).map (·,m.wl l)=some (v,m.wl l);cases F:eh (λx y=>if y >x then y else x) args with|none=>rw[F]at h;cases h|some w=>rw[F]at h;cases h;rfl
noncomputable section
def sD:ν->Nat->KT
 |[],_=> .e
 |v::F,i=>(sD F (i+1)).set i (.v v)
def CY(E:Env)(K:KT)(m:M):List ResultVar->(ν->Prop)->Prop
 |[],f=>f []
 |.tmp t::rs,f=>aS (match K.get t with |some k=>some k.val |none=>none) λv=>CY E K m rs λF=>f (v::F)
 |.cell a t::rs,f=>aS (match K.get a with |some k=>some k.val |none=>none) λa=>aS (aC E m t a) λv=>CY E K m rs λF=>f (v::F)
def aM:ν->Φ
 |[v]=>v
 |F=> .tuple F.toArray
def post(E:Env)(rs:List ResultVar)(R:ν->M->Nat->Prop):Ex->St->Prop:=λe s=>match e with
 |.exit _=>False
 |_=>CY E s.K s.m rs λF=>R F s.m s.lo
def DK(rs:List ResultVar):List Nat:=rs.map λ|.tmp t=>t |.cell a _=>a
def VX(E:Env)(W:Words)(rd:Nat)(fn:Func)(args:ν)(m:M)(R:ν->M->Nat->Prop):Prop:=
 match fn.body with
 |some body=>zF E W body rd ⟨sD args 0,m,m.n⟩ (post E fn.results.toList R)
 |none=>False
def dB(E:Env)(W:Words)(fn:Func)(args:ν)(m:M)(R:ν->M->Nat->Prop):Prop:=VX E W (bitsOf (DK fn.results.toList) 0) fn args m R
def fP(E:Env)(W:Words)(fn:Func)(args:ν)(m:M)(R:ν->M->Nat->Prop):Prop:=VX E W (bitsOf (DK fn.results.toList) jjN) fn args m R
end
end
end
variable{s:St}{H pt:Option (List jV)}{K:KT}
section
variable{E:Env}{X:aF}
def R0:cndP F H K c b P↔(F->c\/∃ts,H=some ts/\mL K b ts)/\P:=by cases F with|true=>(cases H with|none=>exact⟨λh=>⟨λ_=> .inl h.1,h.2⟩,λh=>⟨(h.1 rfl).elim id (λ⟨_,h,_⟩=>by cases h),h.2⟩⟩|some ts=>exact⟨λh=>⟨λ_=>h.1.imp id (λx=>⟨ts,rfl,x⟩),h.2⟩,λh=>⟨(h.1 rfl).imp id (λ⟨_,h,x⟩=>be),h.2⟩⟩)|false=>exact⟨λh=>⟨(λe=>by cases e),h⟩,λh=>h.2⟩
def afk{bo:Option Nat}:cndQ F H K c bo b P↔(F->c\/∃ts,H=some ts/\mL K b ts/\bo=some b)/\P:=by cases F with|true=>(cases H with|none=>exact⟨λh=>⟨λ_=> .inl h.1,h.2⟩,λh=>⟨(h.1 rfl).elim id (λ⟨_,h,_⟩=>by cases h),h.2⟩⟩|some ts=>exact⟨λh=>⟨λ_=>h.1.imp id (λx=>⟨ts,rfl,x.2,x.1⟩),h.2⟩,λh=>⟨(h.1 rfl).imp id (λ⟨_,h,x⟩=>be),h.2⟩⟩)|false=>exact⟨λh=>⟨(λe=>by cases e),h⟩,λh=>h.2⟩
def ad9{c:Call}(hk:Kn K T)(H:JP c)(F:Cg K c.args.toList=some args)(hb:KY m args=some b):iM m T (.call c)=some b:=by unfold JP at H;split at H;rename_i g x hc hx;rw[hx]at F;unfold Cg at F;split at F;rename_i v hv;cases F;unfold KY at hb;split at hb;rename_i a he;cases he;unfold iM;dsimp only;rw[hc,hx];dsimp only;rw[bD hk hv];show(bif Nat.beq g CU && true && true then uD m a else none)=some b;grind;cases hb;cases F;cases H
def Ve(ops:Array Oper)(j i:Nat)(o:Oper)(ts:List jV):Prop:=
 (∃t,o.op=.alloc t)\/(∃t y,o.op=.box t y)\/(∃t s g,o.op=.load t (.tmp s)/\vP ops j i s=true/\((o.guard=none/\g=none)\/∃q want d,o.guard=some (q,want)/\(ops.toList[q]?).bind (·.dst)=some d/\vP ops j i d=true/\g=some (d,want))/\(true,s,g)∈ts)\/
  qq o.op=true\/∃s,lenOf o.op=some s/\vP ops j i s=true/\(false,s,none)∈ts
def Ve.more{ts:List jV}{x:jV}(h:Ve ops j i o ts):Ve ops j i o (x::ts):=by rcases h with h|h|⟨t,s,g,F,H,h3,h4⟩|h|⟨s,F,H,h3⟩;exact .inl h;exact .inr (.inl h);exact .inr (.inr (.inl ⟨t,s,g,F,H,h3,Wm _ h4⟩));exact .inr (.inr (.inr (.inl h)));exact .inr (.inr (.inr (.inr ⟨s,F,H,Wm _ h3⟩)))
theorem gZ{bf:Array Nat}{ops:Array Oper}{j:Nat}:∀(l:List (Oper×Nat)) (ts:List jV),
  l.foldr (PF bf ops j) (some [])=some ts->∀o i,(o,i)∈l->(i==j ||fN o.op ||(bf.getD j 0).testBit i ||(bf.getD i 0).testBit j)\/(Nat.blt i j/\Ve ops j i o ts)
 |[],ts,_,o,i,hm=>by cases hm
 |(o',i')::l,ts,h,o,i,hm=>by rw[List.foldr_cons]at h;unfold PF at h;dsimp only at h;cases hc:(i'==j ||fN o'.op ||(bf.getD j 0).testBit i' ||(bf.getD i' 0).testBit j)with|true=>rw[hc]at h;simp only[gc]at h;(rcases Qk.1 hm with e|hm;grind;exact gZ l ts h o i hm)|false=>rw[hc]at h;simp only[sI]at h;cases hb:Nat.blt i' j with|false=>rw[hb]at h;cases h|true=>rw[hb]at h;simp only[gc]at h;split at h;rename_i t F;rcases Qk.1 hm with e|hm;cases e;exact .inr ⟨hb,.inl ⟨t,F⟩⟩;exact gZ l ts h o i hm;rename_i t y F;rcases Qk.1 hm with e|hm;cases e;exact .inr ⟨hb,.inr (.inl ⟨t,y,F⟩)⟩;exact gZ l ts h o i hm;rename_i t s F;(cases hs:vP ops j i' s with|false=>rw[hs]at h;cases h|true=>rw[hs]at h;simp only[gc]at h;cases hg:o'.guard with|none=>rw[hg]at h;simp only[Qp]at h;obtain⟨H,h,rfl⟩:=h;(rcases Qk.1 hm with e|hm;cases e;exact .inr ⟨hb,.inr (.inr (.inl ⟨t,s,none,F,hs,.inl ⟨hg,rfl⟩,F3⟩))⟩;exact(gZ l H h o i hm).imp id (λ⟨q1,q2⟩=>⟨q1,q2.more⟩))|some gw=>have⟨q,want⟩:=gw;rw[hg]at h;dsimp only at h;cases hd:(ops.toList[q]?).bind (·.dst)with|none=>rw[hd]at h;cases h|some d=>rw[hd]at h;dsimp only at h;cases b0:vP ops j i' d with|false=>rw[b0]at h;cases h|true=>rw[b0]at h;simp only[gc,Qp]at h;obtain⟨H,h,rfl⟩:=h;rcases Qk.1 hm with e|hm;cases e;exact .inr ⟨hb,.inr (.inr (.inl ⟨t,s,some (d,want),F,hs,.inr ⟨q,want,d,hg,hd,b0,rfl⟩,F3⟩))⟩;exact(gZ l H h o i hm).imp id (λ⟨q1,q2⟩=>⟨q1,q2.more⟩));cases d0:qq o'.op with|true=>rw[d0,gc]at h;(rcases Qk.1 hm with e|hm;cases e;exact .inr ⟨hb,.inr (.inr (.inr (.inl d0)))⟩;exact gZ l ts h o i hm)|false=>rw[d0,sI]at h;split at h;rename_i s F;(cases hs:vP ops j i' s with|false=>rw[hs]at h;cases h|true=>rw[hs]at h;simp only[gc,Qp]at h;obtain⟨H,h,rfl⟩:=h;rcases Qk.1 hm with e|hm;cases e;exact .inr ⟨hb,.inr (.inr (.inr (.inr ⟨s,F,hs,F3⟩)))⟩;exact(gZ l H h o i hm).imp id (λ⟨q1,q2⟩=>⟨q1,q2.more⟩));cases h
theorem vq{K:KT}{b:Nat}:∀{ts:List jV} {c:Bool} {t:Nat} {g:Option (Nat×Bool)},mL K b ts->(c,t,g)∈ts->
  match c,g with|true,none=>mK (K.get t) b|true,some (d,want)=>FP (K.get d) want (mK (K.get t) b)|false,_=>IM (K.get t)
 |(c',t',F)::ts,c,t,g,h,hm=>by rcases Qk.1 hm with e|hm;(cases e;cases c' with|false=>exact h.1|true=>cases F with|none=>exact h.1|some p=>have⟨d,want⟩:=p;exact h.1);have H:mL K b ts:=(by cases c' with|false=>exact h.2|true=>cases F with|none=>exact h.2|some p=>have⟨d,want⟩:=p;exact h.2);exact vq H hm
def Mc{ts:List jV}(h:PE ops j=some ts)(ha:mL K b ts)(hk:Kn K T):qh ops j b T:=by refine Jo.2 λx hx=>?_;have⟨o,i⟩:=x;dsimp only;rcases gZ _ _ h o i hx with h1|⟨h1,H⟩;rw[h1];rfl;rcases H with⟨t,H⟩|⟨t,y,H⟩|⟨t,s,g,H,h3,h4,h5⟩|H|⟨s,H,h3,h5⟩;rw[h1,H];simp;rw[h1,H];simp;have h3:(ops.toList.zipIdx.all λ(q,k)=> !(Nat.ble i k && Nat.blt k j && q.dst==some s)):=h3;have b0:=vq ha h5;have g0:mK (K.get s) b->∃a:Addr,je T s=.pointer (some a)/\(a.block==b)=false:=λF=>(by unfold mK at F;split at F;rename_i a hg;exact⟨a,by simp only[je,hk s _ hg,Wi,KV.val],by simpa using F⟩;exact F.elim);rcases h4 with⟨h4,rfl⟩|⟨q,want,d,h4,h6,h7,rfl⟩;grind;have F:FP (K.get d) want (mK (K.get s) b):=b0;have h7:(ops.toList.zipIdx.all λ(q,k)=> !(Nat.ble i k && Nat.blt k j && q.dst==some d)):=h7;have hw:cd ops T o=false\/mK (K.get s) b:=(by unfold cd;rw[h4];dsimp only;rw[h6];dsimp only;unfold FP at F;split at F;rename_i b' hg;have e:je T d=.bool b':=(by simp only[je,hk d _ hg,Wi,KV.val]);rw[e];dsimp only;(cases d0:b'==want with|false=>exact .inl rfl|true=>rw[d0]at F;exact .inr F);rename_i hg;have e:je T d=undef:=(by simp only[je,hk d _ hg,Wi,KV.val]);rw[e];exact .inl rfl;exact F.elim);grind;have:∃c,o.op=.call c:=(by cases ho:o.op <;>rw[ho]at H <;>first|exact⟨_,rfl⟩|cases H);grind;have:∃c,o.op=.call c:=(by cases ho:o.op <;>rw[ho]at H <;>first|exact⟨_,rfl⟩|cases H);have⟨c,hc⟩:=this;have h3:(ops.toList.zipIdx.all λ(q,k)=> !(Nat.ble i k && Nat.blt k j && q.dst==some s)):=h3;have F:IM (K.get s):=vq ha h5;rw[h1,hc];rw[hc]at H;rw[H];dsimp only;rw[h3];have e0:∀r,je T s≠.map r:=(by intro r hr;cases hg:K.get s with|none=>rw[hg]at F;exact F.elim|some k=>have e2:je T s=k.val:=(by simp only[je,hk s _ hg,Wi]);rw[hg]at F;cases k with|u=>rw[hr]at e2;cases e2|v x=>rw[hr]at e2;subst e2;exact F.elim);cases hq:je T s <;>first|exact absurd hq (e0 _)|simp
def yH{o:Op}{P:Φ->M->Nat->Prop}{v:Φ}{f:M->Option (Φ×M)}
  (F:∀n m,dI o E (bU E X n) T m=f m) (hl:bX m f) (h1:f (m.wl m.n)=some (v,m1)) (H:UU br (m.n<=m1.low) (P v m1 (min lo m1.low))):VR E X o br pt K T m lo P:=by have⟨hc,H⟩:=Au.1 H;refine⟨v,m1,m1.low,H,hl.Ny _ h1,λhb=> .inl (hc hb),0,λn _ l b0=>?_⟩;rw[F,hl.eq l b0,h1];rfl
def xM{o:Op}{P:Φ->M->Nat->Prop}(h:VW E (aG E X) o br pt K m lo P)(hk:Kn K T)(H:lo<=m.n):VR E X o br pt K T m lo P:=by
 cases o <;>dsimp only[VW]at h;(case move x=>have⟨x',hx,h⟩:=bB.1 h;exact .aY H h λn l=>by simp only[dI,EU,bD hk hx]);(case assign x=>have⟨x',hx,h⟩:=bB.1 h;exact .aY H h λn l=>by simp only[dI,EU,bD hk hx]);(case pick c a b=>have⟨c',hc,h⟩:=bB.1 h;obtain⟨q,rfl,h⟩:=Ar.1 h;(cases q with|true=>have⟨x',hx,h⟩:=bB.1 h;exact .aY H h λn l=>by simp only[dI,rT,bD hk hc,bD hk hx,gc]|false=>have⟨x',hx,h⟩:=bB.1 h;exact .aY H h λn l=>by simp only[dI,rT,bD hk hc,bD hk hx,sI]));(case alloc t=>have⟨z,hz,h⟩:=bB.1 h;exact .push H h (LW _) λn l=>by simp only[dI,wi,hz];rfl);(case box t x=>have⟨x',hx,h⟩:=bB.1 h;exact .push H h (LW _) λn l=>by simp only[dI,PV,bD hk hx];rfl);(case build t ps=>have⟨h0,hp,h⟩:=bB.1 h;have⟨v,F,h⟩:=bB.1 h;exact .aY H h λn l=>by simp only[dI,tF,ve hk hp,F]);(case buildSlice t k ps=>have⟨h0,hp,h⟩:=bB.1 h;have⟨v,m1,F,h⟩:=oz.1 h;exact .push H h (sK F 0).2 λn l=>by simp only[dI,qn,ve hk hp,(sK F l).1]);(case insert t x k y=>have⟨x',hx,h⟩:=bB.1 h;have⟨k',b0,h⟩:=bB.1 h;have⟨y',hy,h⟩:=bB.1 h;have⟨m1,b,F,hQ⟩:=oz.1 h;have⟨hc,hP⟩:=Au.1 hQ;unfold lP at F;split at F;rename_i r;split at F;rename_i m2 hu;cases F;refine⟨undef,m1,b,hP,by rw[(lO hu 0).2];exact ID _,λhb=> .inl (hc hb),0,λn _ l hl=>?_⟩;simp only[dI,hZ,bD hk hx,bD hk b0,bD hk hy,(lO hu l).1];cases F;cases F);(case load t a=>have⟨a',ha,h⟩:=bB.1 h;have⟨v,F,hP⟩:=bB.1 h;unfold aC at F;split at F;exact .aY H hP λn l=>(by simp only[dI,uP,bD hk ha,BM,F]);cases F);(case store t a x=>have⟨a',ha,h⟩:=bB.1 h;have⟨x',hx,h⟩:=bB.1 h;have⟨m1,b,F,hQ⟩:=oz.1 h;have⟨hc,hP⟩:=R0.1 hQ;unfold bw at F;split at F;rename_i ad _;split at F;rename_i m2 hu;cases F;refine⟨undef,m1,ad.block,hP,by rw[(za hu 0).2];exact ID _,λhb=>(hc hb).imp id (λ⟨ts,h1,h2⟩=>⟨ts,h1,h2,by simp only[iM,bD hk ha]⟩),0,λn _ l hl=>?_⟩;simp only[dI,qm,bD hk ha,bD hk hx,(za hu l).1];cases F;cases F);(case nilCheck x=>have⟨x',hx,h⟩:=bB.1 h;have⟨v,F,h⟩:=bB.1 h;unfold EY at F;split at F;cases F;exact .aY H h λn l=>(by simp only[dI,iV,bD hk hx]);cases F;exact .aY H h λn l=>(by simp only[dI,iV,bD hk hx]);cases F);(case binOp op t x y _=>have⟨x',hx,h⟩:=bB.1 h;have⟨y',hy,h⟩:=bB.1 h;have⟨v,F,h⟩:=bB.1 h;exact .aY H h λn l=>by simp only[dI,DO,bD hk hx,bD hk hy,F]);(case unOp op t x=>have⟨x',hx,h⟩:=bB.1 h;have⟨v,F,h⟩:=bB.1 h;exact .aY H h λn l=>by simp only[dI,Ml,bD hk hx,F]);(case convert s d x=>have⟨x',hx,h⟩:=bB.1 h;have⟨v,F,h⟩:=bB.1 h;exact .aY H h λn l=>by simp only[dI,II,bD hk hx,acp,F]);(case makeFunc f a b=>have⟨a',ha,h⟩:=bB.1 h;have⟨b',hb,h⟩:=bB.1 h;split at h;exact .aY H h λn l=>(by simp only[dI,jF,jb hk ha,jb hk hb]);exact h.elim);(case makeMap t r=>(cases r with|none=>exact .push (m1:=m.push (.map [] 0)) H h (LW _) λn l=>by simp only[dI,tC];rfl|some r=>exact h.elim));(case makeSlice t x y=>have⟨x',hx,h⟩:=bB.1 h;have⟨y',hy,h⟩:=bB.1 h;have⟨v,m1,F,h⟩:=oz.1 h;exact .push H h (uj F 0).2 λn l=>by simp only[dI,zi,bD hk hx,bD hk hy,(uj F l).1])
 (case slice t x a b c=>have⟨x',hx,h⟩:=bB.1 h;have⟨a',ha,h⟩:=bB.1 h;have⟨b',hb,h⟩:=bB.1 h;have⟨c',hc,h⟩:=bB.1 h;have⟨v,F,h⟩:=bB.1 h;exact .aY H h λn l=>by simp only[dI,ET,bD hk hx,yD hk ha,yD hk hb,yD hk hc,adn,F]);(case fieldAddr s x f=>have⟨x',hx,h⟩:=bB.1 h;have⟨v,F,h⟩:=bB.1 h;exact .aY H h λn l=>by simp only[dI,jM,bD hk hx,F]);(case field t x f=>have⟨x',hx,h⟩:=bB.1 h;have⟨v,F,h⟩:=bB.1 h;exact .aY H h λn l=>by simp only[dI,tE,bD hk hx,F]);(case indexAddr t x i=>have⟨x',hx,h⟩:=bB.1 h;have⟨i',hi,h⟩:=bB.1 h;have⟨v,F,h⟩:=bB.1 h;exact .aY H h λn l=>by simp only[dI,jL,bD hk hx,bD hk hi,F]);(case index t x i=>have⟨x',hx,h⟩:=bB.1 h;have⟨i',hi,h⟩:=bB.1 h;have⟨v,F,h⟩:=bB.1 h;exact .aY H h λn l=>by simp only[dI,tD,bD hk hx,bD hk hi,F]);(case lookup t x i ok=>have⟨x',hx,h⟩:=bB.1 h;have⟨i',hi,h⟩:=bB.1 h;have⟨v,F,h⟩:=bB.1 h;exact .aY H h λn l=>by simp only[dI,Bz,bD hk hx,bD hk hi,IV,F]);(case mapUpdate t x k y=>have⟨x',hx,h⟩:=bB.1 h;have⟨k',b0,h⟩:=bB.1 h;have⟨y',hy,h⟩:=bB.1 h;have⟨m1,b,F,hQ⟩:=oz.1 h;have⟨hc,hP⟩:=Au.1 hQ;unfold lP at F;split at F;rename_i r;split at F;rename_i m2 hu;cases F;refine⟨undef,m1,b,hP,by rw[(lO hu 0).2];exact ID _,λhb=> .inl (hc hb),0,λn _ l hl=>?_⟩;simp only[dI,hZ,bD hk hx,bD hk b0,bD hk hy,(lO hu l).1];cases F;cases F);(case mapEntry t x k=>have⟨x',hx,h⟩:=bB.1 h;have⟨k',b0,h⟩:=bB.1 h;have⟨v,m1,F,h⟩:=oz.1 h;exact yH (f:=λm=>jk E m t x' k') (λn m=>by simp only[dI,uO,bD hk hx,bD hk b0]) C3 F h);(case entryStore t x s y=>have⟨x',hx,h⟩:=bB.1 h;have⟨s',i0,h⟩:=bB.1 h;have⟨y',hy,h⟩:=bB.1 h;have⟨m1,F,h⟩:=bB.1 h;refine yH (v:=undef) (m1:=m1) (f:=λm=>(fa m x' s' y').map λm=>(undef,m)) (λn m=>?_) abr (by rw[F];rfl) h;simp only[dI,mR,bD hk hx,bD hk i0,bD hk hy];cases fa m x' s' y' <;>rfl);(case typeAssert x s t ok=>have⟨x',hx,h⟩:=bB.1 h;have⟨v,F,hP⟩:=bB.1 h;refine .aY H hP λn l=>?_;show rU x t ok E (bU E X n) T (m.wl l)=_;unfold rU;rw[bD hk hx];unfold HL at F;split at F;dsimp only;(cases ok with|false=>cases F|true=>simp only[gc]at F⊢;cases hz:gW E t with|none=>rw[hz]at F;cases F|some z=>rw[hz]at F;cases F;rfl);rename_i t' cs;dsimp only;(cases hc:(ok && (Nat.beq t' t && cs.toList.isEmpty))with|false=>rw[hc]at F;cases F|true=>rw[hc]at F;simp only[gc]at F⊢;split at F;rename_i ti j0;rw[j0];dsimp only;(cases hd:ti.d with|struct fs=>rw[hd]at F;cases F;rfl|_=>rw[hd]at F;cases F);cases F);cases F);(case extract x i=>have⟨x',hx,h⟩:=bB.1 h;have⟨v,F,hP⟩:=bB.1 h;unfold mi at F;split at F;exact .aY H hP λn l=>(by simp only[dI,ll,bD hk hx,F]);cases F)
 (case call c=>split at h;rename_i f hf;have⟨f',h1,h⟩:=bB.1 h;obtain⟨g,fi,ca,rfl,h⟩:=rV.1 h;have⟨args,h2,v,m1,b,⟨e0,_,n0,hc⟩,h⟩:=bB.1 h;have hh:(br->m.n<=b\/∃ts,pt=some ts/\mL K b ts/\iM m T (.call c)=some b)/\P v m1 (min lo b):=(by cases hs:JP c with|false=>rw[hs,sI]at h;have⟨d0,hP⟩:=Au.1 h;exact⟨λhb=> .inl (d0 hb),hP⟩|true=>rw[hs,gc]at h;have⟨d0,hP⟩:=afk.1 h;refine⟨λhb=>(d0 hb).imp id λ⟨ts,x1,x2,x3⟩=>⟨ts,x1,x2,?_⟩,hP⟩;have hz:KY m args=some b:=x3;exact ad9 hk hs h2 hz);have⟨d0,hP⟩:=hh;refine⟨v,m1,b,hP,e0,d0,n0,λn hn l hl=>?_⟩;simp only[dI,nL,hf,bD hk h1,jb hk h2,hc n hn l hl];rename_i b hb;have⟨args,h2,h⟩:=bB.1 h;have g0:∀n m,dI (.call c) E (bU E X n) T m=aR E m b c.argTypes.toList args:=λn m=>(by simp only[dI,nL,hb,jb hk h2]);have aY:(b=.len\/b=.cap\/b=.min\/b=.max)->(dn (aR E m b c.argTypes.toList args) λv _=>P v m lo)->VR E X (.call c) br pt K T m lo P:=λk0 h=>(by have⟨v,m1,F,h⟩:=oz.1 h;exact .aY H h λn l=>by rw[g0];exact Dg k0 F l);have gen:(dn (aR E (m.wl m.n) b c.argTypes.toList args) λv m1=>UU br (m.n<=m1.low) (P v m1 (min lo m1.low)))->VR E X (.call c) br pt K T m lo P:=λh=>(by have⟨v,m1,F,h⟩:=oz.1 h;exact yH g0 ac0 F h);unfold ZT at h;split at h;exact aY (.inl rfl) h;exact aY (.inr (.inl rfl)) h;exact aY (.inr (.inr (.inl rfl))) h;exact aY (.inr (.inr (.inr rfl))) h;exact gen h;exact h.elim);all_goals exact h.elim
def qb{b:Bool}(h:cd ops T o=b){m:M}:cd ops (Fr.T ⟨T,m⟩) o=b:=h
def og{P S:KT->Prop}(h:Du ops K o P S)(H:Kn K T):∃K',Kn K' T/\((cd ops T o/\P K')\/(cd ops T o=false/\S K')):=by unfold Du at h;unfold cd;split at h;grind;rename_i j want hg;rw[hg];dsimp only;split at h;rename_i d hd;rw[hd];dsimp only;split at h;rename_i v hv;obtain⟨b,rfl,h⟩:=Ar.1 h;have e:je T d=.bool b:=(by simp only[je,H d _ hv,Wi,KV.val]);rw[e];have F:=H.again hv;(cases b with|true=>(cases want with|true=>exact⟨_,F,.inl ⟨rfl,h⟩⟩|false=>exact⟨_,F,.inr ⟨rfl,h⟩⟩)|false=>cases want with|true=>exact⟨_,F,.inr ⟨rfl,h⟩⟩|false=>exact⟨_,F,.inl ⟨rfl,h⟩⟩);rename_i hv;have e:je T d=undef:=(by simp only[je,H d _ hv,Wi,KV.val]);rw[e];exact⟨K,H,.inr ⟨rfl,h⟩⟩;grind;grind
theorem uF{d:Bool}{ops:Array Oper}:∀(l:List Oper) (j:Nat) (s:St) (P:St->Prop),NT E (aG E X) d ops l j s P->∀T,Kn s.K T->s.lo<=s.m.n->
  ∃H T',P H/\Kn H.K T'/\s.m.n<=H.m.n/\H.lo<=H.m.n/\∃n0,∀n,n0<=n->(bif d then pR E (bU E X n) ops l j ⟨T,s.m.wl s.lo⟩else Bx E (bU E X n) ops l ⟨T,s.m.wl s.lo⟩)=some ⟨T',H.m.wl H.lo⟩
 |[],j,s,P,h,T,hk,b0=>⟨s,T,h,hk,ID _,b0,0,λn _=>by cases d <;>rfl⟩
 |o::rest,j,s,P,h,T,hk,b0=>by unfold NT at h;rw[OP]at h;obtain⟨K1,hk,⟨hw,h⟩|⟨hw,h⟩⟩:=og h hk;have⟨v,m1,w,e0,l0,j0,n1,i0⟩:=xM h hk b0;obtain⟨H,T',hP,g0,F,d0,n2,hr⟩:=uF rest (j+1) _ P e0 (put T o.dst v) (hk.put _ (.v v)) (by show min s.lo w<=m1.n;omega);dsimp only at F hr;refine⟨H,T',hP,g0,ac,d0,max n1 n2,λn hn=>?_⟩;have e2:=hr n ac;(cases d with|false=>rw[sI]at e2⊢;rw[nf,qb hw];dsimp only[gc];rw[i0 n ac s.lo b0];exact e2|true=>rw[gc]at e2⊢;rw[lE,qb hw];dsimp only[gc];have k0:dI o.op E (bU E X n) T {s.m.wl s.lo with low:=(s.m.wl s.lo).n}=some (v,m1.wl (min s.m.n w)):=i0 n ac s.m.n (ID _);rw[k0];dsimp only;have h0:(Nat.ble (s.m.wl s.lo).n (m1.wl (min s.m.n w)).low ||(gj ops j ||CZ ops j (s.m.wl s.lo) T o.op)):=(by cases hb:gj ops j with|true=>rw[ZS,RJ]|false=>rcases j0 (by rw[hb];rfl)with this|⟨ts,h1,h2,h3⟩;have:Nat.ble (s.m.wl s.lo).n (m1.wl (min s.m.n w)).low:=Ox (by show s.m.n<=min s.m.n w;omega);rw[this];rfl;rw[hb]at h1;have:CZ ops j (s.m.wl s.lo) T o.op:=(by unfold CZ;have h3:iM (s.m.wl s.lo) T o.op=some w:=h3;rw[h3];exact Mc h1 h2 hk);rw[this];simp);rw[h0];have e3:m1.wl (min s.lo w)={m1.wl (min s.m.n w)with low:=min (s.m.wl s.lo).low (m1.wl (min s.m.n w)).low}:=(by show m1.wl (min s.lo w)=m1.wl (min s.lo (min s.m.n w));congr 1;omega);rw[e3]at e2;exact e2);obtain⟨H,T',hP,g0,F,d0,n2,hr⟩:=uF rest (j+1) _ P h (put T o.dst undef) (hk.put _ .u) b0;refine⟨H,T',hP,g0,F,d0,n2,λn hn=>?_⟩;have e2:=hr n hn;cases d with|false=>rw[sI]at e2⊢;rw[nf,qb hw];exact e2|true=>rw[gc]at e2⊢;rw[lE,qb hw];exact e2
def V.mono{c:Code}{Q R:Ex->St->Prop}(h:V E X c s Q)(H:∀e s,Q e s->R e s):V E X c s R:=λT hk F=>by have⟨e,s',T',h1,h2⟩:=h T hk F;exact⟨e,s',T',H _ _ h1,h2⟩
def V.seq{a b:Code}{Q:Ex->St->Prop}(h:V E X a s λe s=>e.Nx (V E X b s Q) (Q e s)):V E X (.seq a b) s Q:=λT hk g0=>by have⟨e,s1,T1,h1,H,d0,F,n1,b0⟩:=h T hk g0;cases e with|normal=>have⟨e,s2,T2,h2,h0,j0,e0,n2,i0⟩:=h1 T1 H F;exact⟨e,s2,T2,h2,h0,ac,e0,max n1 n2,λn hn=>by simp only[bH,b0 n ac,i0 n ac]⟩|exit id=>exact⟨_,s1,T1,h1,H,d0,F,n1,λn hn=>by simp only[bH,b0 n hn]⟩|ret=>exact⟨_,s1,T1,h1,H,d0,F,n1,λn hn=>by simp only[bH,b0 n hn]⟩
theorem V.Z9{c:Code}{Q:Ex->St->Prop}{γ:Type}(μ:γ->Nat)(A:γ->Tr Φ->M->Nat->Prop)(g0:γ)
  (h0:∀T,Kn s.K T->A g0 T s.m s.lo)
  (d0:∀g T m lo,A g T m lo->lo<=m.n->∃e H T',(e.Nx (∃g',μ g'<μ g/\A g' T' H.m H.lo) (Q e H))/\Kn H.K T'/\m.n<=H.m.n/\H.lo<=H.m.n/\∃n0,∀n,n0<=n->
   bH E (bU E X n) n c ⟨T,m.wl lo⟩=some (e,⟨T',H.m.wl H.lo⟩)):
  V E X (.loop c) s Q:=by
 have key:∀k g,μ g<=k->∀T m lo,A g T m lo->lo<=m.n->∃e H T',Q e H/\Kn H.K T'/\m.n<=H.m.n/\H.lo<=H.m.n/\∃n0,∀n,n0<=n->∀j,k+1<=j->
   jN (bH E (bU E X n) n c) j ⟨T,m.wl lo⟩=some (e,⟨T',H.m.wl H.lo⟩):=by
  intro k;induction k with
  |zero=>
   intro g hg T m lo hA e0;have⟨e,s1,T1,hQ,i0,b0,F,n1,hr⟩:=d0 g T m lo hA e0;cases e with
   |normal=>have⟨g',l0,_⟩:=hQ;omega
   |exit id=>exact⟨_,s1,T1,hQ,i0,b0,F,n1,λn hn j hj=>by
    obtain⟨j,rfl⟩:∃j',j=j'+1:=⟨j-1,ac⟩
    simp only[jN,hr n hn]⟩
   |ret=>exact⟨_,s1,T1,hQ,i0,b0,F,n1,λn hn j hj=>by
    obtain⟨j,rfl⟩:∃j',j=j'+1:=⟨j-1,ac⟩
    simp only[jN,hr n hn]⟩
  |succ k ih=>
   intro g hg T m lo hA e0;have⟨e,s1,T1,hQ,i0,b0,F,n1,hr⟩:=d0 g T m lo hA e0;cases e with
   |normal=>
    have⟨g',l0,o0⟩:=hQ;obtain⟨e,s2,T2,p0,q0,r0,j0,n2,s0⟩:=ih g' ac T1 s1.m s1.lo o0 F;refine⟨e,s2,T2,p0,q0,WA b0 r0,j0,max n1 n2,λn hn j hj=>?_⟩;obtain⟨j,rfl⟩:∃j',j=j'+1:=⟨j-1,ac⟩
    simp only[jN,hr n ac,s0 n ac j ac]
   |exit id=>exact⟨_,s1,T1,hQ,i0,b0,F,n1,λn hn j hj=>by
    obtain⟨j,rfl⟩:∃j',j=j'+1:=⟨j-1,ac⟩
    simp only[jN,hr n hn]⟩
   |ret=>exact⟨_,s1,T1,hQ,i0,b0,F,n1,λn hn j hj=>by
    obtain⟨j,rfl⟩:∃j',j=j'+1:=⟨j-1,ac⟩
    simp only[jN,hr n hn]⟩
 intro T hk e0;obtain⟨e,H,T',hQ,u0,hn,k0,n0,hr⟩:=key (μ g0) g0 (ID _) T s.m s.lo (h0 T hk) e0;exact⟨e,H,T',hQ,u0,hn,k0,max n0 (μ g0+1),λn hn=>by simp only[bH,hr n ac n ac]⟩
def nd(T:Tr Φ)(dst:Option Tmp)(v:Φ)(t:Nat)(h:∀d,dst=some d->d≠t):(put T dst v).get t=T.get t:=by cases dst with|none=>rfl|some d=>simp only[put,Tr.cF];rw[Od (λe=>h d rfl e.symm)]
theorem uN{call:aF}{ops:Array Oper}{t:Nat}:∀(l:List Oper) (fr F:Fr),Bx E call ops l fr=some F->(∀o∈l,∀d,o.dst=some d->d≠t)->F.T.get t=fr.T.get t
 |[],fr,F,h,_=>by cases h;rfl
 |o::rest,fr,F,h,hd=>by have hr:=λo' H=>hd o' (Wm _ H);have h0:=hd o F3;rw[nf]at h;cases hw:cd ops fr.T o with|true=>rw[hw,gc]at h;split at h;rw[uN rest _ _ h hr];exact nd _ _ _ _ h0;cases h|false=>rw[hw,sI]at h;rw[uN rest _ _ h hr];exact nd _ _ _ _ h0
theorem sE{call:aF}{ops:Array Oper}{t:Nat}:∀(l:List Oper) (j:Nat) (fr F:Fr),pR E call ops l j fr=some F->(∀o∈l,∀d,o.dst=some d->d≠t)->F.T.get t=fr.T.get t
 |[],j,fr,F,h,_=>by cases h;rfl
 |o::rest,j,fr,F,h,hd=>by have hr:=λo' H=>hd o' (Wm _ H);have h0:=hd o F3;rw[lE]at h;cases hw:cd ops fr.T o with|true=>rw[hw,gc]at h;split at h;rename_i v m _;(cases hb:(Nat.ble fr.m.n m.low ||(gj ops j ||CZ ops j fr.m fr.T o.op))with|true=>rw[hb,gc]at h;rw[sE rest _ _ _ h hr];exact nd _ _ _ _ h0|false=>rw[hb,sI]at h;cases h);cases h|false=>rw[hw,sI]at h;rw[sE rest _ _ _ h hr];exact nd _ _ _ _ h0
theorem zj{body:Fr->Option (Ex×Fr)}{t:Nat}(H:∀fr e F,body fr=some (e,F)->F.T.get t=fr.T.get t):∀(n:Nat) (fr:Fr) (e:Ex) (F:Fr),jN body n fr=some (e,F)->F.T.get t=fr.T.get t
 |0,_,_,_,h=>by cases h
 |n+1,fr,e,F,h=>by unfold jN at h;split at h;rename_i b0 h1;rw[zj H n _ _ _ h,H _ _ _ h1];grind
theorem eg{call:aF}{n t:Nat}:∀(c:Code) (fr:Fr) (e:Ex) (F:Fr),bH E call n c fr=some (e,F)->t∉assigned c->F.T.get t=fr.T.get t
 |.skip,fr,e,F,h,_=>by cases h;rfl
 |.label _,fr,e,F,h,_=>by cases h;rfl
 |.exit id,fr,e,F,h,_=>by cases h;rfl
 |.ret,fr,e,F,h,_=>by cases h;rfl
 |.goto _,fr,e,F,h,_=>by cases h
 |.refuse _,fr,e,F,h,_=>by cases h
 |.scope c,fr,e,F,h,H=>by simp only[bH]at h;exact eg c _ _ _ h H
 |.region id ops d,fr,e,F,h,H=>by have hd:∀o∈ops.toList,∀d,o.dst=some d->d≠t:=λo ho d hd he=>H (E0.2 ⟨o,ho,by rw[hd,he]⟩);(cases d with|true=>simp only[bH,gc]at h;(cases hq:pR E call ops ops.toList 0 fr with|none=>rw[hq]at h;cases h|some b0=>rw[hq]at h;cases h;exact sE _ _ _ _ hq hd)|false=>simp only[bH,sI]at h;cases hq:Bx E call ops ops.toList fr with|none=>rw[hq]at h;cases h|some b0=>rw[hq]at h;cases h;exact uN _ _ _ hq hd)
 |.seq a b,fr,e,F,h,H=>by simp only[assigned,HN,not_or]at H;simp only[bH]at h;split at h;rename_i b0 h1;rw[eg b _ _ _ h H.2,eg a _ _ _ h1 H.1];exact eg a _ _ _ h H.1
 |.cond c x y,fr,e,F,h,H=>by simp only[assigned,HN,not_or]at H;simp only[bH]at h;split at h;rename_i b _;(cases b with|true=>exact eg x _ _ _ h H.1|false=>exact eg y _ _ _ h H.2);cases h
 |.block id c,fr,e,F,h,H=>by simp only[bH]at h;split at h;rename_i d0 b0 h1;have:=eg c _ _ _ h1 H;(cases hb:Nat.beq d0 id with|true=>rw[hb]at h;cases h;exact this|false=>rw[hb]at h;cases h;exact this);exact eg c _ _ _ h H
 |.loop c,fr,e,F,h,H=>by simp only[bH]at h;exact zj (λfr e F h=>eg c fr e F h H) _ _ _ _ h
 |.rangeFunc g ps a b,fr,e,F,h,H=>by simp only[bH]at h;grind
theorem jI:∀(ts:List Nat) (K:KT) {t:Nat} {k:KV},(forget K ts).get t=some k->t∉ts/\K.get t=some k
 |[],K,t,k,h=>⟨co,h⟩
 |a::ts,K,t,k,h=>by have⟨H,F⟩:=jI ts (K.del a) h;rw[KT.Ur]at F;grind
end
section
variable{E:Env}{X:aF}
def TV(T:Tr Φ):List Nat->ν->Prop
 |[],_=>True
 |t::ts,F=>match F with
  |v::r=>T.get t=some v/\TV T ts r
  |[]=>False
theorem vp{T:Tr Φ}:∀(ts:List Nat) (vs:ν) (K:KT) (f:KT->Prop),Kn K T->TV T ts vs->HJ (aG E X) ts vs K f->∃H,Kn H T/\f H
 |[],_,K,f,F,_,h=>⟨K,F,h⟩
 |t::ts,vs,K,f,F,hv,h=>by unfold HJ at h;obtain⟨v,r,rfl,h⟩:=NX.1 h;exact vp ts r _ f (F.set hv.1) hv.2 h
theorem sX{K:KT}{T:Tr Φ}(hk:Kn K T):∀(ts:List Nat) (vs:ν),xN K ts=some vs->TV T ts vs
 |[],_,_=>trivial
 |t::ts,vs,h=>by unfold xN at h;split at h;rename_i v hv;split at h;rename_i F H;cases h;exact⟨hk _ _ hv,sX hk ts F H⟩;cases h;cases h
theorem DG{T:Tr Φ}:∀(ps:List Tmp) (args:ν) (K:KT) (f:KT->Prop) (T:Tr Φ),Kn K T->K0 (aG E X) ps args K f->args.length=ps.length/\∃H,Kn H (xT T (ps.zip args))/\f H
 |[],args,K,f,T,F,h=>by(cases args with|nil=>exact⟨rfl,K,F,h⟩|cons v r=>exact(h:False).elim)
 |p::ps,args,K,f,T,F,h=>by obtain⟨v,r,rfl,h⟩:=NX.1 h;obtain⟨h1,h2⟩:=DG (T:=T) ps r _ f (T.set p v) (F.put (some p) (.v v)) h;exact⟨by simp[h1],h2⟩
theorem V.rangeFunc{gv:Operand}{ps:Array Tmp}{a b:Code}{Q:Ex->St->Prop}{O0 P0:Nat}{gf:Fn}(ha:∀s Q,zF E (aG E X) a O0 s Q->V E X a s Q)(hb:∀s Q,zF E (aG E X) b P0 s Q->V E X b s Q)
  (hf:mN s.K gv=some (.func gf fi ca))
  (h:RF E X gf fi.toList ca.toList s.m s.lo (λargs m1 Qb=>K0 (aG E X) ps.toList args s.K λK1=>zF E (aG E X) a O0 ⟨K1,m1,m1.n⟩ λe s1=>e.Nx (Vv s.m.n m1 s1.m λm2=>zF E (aG E X) b P0 ⟨s1.K,m2,min s1.lo s.m.n⟩ λe2 s2=>Qb m2 e2 s2.m s2.lo) False) (λm lo=>Q .normal ⟨s.K,m,lo⟩) ((leaves b).map λe=>(e,λm lo=>Q e ⟨s.K,m,lo⟩))):V E X (.rangeFunc gv ps a b) s Q:=λT hk A1=>by
 obtain⟨fr,xs,Dt,I,J,B,⟨fk,rfl⟩,hG,hB,hD,hI,hJ,h0,p0,q0,r0⟩:=h;have hy:(s.m.push (.loop ⟨T,ps,a,b,.ready,none,E.G⟩)).get s.m.n=.loop ⟨T,ps,a,b,.ready,none,E.G⟩:=(by rw[M.kC,F6 rfl]);have s0:Ky s.m.n s.m (s.m.push (.loop ⟨T,ps,a,b,.ready,none,E.G⟩)):=⟨LW _,λc hc _=>by rw[M.kC,Od ac]⟩;have F:∀(m:M) (r:CO),s.m.n<m.n->Ky s.m.n m (m.set s.m.n (.loop r)):=λm r hm=>⟨ID _,λc _ u0=>by rw[M.cF _ _ _ _ hm,Od u0]⟩
 have⟨vG,mG,bG,g1,B1,Q0⟩:=hG s.m.n (s.m.n+1) B (λi m=>I i m/\m.get s.m.n=.loop ⟨T,ps,a,b,.ready,none,E.G⟩) (λm=>∃e:Ex,e≠Ex.normal/\J e m/\m.get s.m.n=.loop ⟨T,ps,a,b,.done,some e,E.G⟩) (s.m.push (.loop ⟨T,ps,a,b,.ready,none,E.G⟩)) (λi m1 h=>hD i m1 h.1) (λi m1 m2 h he=>⟨hI i m1 m2 h.1 ⟨he.n,λc hc _=>he.get c hc⟩,by rw[he.get _ (M.nP (by rw[h.2];simp)),h.2]⟩)
  (λm1 m2 ⟨e,h1,h2,h3⟩ he=>⟨e,h1,hJ e m1 m2 h2 ⟨he.n,λc hc _=>he.get c hc⟩,by rw[he.get _ (M.nP (by rw[h3];simp)),h3]⟩)
  (Oj _) (ID _) ac
  (λi args mm i1 hx ⟨hi,l0⟩=>by
   obtain⟨hlen,K1,j1,hv⟩:=DG (T:=T) _ _ _ _ T hk (p0 i args mm i1 hx hi);obtain⟨e1,s1,T1,y0,a1,b1,v1,n1,k1⟩:=ha _ _ hv _ j1 (ID _);cases e1 with
   |exit id=>exact y0.elim
   |ret=>exact y0.elim
   |normal=>
    have⟨e0,hP⟩:=y0;have g0:s1.m.get s.m.n=.loop ⟨T,ps,a,b,.ready,none,E.G⟩:=by rw[e0 _ (ID _) ac,l0]
    have i0:s.m.n<s1.m.n:=M.nP (by rw[g0];simp);have l1:=hP (s1.m.set s.m.n (.loop ⟨T,ps,a,b,.busy,none,E.G⟩)) rfl (λc hc=>by rw[M.cF _ _ _ _ i0,Od hc]);obtain⟨e2,s2,T2,⟨G1,o0,A0⟩,w1,c1,y1,n2,o1⟩:=hb _ _ l1 T1 a1 (by show min s1.lo s.m.n<=s1.m.n;omega);have j0:s2.m.get s.m.n=.loop ⟨T,ps,a,b,.busy,none,E.G⟩:=by
     have h:=o0 _ (ID _) ac;rw[show s2.m.get s.m.n=_ from(match fr,h with |.ob _,h=>h (.inl rfl) |.own _,h=>h.2.1 rfl),M.cF _ _ _ _ i0,F6 rfl]
    have H:s.m.n<s2.m.n:=M.nP (by rw[j0];simp);have c1:s1.m.n<=s2.m.n:=c1;have b1:mm.n<=s1.m.n:=b1;have b0:∀(st:LoopState) (pe:Option Ex) (v:Φ),(match e2 with
       |.normal=>(v,st,pe)=(HT,.ready,none)
       |e=>(v,st,pe)=(IA,.done,some e))->
      Cl E X (.yield s.m.n) args mm (min s2.lo s.m.n) v (s2.m.set s.m.n (.loop ⟨T,ps,a,b,st,pe,E.G⟩)):=by
     intro st pe v hv;refine⟨by show mm.n<=s2.m.n;omega,ac,max n1 n2+1,λn hn l hl=>?_⟩;obtain⟨k,rfl⟩:∃k,n=k+1:=⟨n-1,ac⟩
     have e1:=k1 k ac;have B0:=o1 k ac;have d1:(Nat.beq args.length ps.size && Nat.beq E.G E.G):=by
      have:args.length=ps.size:=by simpa using hlen
      rw[this,FF,FF];rfl
     simp only[bU,xX];rw[M.dF,l0];dsimp only;rw[d1];simp only[gc];have e1:bH E (bU E X k) k a {T:=xT T (ps.toList.zip args),m:={mm.wl l with low:=(mm.wl l).n}}=some (.normal,⟨T1,s1.m.wl s1.lo⟩):=e1;rw[e1];dsimp only;rw[M.dF,g0];dsimp only;have B0:bH E (bU E X k) k b {T:=T1,m:=(s1.m.wl s1.lo).set s.m.n (.loop ⟨T,ps,a,b,.busy,none,E.G⟩)}=some (e2,⟨T2,s2.m.wl s2.lo⟩):=B0;rw[B0];dsimp only;rw[M.dF,j0];dsimp only;cases e2 with
     |normal=>cases hv;rfl
     |exit id=>cases hv;rfl
     |ret=>cases hv;rfl
    have d0:∀(r:CO) c,s.m.n+1<=c->c<mm.n->fr.gen mm (s2.m.set s.m.n (.loop r)) c:=λr c h1 h2=>by
     have h:=o0 c ac h2;have e2:(s2.m.set s.m.n (.loop r)).get c=s2.m.get c:=by rw[M.cF _ _ _ _ H,Od ac]
     have e1:(s1.m.set s.m.n (.loop ⟨T,ps,a,b,.busy,none,E.G⟩)).get c=mm.get c:=by rw[M.cF _ _ _ _ i0,Od ac,e0 c ac h2]
     match fr,h with
     |.ob φ,h=>exact λh3=>by rw[e2,h (.inr (by rw[e1];exact h3)),e1]
     |.own P,⟨hP,_,h⟩=>
      exact λh3=>⟨by rw[e2,(h h3).1,e1],λv e g hv=>(h h3).2 v e g (by rw[M.cF _ _ _ _ H,Od ac]at hv;exact hv)⟩
    cases e2 with
    |normal=>
     refine⟨HT,_,_,b0 .ready none _ rfl,ac,Ua _ _,d0 _,.inl ⟨rfl,hI _ _ _ A0 (F _ _ H),?_⟩⟩;rw[M.cF _ _ _ _ H,F6 rfl]
    |exit id=>
     refine⟨IA,_,_,b0 .done (some (.exit id)) _ rfl,ac,Ua _ _,d0 _,.inr ⟨rfl,.exit id,co,hJ _ _ _ A0 (F _ _ H),?_⟩⟩;rw[M.cF _ _ _ _ H,F6 rfl]
    |ret=>
     refine⟨IA,_,_,b0 .done (some .ret) _ rfl,ac,Ua _ _,d0 _,.inr ⟨rfl,.ret,co,hJ _ _ _ A0 (F _ _ H),?_⟩⟩;rw[M.cF _ _ _ _ H,F6 rfl])
  ⟨hI 0 _ _ h0 s0,hy⟩
 have⟨k0,_,n0,cE⟩:=g1;have k0:s.m.n+1<=mG.n:=k0
 have hex:∀(r:CO),mG.get s.m.n=.loop r->r.st≠.busy->∀n,n0<=n->bH E (bU E X n) n (.rangeFunc gv ps a b) ⟨T,s.m.wl s.lo⟩=
   some (r.zM.getD .normal,⟨T,(mG.set s.m.n (.loop {r with st:=.exhausted})).wl (min (min s.lo bG) s.m.n)⟩):=by
  intro r hr p1 n hn;have hc:bU E X n (.func fk) (fi.toList++(.func (.yield (s.m.wl s.lo).n) #[] #[]::ca.toList)) ((s.m.wl s.lo).push (.loop ⟨T,ps,a,b,.ready,none,E.G⟩))=some (vG,mG.wl (min s.lo bG)):=cE n hn s.lo (by show s.lo<=s.m.n+1;omega);simp only[bH];rw[bD hk hf];dsimp only;rw[hc];dsimp only;have r1:(mG.wl (min s.lo bG)).get (s.m.wl s.lo).n=.loop r:=hr;rw[r1];dsimp only;cases hs:r.st with
  |busy=>exact absurd hs p1
  |ready=>rfl
  |done=>rfl
  |exhausted=>rfl
 rcases Q0 with⟨hi,hr⟩|⟨e,u0,hj,hr⟩;·refine⟨.normal,⟨s.K,mG.set s.m.n (.loop ⟨T,ps,a,b,.exhausted,none,E.G⟩),min (min s.lo bG) s.m.n⟩,T,q0 _ _ (hI _ _ _ hi (F _ _ k0)) ac,hk,by show s.m.n<=mG.n;omega,by show min (min s.lo bG) s.m.n<=mG.n;omega,n0,hex _ hr co⟩
 ·have u1:Q e ⟨s.K,mG.set s.m.n (.loop ⟨T,ps,a,b,.exhausted,some e,E.G⟩),min (min s.lo bG) s.m.n⟩:=(by obtain⟨p,hp,he,hq⟩:=r0 _ _ (min (min s.lo bG) s.m.n) u0 (hJ _ _ _ hj (F _ ⟨T,ps,a,b,.exhausted,some e,E.G⟩ k0)) ac;obtain⟨e',_,rfl⟩:=Dc.1 hp;cases he;exact hq);refine⟨e,⟨s.K,mG.set s.m.n (.loop ⟨T,ps,a,b,.exhausted,some e,E.G⟩),min (min s.lo bG) s.m.n⟩,T,u1,hk,by show s.m.n<=mG.n;omega,by show min (min s.lo bG) s.m.n<=mG.n;omega,n0,hex _ hr co⟩
theorem dR:∀(c:Code) (rd:Nat) (s:St) (Q:Ex->St->Prop),zF E (aG E X) c rd s Q->V E X c s Q
 |.skip,_,s,Q,h=>λT hk F=>⟨_,s,T,h,hk,ID _,F,0,λn _=>rfl⟩
 |.label _,_,s,Q,h=>λT hk F=>⟨_,s,T,h,hk,ID _,F,0,λn _=>rfl⟩
 |.exit id,_,s,Q,h=>λT hk F=>⟨_,s,T,h,hk,ID _,F,0,λn _=>rfl⟩
 |.ret,_,s,Q,h=>λT hk F=>⟨_,s,T,h,hk,ID _,F,0,λn _=>rfl⟩
 |.region id ops d,_,s,Q,h=>λT hk F=>by obtain⟨s',T',hP,b0,hn,H,n0,hr⟩:=uF ops.toList 0 s _ h T hk F;exact⟨_,s',T',hP,b0,hn,H,n0,λn hn=>by simp only[bH,hr n hn,O6]⟩
 |.seq a b,rd,s,Q,h=>by unfold zF at h;(cases hp:PK rd a b with|false=>rw[hp,sI]at h;exact V.seq ((dR a _ s _ h).mono λe s' hq=>by cases e with|normal=>exact dR b rd s' Q hq|exit id=>exact hq|ret=>exact hq)|true=>rw[hp,gc,yy]at h;have ha:=dR a _ s _ h;intro T hk F;have⟨e,s1,T1,h1,j0,k0,d0,n1,e0⟩:=ha T hk F;cases e with|normal=>have⟨vs,q0,h1⟩:=bB.1 h1;have h0:Kn (forget s.K (assigned a)) T1:=(by intro t k ht;have:=eg a _ _ _ (e0 n1 (ID _)) (jI _ _ ht).1;dsimp only at this;rw[this];exact hk t k (jI _ _ ht).2);obtain⟨K',b0,l0⟩:=vp _ _ _ _ h0 (sX j0 _ _ q0) h1;obtain⟨e,s2,T2,h2,i0,r0,o0,n2,s0⟩:=dR b rd _ Q l0 T1 b0 d0;exact⟨e,s2,T2,h2,i0,WA k0 r0,o0,max n1 n2,λn hn=>by simp only[bH,e0 n ac,s0 n ac]⟩|exit id=>exact⟨_,s1,T1,h1,j0,k0,d0,n1,λn hn=>by simp only[bH,e0 n hn]⟩|ret=>exact⟨_,s1,T1,h1,j0,k0,d0,n1,λn hn=>by simp only[bH,e0 n hn]⟩)
 |.cond c x y,rd,s,Q,h=>λT hk F=>by have⟨_,hb,h⟩:=bB.1 h;obtain⟨b,rfl,h⟩:=Ar.1 h;(cases b with|true=>have⟨e,s',T',hP,b0,hn,H,n0,hr⟩:=dR x rd s Q h T hk F;exact⟨e,s',T',hP,b0,hn,H,n0,λn hn=>by simp only[bH,bD hk hb,hr n hn,gc]⟩|false=>have⟨e,s',T',hP,b0,hn,H,n0,hr⟩:=dR y rd s Q h T hk F;exact⟨e,s',T',hP,b0,hn,H,n0,λn hn=>by simp only[bH,bD hk hb,hr n hn,sI]⟩)
 |.block id c,rd,s,Q,h=>λT hk F=>by obtain⟨e,s',T',hP,b0,hn,H,n0,hr⟩:=dR c rd s _ h T hk F;refine⟨_,s',T',hP,b0,hn,H,n0,λn hn=>?_⟩;have e1:=hr n hn;(cases e with|normal=>simp only[bH,e1,Ex.KX]|ret=>simp only[bH,e1,Ex.KX]|exit u0=>simp only[bH,e1,Ex.KX];cases Nat.beq u0 id <;>rfl)
 |.loop c,rd,s,Q,h=>by unfold zF at h;rw[yy]at h;have⟨y0,A0,γ,μ,I,⟨g0,B0⟩,hI⟩:=bB.1 h;apply V.Z9 μ (λg T m lo=>∃vs,I g vs m lo/\TV T (carried s.K (assigned c)) vs/\Kn (forget s.K (assigned c)) T) g0 (λT hk=>⟨y0,B0,sX hk _ _ A0,λt k ht=>hk t k (jI _ _ ht).2⟩);rintro g T m lo ⟨vs,O0,P0,h0⟩ F;obtain⟨K',b0,l0⟩:=vp _ _ _ _ h0 P0 (hI g vs m lo O0);obtain⟨e,s',T',hQ,i0,hn,H,n0,hr⟩:=dR c _ _ _ l0 T b0 F;refine⟨e,s',T',?_,i0,hn,H,n0,hr⟩;(cases e with|normal=>have⟨Q0,p0,g',a1,b1⟩:=bB.1 hQ;refine⟨g',a1,Q0,b1,sX i0 _ _ p0,?_⟩;intro t k ht;have:=eg c _ _ _ (hr n0 (ID _)) (jI _ _ ht).1;dsimp only at this;rw[this];exact h0 t k ht|exit id=>exact hQ|ret=>exact hQ)
 |.scope c,rd,s,Q,h=>λT hk F=>by have⟨e,s',T',hP,b0,hn,H,n0,hr⟩:=dR c rd s Q h T hk F;exact⟨e,s',T',hP,b0,hn,H,n0,λn hn=>by simp only[bH,hr n hn]⟩
 |.rangeFunc f ps a b,_,s,Q,h=>by have⟨_,hf,h⟩:=bB.1 h;obtain⟨gf,fi,ca,rfl,h⟩:=rV.1 h;exact V.rangeFunc (λs Q h=>dR a _ s Q h) (λs Q h=>dR b _ s Q h) hf h
 |.goto l,_,s,Q,h=>h.elim
 |.refuse y,_,s,Q,h=>h.elim
theorem nn:∀(vs:ν) (i:Nat),Kn (sD vs i) (enter vs i)
 |[],_=>λ_ _ h=>by cases h
 |v::vs,i=>by have:=(nn vs (i+1)).put (some i) (.v v);exact this
theorem jC{K:KT}{T:Tr Φ}(h:Kn K T){m:M}:∀{rs:List ResultVar} {f:ν->Prop},CY E K m rs f->∃vs,f vs/\∀l,iw E T (m.wl l) rs=some vs
 |[],f,F=>⟨[],F,λ_=>rfl⟩
 |.tmp t::rs,f,F=>by have⟨v,H,F⟩:=bB.1 F;have⟨vs,hf,b0⟩:=jC h F;refine⟨_,hf,λl=>?_⟩;split at H;rename_i k hk;cases H;simp only[iw,nc,je,h t k hk,Wi,b0];cases H
 |.cell a t::rs,f,F=>by have⟨p,hp,F⟩:=bB.1 F;have⟨v,H,F⟩:=bB.1 F;have⟨vs,hf,b0⟩:=jC h F;refine⟨_,hf,λl=>?_⟩;split at hp;rename_i k hk;cases hp;unfold aC at H;split at H;rename_i p' a' d0;have e:je T a=.pointer (some a'):=(by simp only[je,h a _ hk,Wi,d0]);simp only[iw,nc,e,BM,H,b0];cases H;cases hp
def Bh(h:iw E T m fn.results.toList=some vs):result? E fn T m=some (aM vs):=by unfold result?;rw[h];match vs with|[]=>rfl|[v]=>rfl|_::_::_=>rfl
def F0(X:aF)(f:Nat):Prop:=∀args m,X (.func f) args m=none
theorem Cl.VN{fn':Func}(hX:∀l,X (.func f) args (m.wl l)=none)(hf:E.fn.get f=some fn)(hl:Nat.ble args.length fn.ntmps)
  (d0:fn'.results=fn.results) (hc:∀b',fn'.body=some b'->∃b,fn.body=some b/\∀call n fr r,bH E call n b' fr=some r->bH E call n b fr=some r) (h:VX E (aG E X) rd fn' args m R):
  ∃vs m' lo,R vs m' lo/\m.n<=m'.n/\∃n0,∀n,n0<=n->∀l,l<=m.n->
   bU E X n (.func f) args (m.wl l)=some (bif aZ (aM vs) && Nat.ble m.n lo then(aM vs,m.wl l)else(aM vs,m'.wl (min l lo))):=by
 unfold VX at h;split at h
 ·rename_i k0 l0;obtain⟨body,hb,e0⟩:=hc _ l0;obtain⟨e,F,T',H,o0,hn,q0,n0,hr⟩:=dR _ _ _ _ h (enter args 0) (nn _ _) (ID _);have g0:(∀id,e≠.exit id)/\CY E F.K F.m fn.results.toList λvs=>R vs F.m F.lo:=(by rw[d0]at H;cases e with|exit id=>exact H.elim|normal=>exact⟨λ_ h=>(by cases h),H⟩|ret=>exact⟨λ_ h=>(by cases h),H⟩);have⟨p0,b0⟩:=g0;have⟨vs,hR,b0⟩:=jC o0 b0;refine⟨vs,F.m,F.lo,hR,hn,n0+1,λn r0 l s0=>?_⟩;obtain⟨n,rfl⟩:∃k,n=k+1:=⟨n-1,ac⟩;have h0:bH E (bU E X n) n body {T:=enter args 0,m:={m.wl l with low:=(m.wl l).n}}=some (e,⟨T',F.m.wl F.lo⟩):=e0 _ _ _ _ (hr n ac);have i0:=Bh (fn:=fn) (b0 F.lo);have j0:X (.func f) args (m.wl l)=none:=hX l
  have fin:(bif aZ (aM vs) && Nat.ble (m.wl l).n (F.m.wl F.lo).low then some (aM vs,m.wl l)else some (aM vs,{F.m.wl F.lo with low:=min (m.wl l).low (F.m.wl F.lo).low}))=
    some (bif aZ (aM vs) && Nat.ble m.n F.lo then(aM vs,m.wl l)else(aM vs,F.m.wl (min l F.lo))):=by
   cases hc:(aZ (aM vs) && Nat.ble m.n F.lo)with
   |true=>have:(aZ (aM vs) && Nat.ble (m.wl l).n (F.m.wl F.lo).low):=hc;rw[this];rfl
   |false=>have:(aZ (aM vs) && Nat.ble (m.wl l).n (F.m.wl F.lo).low)=false:=hc;rw[this];rfl
  cases e with
  |exit id=>exact(p0 id rfl).elim
  |normal=>simp only[bU,j0,hf,hb,hl,gc,h0,i0];exact fin
  |ret=>simp only[bU,j0,hf,hb,hl,gc,h0,i0];exact fin
 exact h.elim
def Cl.Sh(F:F0 X f)(H:E.fn.get f=some fn)(hl:Nat.ble args.length fn.ntmps)
  (h:VX E (aG E X) rd fn args m R):
  ∃vs m' lo,R vs m' lo/\m.n<=m'.n/\∃n0,∀n,n0<=n->∀l,l<=m.n->
   bU E X n (.func f) args (m.wl l)=some (bif aZ (aM vs) && Nat.ble m.n lo then(aM vs,m.wl l)else(aM vs,m'.wl (min l lo))):=
 Cl.VN (λ_=>F _ _) H hl rfl (λb h=>⟨b,h,λ_ _ _ _ h=>h⟩) h
def Cl.body(F:F0 X f)(H:E.fn.get f=some fn)(hl:Nat.ble args.length fn.ntmps)
  (h:dB E (aG E X) fn args m R):
  ∃vs m' lo,R vs m' lo/\m.n<=m'.n/\∃n0,∀n,n0<=n->∀l,l<=m.n->
   bU E X n (.func f) args (m.wl l)=some (bif aZ (aM vs) && Nat.ble m.n lo then(aM vs,m.wl l)else(aM vs,m'.wl (min l lo))):=Cl.Sh F H hl h
theorem Cl.tG(hn:m.n<=m'.n)(F:aZ (aM vs)=false\/lo<m.n)
  (h:∃H,∀n,H<=n->∀l,l<=m.n->bU E X n (.func f) args (m.wl l)=some (bif aZ (aM vs) && Nat.ble m.n lo then(aM vs,m.wl l)else(aM vs,m'.wl (min l lo)))):Cl E X (.func f) args m (min m.n lo) (aM vs) m':=by have⟨H,h⟩:=h;refine⟨hn,Tn _ _,H,λn hn l hl=>?_⟩;have:(aZ (aM vs) && Nat.ble m.n lo)=false:=(by rcases F with hv|hv;grind;have:Nat.ble m.n lo=false:=(by cases F:Nat.ble m.n lo with|false=>rfl|true=>have:=IG F;omega);grind);grind
def Cl.of_flat(hv:aZ (aM vs))(F:m.n<=lo)
  (h:∃H,∀n,H<=n->∀l,l<=m.n->bU E X n (.func f) args (m.wl l)=some (bif aZ (aM vs) && Nat.ble m.n lo then(aM vs,m.wl l)else(aM vs,m'.wl (min l lo)))):Cl E X (.func f) args m m.n (aM vs) m:=by have⟨H,h⟩:=h;refine⟨ID _,ID _,H,λn hn l hl=>?_⟩;have:Nat.ble m.n lo:=Ox F;grind
def Cl.flat{v:Φ}(H:F0 X f)(hf:E.fn.get f=some fn)(hl:Nat.ble args.length fn.ntmps)(hv:aZ v)
  (h:dB E (aG E X) fn args m λvs m' lo=>aM vs=v/\m.n<=lo):Cl E X (.func f) args m m.n v m:=by obtain⟨vs,s,lo,⟨rfl,F⟩,_,hr⟩:=Cl.body H hf hl h;exact .of_flat hv F hr
def Cl.heap{R:Φ->M->Nat->Prop}(F:F0 X f)(H:E.fn.get f=some fn)(hl:Nat.ble args.length fn.ntmps)
  (h:dB E (aG E X) fn args m λvs m' lo=>(aZ (aM vs)=false\/lo<m.n)/\R (aM vs) m' (min m.n lo)):
  ∃v m' b,Cl E X (.func f) args m b v m'/\R v m' b:=by have⟨vs,s,lo,⟨hv,hR⟩,hn,hr⟩:=Cl.body F H hl h;exact⟨_,_,_,.tG hn hv hr,hR⟩
def Cl.gen{R:Φ->M->Nat->Prop}(hX:F0 X f)(hf:E.fn.get f=some fn)(hl:Nat.ble args.length fn.ntmps)
  (h:dB E (aG E X) fn args m λvs m' lo=>(aZ (aM vs)/\m.n<=lo/\R (aM vs) m m.n)\/((aZ (aM vs)=false\/lo<m.n)/\R (aM vs) m' (min m.n lo))):
  ∃v m' b,Cl E X (.func f) args m b v m'/\R v m' b:=by have⟨vs,s,lo,h,hn,hr⟩:=Cl.body hX hf hl h;rcases h with⟨F,H,hR⟩|⟨F,hR⟩;exact⟨_,_,_,.of_flat F H hr,hR⟩;exact⟨_,_,_,.tG hn F hr,hR⟩
def Cl.wQ{v:Φ}(H:F0 X f)(hf:E.fn.get f=some fn)(hl:Nat.ble args.length fn.ntmps)(hv:aZ v)
  (h:fP E (aG E X) fn args m λvs m' lo=>aM vs=v/\m.n<=lo):Cl E X (.func f) args m m.n v m:=by obtain⟨vs,s,lo,⟨rfl,F⟩,_,hr⟩:=Cl.Sh H hf hl h;exact .of_flat hv F hr
def Cl.Hj{R:Φ->M->Nat->Prop}(hX:F0 X f)(hf:E.fn.get f=some fn)(hl:Nat.ble args.length fn.ntmps)
  (h:fP E (aG E X) fn args m λvs m' lo=>(aZ (aM vs)/\m.n<=lo/\R (aM vs) m m.n)\/((aZ (aM vs)=false\/lo<m.n)/\R (aM vs) m' (min m.n lo))):
  ∃v m' b,Cl E X (.func f) args m b v m'/\R v m' b:=by have⟨vs,s,lo,h,hn,hr⟩:=Cl.Sh hX hf hl h;rcases h with⟨F,H,hR⟩|⟨F,hR⟩;exact⟨_,_,_,.of_flat F H hr,hR⟩;exact⟨_,_,_,.tG hn F hr,hR⟩
def Cl.known{f:Fn}{v:Φ}(H:∀l,X f args (m.wl l)=some (v,m'.wl l))(F:m.n<=m'.n)(hf:∃k,f=.func k):Cl E X f args m m.n v m':=by obtain⟨k,rfl⟩:=hf;refine⟨F,ID _,1,λn F l hl=>?_⟩;obtain⟨n,rfl⟩:∃j,n=j+1:=⟨n-1,ac⟩;simp only[bU,H,Zh hl]
def Cl.Qz{k:Nat}{v:Φ}(H:∀l,l<=m.n->X (.func k) args (m.wl l)=some (v,m'.wl (min l b)))(F:m.n<=m'.n)(hb:b<=m.n):Cl E X (.func k) args m b v m':=by refine⟨F,hb,1,λn F l hl=>?_⟩;obtain⟨n,rfl⟩:∃j,n=j+1:=⟨n-1,ac⟩;simp only[bU,H l hl]
def aw{f:Fn}{v:Φ}{P:Φ->M->Nat->Prop}(h:Cl E X f args m b v m1)(F:P v m1 b):lM E X f args m P:=⟨v,m1,b,h,F⟩
end
section
variable{E:Env}{X:aF}{k:IntKind}{t:TypeId}{a b:Int}
def cK:bE E .leq t (.int k a) (.int k b)=some (.bool (decide (a<=b))):=by simp[bE,kL]
def aK:bE E .lss t (.int k a) (.int k b)=some (.bool (decide (a<b))):=by simp[bE,kL]
def cW:bE E .geq t (.int k a) (.int k b)=some (.bool (decide (b<=a))):=by simp[bE,kL]
def cx:bE E .gtr t (.int k a) (.int k b)=some (.bool (decide (b<a))):=by simp[bE,kL]
def aJ:bE E .eql t (.int k a) (.int k b)=some (.bool (decide (a=b))):=by simp[bE,kL];rfl
def bY:bE E .neq t (.int k a) (.int k b)=some (.bool (!(decide (a=b)))):=by simp[bE,kL,bne];rfl
def aL:bE E .add t (.int k a) (.int k b)=some (.int k (k.wrap (a+b))):=by simp[bE,kL]
def eY:bE E .sub t (.int k a) (.int k b)=some (.int k (k.wrap (a-b))):=by simp[bE,kL]
def kJ:bE E .mul t (.int k a) (.int k b)=some (.int k (k.wrap (a*b))):=by simp[bE,kL]
def qM(h:b≠0):bE E .quo t (.int k a) (.int k b)=some (.int k (k.wrap (a.tdiv b))):=by simp[bE,kL,h]
def xB(h:b≠0):bE E .rem t (.int k a) (.int k b)=some (.int k (a.tmod b)):=by simp[bE,kL,h]
theorem bC{b:Bool}:CT .not (.bool b)=some (.bool (!b)):=rfl
theorem Eu:CT .neg (.int k a)=some (.int k (k.wrap (0-a))):=rfl
def me{α:Sort _}[Decidable c]{a b:α}(h:¬c:=by omega):(if c then a else b)=b:=Od h
def ifp{α:Sort _}[Decidable c]{a b:α}(h:c:=by omega):(if c then a else b)=a:=F6 h
def Co[Decidable c](h:¬c:=by omega):decide c=false:=QY h
def dto[Decidable c](h:c:=by omega):decide c:=Dk h
def vA{α:Type}{l:List α}{i:Nat}(h:i<l.length:=by omega):l[i]?=some l[i]:=Iy h
def wrap64{x:Int}(F: -9223372036854775808<=x:=by omega)(H:x<9223372036854775808:=by omega):IntKind.i64.wrap x=x:=by have e:IntKind.i64.wrap x=if x%18446744073709551616>=9223372036854775808 then x%18446744073709551616-18446744073709551616 else x%18446744073709551616:=(by unfold IntKind.wrap;simp[IntKind.bits,IntKind.signed]);grind
theorem ag{b:Bool}{Q:Prop}:iR (.bool b) P Q=lR b P Q:=rfl
theorem ck{g:Fn}{P:Fn->Array Φ->Array Φ->Prop}:rn (.func g fi ca) P=P g fi ca:=rfl
theorem av{v:Φ}{r:ν}{P:Φ->ν->Prop}:un (v::r) P=P v r:=rfl
theorem cG{a:Addr}:EY (.pointer (some a))=some (.pointer (some a)):=rfl
theorem lq{f:FuncId}{a b:Array Φ}:EY (.func (.func f) a b)=some (.func (.func f) a b):=rfl
theorem aD{vs:Array Φ}:mi (.tuple vs) i=vs.toList[i]?:=rfl
theorem bd{cs:Array Φ}:cells (.agg cs)=cs.toList:=rfl
theorem nw{x:Int}:cells (.int k x)=[.int k x]:=rfl
theorem lH{x:Bool}:cells (.bool x)=[.bool x]:=rfl
theorem jS{a:Option Addr}{c:Nat}:cells (.slice a n c)=[.slice a n c]:=rfl
theorem nq{a:Option Addr}:cells (.pointer a)=[.pointer a]:=rfl
theorem nu{a:Option Nat}:cells (.map a)=[.map a]:=rfl
theorem lG{f:Fn}{a b:Array Φ}:cells (.func f a b)=[.func f a b]:=rfl
def af{b:Bool}{Q:Prop}(F:b->P)(H:b=false->Q):lR b P Q:=ads.2 ⟨F,H⟩
theorem bM{Q:Prop}:lR true P Q=P:=rfl
theorem aT{Q:Prop}:lR false P Q=Q:=rfl
def Lp.intro{F:(ν->M->Nat->Prop)->ν->M->Nat->Prop}{γ:Type}(H:γ->Nat)(I:γ->ν->M->Nat->Prop)(g0:γ)(h0:I g0 vs m lo)
  (hs:∀g vs m lo,I g vs m lo->F (λvs m lo=>∃g',H g'<H g/\I g' vs m lo) vs m lo):Lp F vs m lo:=⟨γ,H,I,⟨g0,h0⟩,hs⟩
section
variable {m m' m1:M} {b c:Nat} {o:Ob}
def M.ni(h:b<m.n):m.get b=(m.st.get b).getD .dead:=by unfold M.get;have:Nat.blt b m.n:=dg;grind
def M.jP(h:m.n<=b):m.get b=.dead:=by unfold M.get;have:Nat.blt b m.n=false:=(by cases F:Nat.blt b m.n with|false=>rfl|true=>rw[T4]at F;omega);grind
def M.aU:(m.push o).get m.n=o:=by rw[M.ni (by rw[M.lg];omega)];show((m.st.set m.n o).get m.n).getD .dead=o;rw[Tr.cF,F6 rfl];rfl
def M.cH(h:b<m.n):(m.push o).get b=m.get b:=by rw[M.ni (by rw[M.lg];omega),M.ni h];show((m.st.set m.n o).get b).getD .dead=_;rw[Tr.cF,Od ac]
def M.get_set_same(h:b<m.n):(m.set b o).get b=o:=by rw[M.ni (m:=m.set b o) h];show((m.st.set b o).get b).getD .dead=_;rw[Tr.cF,F6 rfl];rfl
def M.dY(h:c≠b):(m.set b o).get c=m.get c:=by by_cases F:c<m.n;rw[M.ni F,M.ni (m:=m.set b o) F];show((m.st.set b o).get c).getD .dead=_;rw[Tr.cF,Od h];rw[M.jP (m:=m) ac,M.jP (m:=m.set b o) (by show m.n<=c;omega)]
def M.aP(h:m.get b=.cells cs e g):b<m.n:=by by_cases F:b<m.n;exact F;rw[M.jP ac]at h;cases h
def ah{P:M->Prop}(h:∀m1,m1.n=m.n+1->m1.get m.n=o->(∀b,b<m.n->m1.get b=m.get b)->P m1):od (m.push o) P:=
 h _ rfl M.aU λ_ F=>M.cH F
def Ext.refl:Ext m m:=⟨ID _,λ_ _=>rfl⟩
def Ext.trans(h:Ext m m1)(F:Ext m1 m'):Ext m m':=⟨WA h.n F.n,λb H=>by rw[F.get b (F7 H h.n),h.get b H]⟩
def Ext.push(h:Ext m m1):Ext m (m1.push o):=⟨WA h.n (LW _),λb F=>by rw[M.cH (F7 F h.n),h.get b F]⟩
theorem Ext.set(h:Ext m m1)(H:m.n<=b):Ext m (m1.set b o):=⟨h.n,λc F=>by rw[M.dY ac,h.get c F]⟩
def Ext.wl(h:Ext m m1){l:Nat}:Ext m (m1.wl l):=⟨h.n,h.get⟩
def Ext.cells(h:Ext m m1)(F:m.get b=.cells cs e g):m1.get b=.cells cs e g:=by rw[h.get b (M.aP F),F]
def aH{o:Nat}(h:m.get b=.cells cs e g):cellAt m ⟨b,o,none⟩=cs[o]?:=by unfold cellAt;simp only[h];rfl
def aI{o:Nat}(h:m.get b=.cells cs e g)(F:o+n<=cs.length):loadCells m ⟨b,o,none⟩ n=some ((cs.drop o).take n):=by unfold loadCells;have:Nat.ble (o+n) cs.length:=Ox F;grind
def oM{o:Nat}(h:m.get b=.cells cs e g)(F:o+vs.length<=cs.length)(H:vs.all one):
  storeCells m ⟨b,o,none⟩ vs=some (m.set b (.cells (cs.take o++(vs++cs.drop (o+vs.length))) e g)):=by unfold storeCells;have:Nat.ble (o+vs.length) cs.length:=Ox F;grind
end
class aQ (α:Type) where
 ty:TypeId
 sz:Nat
 agg:Bool
 dQ:List TypeId
 rep:M->α->ν->Prop
 pos:0 < sz
 one:agg=false->sz=1
 len:∀{m x cs},rep m x cs->cs.length=sz
 iH:∀{m x cs},rep m x cs->cs.all D.one=true
 aY:∀{m m' x cs},rep m x cs->(∀b c t g,m.get b=.cells c t g->t∈dQ->m'.get b=.cells c t g)->rep m' x cs
namespace aQ
def val(α:Type)[aQ α](cs:ν):Φ:=bif agg α then .agg cs.toArray else cs.headD undef
def an{α:Type}[aQ α]{m m':M}{x:α}{cs:ν}(h:rep m x cs)(he:Ext m m'):rep m' x cs:=aY h λ_ _ _ _ F _=>he.cells F
end aQ
def Sl{α:Type}[aQ α](m:M)(l:List α)(v:Φ):Prop:=
 (v=.slice none 0 0/\l=[])\/∃b o c F g,v=.slice (some ⟨b,o,none⟩) l.length c/\m.get b=.cells F (aQ.ty α) g/\o+l.length*aQ.sz α<=F.length/\
  ∀i x,l[i]?=some x->aQ.rep m x ((F.drop (o+i*aQ.sz α)).take (aQ.sz α))
def Sl.aY{α:Type}[aQ α]{m m':M}{l:List α}{v:Φ}(h:Sl m l v)(F:∀b c t g,m.get b=.cells c t g->t∈aQ.ty α::aQ.dQ α->m'.get b=.cells c t g):Sl m' l v:=by rcases h with h|⟨b,o,c,H,g,h1,h2,h3,h4⟩;exact .inl h;exact .inr ⟨b,o,c,H,g,h1,F _ _ _ _ h2 F3,h3,λi x hi=>aQ.aY (h4 i x hi) λb c t g hb ht=>F b c t g hb (Wm _ ht)⟩
def Sl.an{α:Type}[aQ α]{m m':M}{l:List α}{v:Φ}(h:Sl m l v)(he:Ext m m'):Sl m' l v:=h.aY λ_ _ _ _ F _=>he.cells F
def Sl.form{α:Type}[aQ α]{m:M}{l:List α}{v:Φ}(h:Sl m l v):∃a c,v=.slice a l.length c:=by rcases h with⟨rfl,rfl⟩|⟨b,o,c,F,g,rfl,_⟩;simp_all;grind
theorem Sl.one{α:Type}[aQ α]{m:M}{l:List α}{v:Φ}(h:Sl m l v):one v:=by obtain⟨a,c,rfl⟩:=h.form;rfl
def Sl.nil{α:Type}[aQ α]{m:M}:Sl m ([]:List α) U7:=.inl ⟨rfl,rfl⟩
def Sl.cells{α:Type}[aQ α]{m:M}{l:List α}{v:Φ}(h:Sl m l v):D.cells v=[v]:=by obtain⟨a,c,rfl⟩:=h.form;rfl
def qQ(E:Env)(T t:TypeId)(α:Type)[aQ α]:Prop:=
 ∃F H,E.ty.get T=some F/\(∃e,F.d=.slice e)/\F.es=aQ.sz α/\E.ty.get t=some H/\H.d.agg=aQ.agg α/\H.size=aQ.sz α
section
variable {E:Env} {m:M} {T t:TypeId} {α:Type} [aQ α] {l:List α} {v:Φ}
def Sl.len(h:Sl m l v)(F:qQ E T t α):aR E m .len [T] [v]=some (Ω l.length,m):=by have⟨ti,te,H,⟨e,h2⟩,_⟩:=F;obtain⟨a,c,rfl⟩:=h.form;simp only[aR,qz,H,h2,O6]
theorem Sl.index(h:Sl m l v)(hT:qQ E T t α){k:IntKind}{i:Nat}{x:α}(hi:l[i]?=some x):
  ∃p cs,aE E T v (.int k i)=some p/\aC E m t p=some (aQ.val α cs)/\aQ.rep m x cs:=by have⟨ti,te,h1,⟨e,h2⟩,h3,h4,h5,h6⟩:=hT;have F:=(Zv.1 hi).1;rcases h with⟨_,rfl⟩|⟨b,o,c,bc,g,rfl,hb,hlen,H⟩;grind;have hr:=H i x hi;have b0:=aQ.pos (α:=α);refine⟨Ψ b (o+i*aQ.sz α),_,?_,?_,hr⟩;have hc:0<=(i:Int)/\(i:Int)< (l.length:Int)/\0<ti.es:=⟨ac,ac,ac⟩;simp only[aE,h1,h2];rw[F6 hc,bk rfl,h3];rfl;have hle:o+i*aQ.sz α+aQ.sz α<=bc.length:=(by have:(i+1)*aQ.sz α<=l.length*aQ.sz α:=N5 _ F;grind);simp only[aC,loadVar,h4];unfold aQ.val;cases ha:aQ.agg α with|true=>rw[h5,ha,h6];rw[aI hb hle];rfl|false=>rw[aH hb];have d0:=aQ.len hr;have hs:=aQ.one ha;rw[List.headD_eq_head?_getD,List.head?_take,List.head?_drop,Od ac];grind
end
def vK{E:Env}{t:TypeId}{b o:Nat}(F:E.ty.get t=some ti)(h:m.get b=.cells cs e g)(hs:(cells x).length=ti.size)(H:o+(cells x).length<=cs.length)(h1:(cells x).all one):
  bw E m t (Ψ b o) x=some (m.set b (.cells (cs.take o++(cells x++cs.drop (o+(cells x).length))) e g),b):=by have:Nat.beq (cells x).length ti.size:=dg;simp only[bw,storeVar,F,this,gc,oM h H h1]
def bW{E:Env}{t:TypeId}{b o:Nat}{P:M->Nat->Prop}(F:E.ty.get t=some ti)(h:m.get b=.cells cs e g)(H:(cells x).length=ti.size)(hl:o+(cells x).length<=cs.length)(h1:(cells x).all one)
  (hP:∀m1,m1.n=m.n->m1.get b=.cells (cs.take o++(cells x++cs.drop (o+(cells x).length))) e g->(∀c,c≠b->m1.get c=m.get c)->P m1 b):dn (bw E m t (Ψ b o) x) P:=by rw[vK F h H hl h1,ak];exact hP _ rfl (M.get_set_same (M.aP h)) λc hc=>M.dY hc
def Sl.jr{E:Env}{T t:TypeId}{α:Type}[aQ α]{l:List α}{v:Φ}(h:Sl m l v)(hT:qQ E T t α){k:IntKind}{i:Nat}{x:α}(hi:l[i]?=some x):
  ∃b o F g cs,aE E T v (.int k i)=some (Ψ b o)/\m.get b=.cells F (aQ.ty α) g/\aQ.rep m x cs/\o+aQ.sz α<=F.length/\∀j,j<aQ.sz α->F[o+j]?=cs[j]?:=by have⟨ti,te,h1,⟨e,h2⟩,h3,h4,h5,h6⟩:=hT;have H:=(Zv.1 hi).1;rcases h with⟨_,rfl⟩|⟨b,o,c,F,g,rfl,hb,hlen,b0⟩;grind;have hr:=b0 i x hi;have d0:=aQ.pos (α:=α);refine⟨b,o+i*aQ.sz α,F,g,_,?_,hb,hr,?_,λj hj=>?_⟩;have hc:0<=(i:Int)/\(i:Int)< (l.length:Int)/\0<ti.es:=⟨ac,ac,ac⟩;simp only[aE,h1,h2];rw[F6 hc,bk rfl,h3];rfl;have:(i+1)*aQ.sz α<=l.length*aQ.sz α:=N5 _ H;grind;grind
def aj{E:Env}{t:TypeId}{b:Nat}{P:M->Nat->Prop}(F:E.ty.get t=some ti)(h:m.get b=.cells cs e g)(H:(cells x).length=ti.size)(hl:(cells x).length=cs.length)(h1:(cells x).all one)
  (hP:∀m1,m1.n=m.n->m1.get b=.cells (cells x) e g->(∀c,c≠b->m1.get c=m.get c)->P m1 b):dn (bw E m t (Ψ b 0) x) P:=by
 refine bW F h H ac h1 λm1 hn hg hk=>hP m1 hn ?_ hk;grind
