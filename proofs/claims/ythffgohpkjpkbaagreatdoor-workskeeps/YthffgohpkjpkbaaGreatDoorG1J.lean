/- A region that does not draw. -/
import Derived.Test.YthffgohpkjpkbaaGreatDoorG0J
import Derived.RecoverIn
import Derived.RangeFuncNested
set_option maxHeartbeats 1000000
set_option linter.defProp false
noncomputable section
namespace Go.D
open Go
variable{G b base f i j lo n nt p r rd:Nat}{ops:Array Oper}{T:Tr O}{o:Oper}{e t:TypeId}{L:Nat->Prop}{call:aF}{σ σ':Sg}{F br:Bool}{E:Env}{m m' m1:M}{P c:Prop}{ts:List TypeId}{args cs vs:ν}{x:O}{args' ca fi:Array O}{fn:Func}{a:Addr}{R:ν->M->Nat->Prop}{g:Option Nat}{ti:TI}
section
variable{E:Env}{P:Program}{σ:Sg}{m m':M}{w:World}
def bw.T4{v:O}{b:Bool}(h:bw σ v (.bool b)):v=.bool b:=by cases h;rfl
theorem qy{a:Act}
  (hT:∀j want d,o.guard=some (j,want)->(ops[j]?).bind (·.dst)=some d->d<a.tmps.size/\bw σ (jh T d) (a.eval (.tmp d))):
  cd ops T o=Region.wanted o (yielded ops a.tmps):=by unfold cd Region.wanted;cases hg:o.guard with|none=>rfl|some p=>have⟨j,want⟩:=p;dsimp only;unfold yielded;simp only[OZ];cases hd:(ops[j]?).bind (·.dst)with|none=>rfl|some d=>have⟨h1,F⟩:=hT j want d hg hd;have he:a.tmps[d]?=some (a.eval (.tmp d)):=(by simp[Act.eval,h1]);simp only[RM,he];generalize a.eval (.tmp d)=u at F;cases H:jh T d with|bool b=>rw[H]at F;rw[F.bool];simp|_=>rw[H]at F;cases u with|bool b=>have:=F.T4;cases this|_=>simp
def dK(h:fw nt G o):∀d,o.dst=some d->d<nt:=by intro d F;unfold fw at h;simp_all
def fq(h:fw nt G o):∀x∈o.op.operands.toList,vH nt G x:=by intro x F;unfold fw at h;grind
def qN{t:Nat}(h:vH nt G (.tmp t)):t<nt:=by have h:Nat.blt t nt:=h;simp_all
def dA.Ce{a:Act}(h:dA σ T a nt)(H:eW P σ m w){x:Operand}(F:vH nt P.globals.size x):bw σ (ev T x) (a.eval x):=
 CQ H (λt ht=>by subst ht;exact h.2 t (qN F)) F
def dA.wanted{a:Act}(h:dA σ T a nt)(H:∀o∈ops.toList,fw nt P.globals.size o)(o:Oper):cd ops T o=Region.wanted o (yielded ops a.tmps):=by refine qy (σ:=σ) λj want d _ hd=>?_;simp only[W9]at hd;have⟨o',d0,b0⟩:=hd;have F:=dK (H o' J) d b0;exact⟨by rw[h.1];exact F,h.2 d F⟩
theorem yW(hE:E.OK P){call:aF}(cE:cP P call){nt:Nat}{ops:Array Oper}(b0:∀o∈ops.toList,fw nt P.globals.size o){ro:Option Nat}{n:Nat}{Q:Exit->Act->World->Prop}{ds:List Deferred}:
  ∀(l:List Oper),(∀o∈l,fw nt P.globals.size o)->∀(fr F:Fr),Cd E call ops l fr=some F->∀(σ:Sg) (a:Act) (w:World),dA σ fr.T a nt->a.defers=ds->eW P σ fr.m w->(∀σ' a' w',dA σ' F.T a' nt->a'.defers=ds->Ev P σ fr.m w σ' F.m w'->Q .normal a' w')->wpListIn (dH ro) n P ops Q l a w
 |[],_,fr,F,h,σ,a,w,hf,hd,hs,k=>by simp only[Hl,DS]at h;subst h;exact k σ a w hf hd (Ev.refl hs)
 |o::l,hl,fr,F,h,σ,a,w,hf,hd,hs,k=>by rw[nw]at h;have hw:=hf.wanted b0 o;have H:=dK (hl o Mq);have d0:=λo ho=>hl o (DJ _ ho);unfold wpListIn;rw[<-hw];cases e0:cd ops fr.T o with|false=>rw[e0]at h;simp only[I2]at h;rw[ND co];refine⟨λ_ _=>trivial,?_⟩;refine yW hE cE b0 l d0 _ _ h σ (a.put o.dst undef) w (hf.put H bw.undef) ?_ hs k;rw[<-hd];cases o.dst <;>rfl|true=>rw[e0]at h;simp only[gc]at h;rw[UG rfl];cases ho:dJ o.op E call fr.T fr.m with|none=>rw[ho]at h;cases h|some p=>have⟨v,m1⟩:=p;rw[ho]at h;simp only at h;refine⟨λ_ _=>trivial,?_⟩;have g0:=sI hE cE hs ho (a:=a) (λx hx=>hf.Ce hs (fq (hl o Mq) x hx));rw[Oper.semAt_eq _ _ _ (λc hc=>by rw[hc]at ho;simp[dJ]at ho)];refine g0.2 ro n o a _ Q λσ' w' v' hv he=>?_;refine yW hE cE b0 l d0 _ _ h σ' (a.put o.dst v') w' ((hf.mono he.ext).put H hv) ?_ he.rN λh0 a2 w2 i0 j0 k0=>k h0 a2 w2 i0 j0 (he.trans k0);rw[<-hd];cases o.dst <;>rfl
end
section
inductive Reach (ops:Array Oper):Nat->Nat->Prop where
 |one {j:Nat} {o:Oper} {e:Edge} (ho:ops[j]?=some o) (he:e∈o.after) (hb:Region.binds .any e=true):Reach ops e.on j
 |step {i j:Nat} {o:Oper} {e:Edge} (ho:ops[j]?=some o) (he:e∈o.after) (hb:Region.binds .any e=true) (h:Reach ops i e.on):Reach ops i j
theorem wE{acc:Array Nat}{i:Nat}:∀(l:List Edge) (s:Nat),(l.foldl (λs e=>if Region.binds .any e then s |||2 ^ e.on |||acc.getD e.on 0 else s) s).testBit i->
  s.testBit i\/∃e∈l,Region.binds .any e/\(i=e.on\/(acc.getD e.on 0).testBit i)
 |[],s,h=> .inl h
 |e::l,s,h=>by rw[G6]at h;rcases wE l _ h with F|⟨H,F,h2,h3⟩;grind;grind
theorem Aa(ops:Array Oper):∀(l pre:List Oper) (acc:Array Nat),ops.toList=pre++l->acc.size=pre.length->(∀i j,(acc.getD j 0).testBit i->Reach ops i j)->
  ∀i j,((l.foldl (λacc o=>acc.push (o.after.foldl (λs e=>if Region.binds .any e then s |||2 ^ e.on |||acc.getD e.on 0 else s) 0)) acc).getD j 0).testBit i->Reach ops i j
 |[],pre,acc,_,_,h,i,j,H=>h i j H
 |o::l,pre,acc,hp,hs,h,i,j,H=>by rw[G6]at H;refine Aa ops l (pre++ [o]) _ J J ?_ i j H;intro i j F;have ho:ops[pre.length]?=some o:=(by rw[<-OZ,hp,OV (R8 _)];simp);rcases TJ j acc.size with hj|hj|hj;apply h i j;rw[NI,Mt hj]at F;rw[NI];grind;subst hj;rw[NI,Array.getElem?_push_size]at F;simp only[At]at F;rw[<-PE]at F;rcases wE o.after.toList 0 F with h1|⟨e,h1,h2,h3⟩;grind;rw[hs];rcases h3 with rfl|h3;exact .one ho J h2;exact .step ho J h2 (h _ _ h3);grind
def jq(h:((Region.before ops).getD j 0).testBit i):Reach ops i j:=by unfold Region.before at h;rw[<-PE]at h;exact Aa ops ops.toList [] #[] co rfl J i j h
def Dq(ops:Array Oper)(L:Nat->Prop):Prop:=∀j o,ops[j]?=some o->L j->∀e∈o.after,Region.binds .any e=true->L e.on
def Reach.listed(hc:Dq ops L){i j:Nat}(h:Reach ops i j):(∀o,ops[j]?=some o->∀e∈o.after,Region.binds .any e->L e.on)->L i:=by induction h with|one F he H=>exact λh=>h _ F _ he H|step F he H _ ih=>exact λh=>ih λo' b0 e' d0 e0=>hc _ o' b0 (h _ F _ he H) e' d0 e0
def Reach.jm(F:Dq ops L){i j:Nat}(h:Reach ops i j)(H:L j):L i:=h.listed F λo ho e he hb=>F j o ho H e he hb
def Reach.lt(hl:∀j o,ops[j]?=some o->∀e∈o.after,Region.binds .any e->e.on<j){i j:Nat}(h:Reach ops i j):i<j:=by induction h with|one F he H=>exact hl _ _ F _ he H|step F he H _ ih=>exact Nat.lt_trans ih (hl _ _ F _ he H)
structure Bf(ops:Array Oper):Prop where
 lt:∀j o,ops[j]?=some o->∀e∈o.after,Region.binds .any e=true->e.on < j
 apart:∀i j o' o,ops[i]?=some o'->ops[j]?=some o->i < j->Reach ops i j\/((∀d,o.dst=some d->d∉fJ ops o')/\∀d,o'.dst=some d->d∉fJ ops o)
def wY(h:yY ops):Bf ops:=by have key:∀j o,ops[j]?=some o->_:=λj o H=>SB.1 h (o,j) J;simp only[G4]at key;refine⟨λj o H e he hb=>?_,λi j o' o hi hj F=>?_⟩;have:=SB.1 (key j o H).1 e J;simp_all;have:=SB.1 (key j o hj).2 (o',i) J;rw[kN]at this;simp only[F,decide_true,No,NG,QA,G4]at this;rcases this with h1|⟨h1,h2⟩;exact .inl (jq h1);grind
def pG(h:gC ops j):∀i o,ops[i]?=some o->i=j\/fP o.op\/Reach ops i j\/Reach ops j i:=by intro i o H;have:=SB.1 h (o,i) J;simp only[QA,beq_iff_eq]at this;rcases this with((F|F)|F)|F;grind;grind;exact .inr (.inr (.inl (jq F)));exact .inr (.inr (.inr (jq F)))
variable{E:Env}{P:Program}{σ:Sg}{m m':M}{w:World}
def Hd{op:Op}{v:O}(F:fP op)(h:dJ op E call T m=some (v,m')):m'=m:=by cases op <;>simp[fP]at F <;>simp only[dJ]at h;(case move=>cases h;rfl);(case assign=>cases h;rfl);(case pick=>unfold sJ at h;split at h <;>cases h;rfl);(case build=>unfold uj at h;split at h <;>cases h;rfl);(case nilCheck=>unfold iV at h;split at h <;>cases h <;>rfl);(case binOp=>unfold En at h;split at h <;>cases h;rfl);(case unOp=>unfold MY at h;split at h <;>cases h;rfl);(case makeFunc=>unfold jK at h;split at h <;>cases h;rfl);(case fieldAddr=>unfold jR at h;split at h <;>cases h;rfl);(case field=>unfold uh at h;split at h <;>cases h;rfl);(case indexAddr=>unfold jQ at h;split at h <;>cases h;rfl);(case index=>unfold ug at h;split at h <;>cases h;rfl);case extract=>unfold lE at h;grind
theorem BU(hE:E.OK P){call:aF}{T:Tr O}{a:Act}{o:Oper}{v:O}(hp:fP o.op)(h:dJ o.op E call T m=some (v,m'))
  (F:∀x∈o.op.operands.toList,bw σ (ev T x) (a.eval x)):∃v',(execOp a.eval o).run P w=.ok (.value v') w/\bw σ v v':=by have val:∀{s:Sem O} {v':O},s.run P w=.ok v' w->(do let x<-s;pure (Next.value x):Sem Next).run P w=.ok (.value v') w:=(by simp_all);unfold execOp;cases ho:o.op with|move x=>rw[ho]at h F;cases h;exact⟨_,rfl,F x ft⟩|assign x=>rw[ho]at h F;cases h;exact⟨_,rfl,F x ft⟩|pick c x y=>rw[ho]at h F;dsimp only;simp only[dJ,sJ]at h;split at h;rename_i t hc;obtain⟨rfl,rfl⟩:=h;have h1:=F c ft;rw[hc]at h1;rw[h1.bool];refine⟨_,rfl,?_⟩;cases t;exact F y ft;exact F x ft;cases h|build t ps=>rw[ho]at h F;simp only[dJ,uj]at h;split at h;rename_i z H;cases h;obtain⟨v',h1,h2⟩:=zY (w:=w) hE (T:=ev T) (A:=a.eval) (λp hp=>F p.2 (by simp only[Op.operands];exact US hp)) H;grind;cases h|nilCheck x=>rw[ho]at h F;have h1:=F x ft;simp only[dJ,iV]at h;split at h;rename_i ad hx;cases h;rw[hx]at h1;have⟨i,hi,_,he⟩:=h1.fW;simp_all;rename_i g a1 b1 hx;cases h;rw[hx]at h1;have⟨a',b',he,_⟩:=h1.CL;simp_all;cases h|binOp op t x y yt=>rw[ho]at h F;simp only[dJ,En]at h;split at h;rename_i z H;cases h;obtain⟨q1,q2⟩:=EW (w:=w) hE H (F x ft) (F y ft) x y;exact⟨_,val q1,.flat _ q2⟩;cases h|unOp op t x=>rw[ho]at h F;simp only[dJ,MY]at h;split at h;rename_i z H;cases h;obtain⟨q1,q2⟩:=GN (P:=P) (w:=w) H (F x ft);exact⟨_,val q1,.flat _ q2⟩;cases h|makeFunc f x y=>rw[ho]at h F;simp only[dJ,jK]at h;split at h;rename_i g;cases h;have e1:bK σ (x.toList.map (ev T)) (x.toList.map a.eval):=jV _ (λo hx=>F o (by simp[Op.operands];exact .inl J));have e2:bK σ (y.toList.map (ev T)) (y.toList.map a.eval):=jV _ (λo hx=>F o (by simp[Op.operands];exact .inr J));refine⟨_,rfl,?_⟩;refine .func g _ _ _ _ co co (λj u u' p q=>e1.2 j u u' J J) (λj u u' p q=>e2.2 j u u' J J);cases h|fieldAddr s x f=>rw[ho]at h F;simp only[dJ,jR]at h;split at h;rename_i z H;cases h;obtain⟨v',q1,q2⟩:=rH (w:=w) hE H (F x ft);grind;cases h|field t x f=>rw[ho]at h F;simp only[dJ,uh]at h;split at h;rename_i z H;cases h;obtain⟨v',q1,q2⟩:=zV (w:=w) hE H (F x ft);grind;cases h|indexAddr t x y=>rw[ho]at h F;simp only[dJ,jQ]at h;split at h;rename_i z H;cases h;obtain⟨v',q1,q2⟩:=rF (w:=w) hE H (F x ft) (F y ft);grind;cases h|index t x y=>rw[ho]at h F;simp only[dJ,ug]at h;split at h;rename_i z H;cases h;obtain⟨v',q1,q2⟩:=zR (w:=w) hE H (F x ft) (F y ft);grind;cases h|extract x i=>rw[ho]at h F;simp only[dJ,lE]at h;split at h;rename_i vs hx;split at h;rename_i z H;cases h;have h1:=F x ft;rw[hx]at h1;have⟨b0,he,hl⟩:=h1.yz;have⟨u',hu,hr⟩:=hl.get H;refine⟨u',val ?_,hr⟩;rw[he];have:b0[i]?=some u':=J;simp[Instr.extract,this];cases h;cases h|_=>rw[ho]at hp;simp[fP]at hp
def DStep(E:Env)(call:aF)(ops:Array Oper)(fr:Fr)(o:Oper)(j:Nat)(F:Fr):Prop:=
 (cd ops fr.T o=false/\F={fr with T:=put fr.T o.dst undef})\/
 (cd ops fr.T o=true/\∃v m,dJ o.op E call fr.T {fr.m with low:=fr.m.n}=some (v,m)/\(fr.m.n<=m.low\/gC ops j=true\/Dz ops j fr.m fr.T o.op=true)/\
  F={T:=put fr.T o.dst v,m:={m with low:=min fr.m.low m.low}})
theorem CW{call:aF}{ops:Array Oper}:∀(l:List Oper) (j:Nat) (fr F:Fr),qk E call ops l j fr=some F->
  ∃tr:Nat->Fr,tr j=fr/\tr (j+l.length)=F/\∀i o,l[i]?=some o->DStep E call ops (tr (j+i)) o (j+i) (tr (j+i+1))
 |[],j,fr,F,h=>by simp only[EK,DS]at h;subst h;exact⟨λ_=>fr,rfl,rfl,λi o h=>by simp at h⟩
 |o::l,j,fr,F,h=>by
  have key:∀H,DStep E call ops fr o j H->qk E call ops l (j+1) H=some F->
    ∃tr:Nat->Fr,tr j=fr/\tr (j+(o::l).length)=F/\∀i o',(o::l)[i]?=some o'->DStep E call ops (tr (j+i)) o' (j+i) (tr (j+i+1)):=by
   intro H h1 h2;have⟨tr,t1,t2,t3⟩:=CW l (j+1) H F h2;refine⟨λk=>if k=j then fr else tr k,co,?_,?_⟩;·grind
   ·intro i o' hi;cases i with
    |zero=>
     grind
    |succ i=>
     grind
  rw[lK]at h;cases hw:cd ops fr.T o with
  |false=>
   rw[hw]at h;exact key _ (.inl ⟨hw,rfl⟩) h
  |true=>
   rw[hw]at h;simp only[gc]at h;cases ho:dJ o.op E call fr.T {fr.m with low:=fr.m.n}with
   |none=>rw[ho]at h;cases h
   |some p=>
    have⟨v,m⟩:=p;rw[ho]at h;simp only at h;cases hb:(Nat.ble fr.m.n m.low ||(gC ops j ||Dz ops j fr.m fr.T o.op))with
    |false=>rw[hb]at h;simp at h
    |true=>
     rw[hb]at h;simp only[gc]at h;refine key _ (.inr ⟨hw,v,m,ho,?_,rfl⟩) h;simp only[QA]at hb;exact hb.imp Jg id
end
section
def Sg.cut(σ:Sg)(n:Nat):Sg:=λb=>if b < n then σ b else none
def Sg.dz{i:BI}:(σ.cut n) b=some i↔b<n/\σ b=some i:=by unfold Sg.cut;grind
def Sg.Gb{F:Sg}{k:Nat}(h:σ.le F)(hn:n<=k):(σ.cut n).le (F.cut k):=by intro b i H;rw[Sg.dz]at H⊢;exact⟨Z,h b i H.2⟩
def M.kill(m:M)(l:List Nat):M:={m with st:=l.foldl (λt b=>t.set b .dead) m.st}
theorem Lb:∀(l:List Nat) (t:Tr Ob) (b:Nat),((l.foldl (λt b=>t.set b Ob.dead) t).get b).getD .dead=if b∈l then .dead else(t.get b).getD .dead
 |[],t,b=>co
 |x::l,t,b=>by rw[G6,Lb l,Tr.cF];grind
def M.kH(m:M)(l:List Nat)(b:Nat):(m.kill l).get b=if b∈l then .dead else m.get b:=by rw[M.ij,M.ij];show(if b<m.n then((l.foldl (λt b=>t.set b Ob.dead) m.st).get b).getD .dead else .dead)=_;rw[Lb];grind
theorem M.Cx(m:M):m.kill []=m:=rfl
def Ff{m0:M}{c:Call}{v:O}(F:iN m0 T (.call c)=some b)(h:dJ (.call c) E call T m=some (v,m1)):
  ∃f x a,c.callee=.value f/\c.args.toList=[x]/\ev T f=.func (.func Ds) #[] #[]/\ev T x=.pointer (some a)/\vn m0 a=some b/\call (.func Ds) [.pointer (some a)] m=some (v,m1):=by unfold iN at F;dsimp only at F;split at F;rename_i f x hf hx;split at F;(rename_i g first captured a hg H;rw[cond_eq_ite]at F;split at F);rename_i hc;simp only[G4]at hc;have⟨⟨h1,h2⟩,h3⟩:=hc;obtain rfl:=L6 h1;(have e2:first= #[]:=J);have e3:captured= #[]:=J;subst e2;subst e3;refine⟨f,x,a,hf,hx,hg,H,F,?_⟩;simp only[dJ,nV,hf,hg,hx,UM,T5,H]at h;grind;grind;grind;grind
def Mw{P:Program}(cE:cP P call){T:Tr O}{m0 m m1:M}{o:Op}{b:Nat}{v:O}(e0:∀a,vn m0 a=vn m a)(H:iN m0 T o=some b)(h:dJ o E call T m=some (v,m1))(hb:b<m.n):m1.n=m.n/\∀c,c≠b->m1.get c=m.get c:=by cases o with|store t a x=>unfold iN at H;dsimp only at H;split at H;rename_i ad g0;(cases H;simp only[dJ,qK,g0]at h;split at h;rename_i m2 F;(cases h;unfold storeVar at F;split at F;(cases hq:Nat.beq (cells (ev T x)).length _ with|false=>rw[hq]at F;cases F|true=>rw[hq]at F;unfold storeCells at F;split at F;(cases d0:(ad.spot.isNone && Nat.ble (ad.off+(cells (ev T x)).length) _ && (cells (ev T x)).all one)with|false=>rw[d0]at F;cases F|true=>rw[d0]at F;cases F;exact⟨rfl,λc hc=>by rw[M.cF _ _ _ _ hb,ND hc]⟩);grind);grind);cases h);grind|call c=>have⟨f,x,a,_,_,_,_,b0,h0⟩:=Ff H h;rw[e0]at b0;obtain⟨_,rfl,_⟩:=cE.Oe a m v m1 b h0 b0;exact⟨rfl,λc hc=>by rw[M.cF _ _ _ _ hb,ND hc]⟩|_=>cases H
section
variable {E:Env} {P:Program} {call:aF} {ops:Array Oper} {nt:Nat} {tr:Nat->Fr}
structure Ctx(E:Env)(P:Program)(call:aF)(ops:Array Oper)(nt:Nat)(tr:Nat->Fr):Prop where
 hE:E.OK P
 cE:cP P call
 ord:Bf ops
 ok:∀o∈ops.toList,fw nt P.globals.size o=true
 step:∀j o,ops[j]?=some o->DStep E call ops (tr j) o j (tr (j+1))
 ghost:∀j,j<=ops.size->∃σ a w,eW P σ (tr j).m w/\dA σ (tr j).T a nt
theorem eW.low{w:World}(h:eW P σ m w)(x:Nat):eW P σ {m with low:=x} w:=⟨h.vd,h.obj,h.lt,h.inj,h.mI⟩
theorem EC(hE:E.OK P)(cE:cP P call)(b0:∀o∈ops.toList,fw nt P.globals.size o)
  (F:∀j o,ops[j]?=some o->DStep E call ops (tr j) o j (tr (j+1))) {σ:Sg} {a:Act} {w:World} (hs:eW P σ (tr 0).m w) (hf:dA σ (tr 0).T a nt):
  ∀j,j<=ops.size->∃σ a w,eW P σ (tr j).m w/\dA σ (tr j).T a nt
 |0,_=>⟨σ,a,w,hs,hf⟩
 |j+1,hj=>by obtain⟨d0,a1,w1,h1,h2⟩:=EC hE cE b0 F hs hf j Z;have ho:ops[j]?=some ops[j]:=J;have H:=b0 ops[j] co;rcases F j _ ho with⟨_,h⟩|⟨_,v,m,e0,_,h⟩;rw[h];exact⟨d0,a1.put ops[j].dst undef,w1,h1,h2.put (dK H) bw.undef⟩;rw[h];have⟨σ',w',v',hv,he⟩:=(sI hE cE (h1.low (tr j).m.n) e0 (a:=a1) (λx hx=>h2.Ce h1 (fq H x hx))).1;exact⟨σ',a1.put ops[j].dst v',w',he.rN.low _,(h2.mono he.ext).put (dK H) hv⟩
def Wr(E:Env)(call:aF)(ops:Array Oper)(tr:Nat->Fr)(j:Nat):Prop:=
 ∃o v m,ops[j]?=some o/\cd ops (tr j).T o=true/\dJ o.op E call (tr j).T {(tr j).m with low:=(tr j).m.n}=some (v,m)/\¬(tr j).m.n<=m.low
def Ty(E:Env)(call:aF)(ops:Array Oper)(tr:Nat->Fr)(j:Nat):Prop:=Wr E call ops tr j/\gC ops j=true
def Be(E:Env)(call:aF)(ops:Array Oper)(tr:Nat->Fr)(j b:Nat):Prop:=
 Wr E call ops tr j/\gC ops j=false/\∃o,ops[j]?=some o/\iN (tr j).m (tr j).T o.op=some b/\qF ops j b (tr j).T=true
def Ctx.wr(c:Ctx E P call ops nt tr){j:Nat}(h:Wr E call ops tr j):Ty E call ops tr j\/∃b,Be E call ops tr j b:=by cases hb:gC ops j with|true=>exact .inl ⟨h,hb⟩|false=>refine .inr ?_;have⟨o,v,m,ho,hw,b0,hn⟩:=id h;rcases c.step j o ho with⟨h0,_⟩|⟨_,v',m',F,H,_⟩;grind;rw[b0]at F;(cases F;rcases H with H|H|H);grind;grind;unfold Dz at H;split at H;rename_i b d0;exact⟨b,h,hb,o,ho,d0,H⟩;cases H
def Wr.lt(h:Wr E call ops tr j):j<ops.size:=by have⟨o,_,_,F,_⟩:=h;grind
def Be.oy{F:Nat}(h:Be E call ops tr j b)(H:Be E call ops tr j F):F=b:=by have⟨_,_,o,ho,hs,_⟩:=h;have⟨_,_,o',b0,d0,_⟩:=H;grind
def Ctx.Xq(c:Ctx E P call ops nt tr){j b:Nat}(h:Be E call ops tr j b):b<(tr j).m.n:=by
 have⟨⟨o,v,m,ho,hw,b0,hn⟩,_,o',h0,F,_⟩:=h;rw[ho]at h0;cases h0;cases d0:o.op with
 |store t a x=>
  rw[d0]at F b0;unfold iN at F;dsimp only at F;split at F
  ·rename_i ad j0;cases F;simp only[dJ,qK,j0]at b0;split at b0
   ·rename_i m2 H;refine Ng λe0=>?_;have hd:({(tr j).m with low:=(tr j).m.n}:M).get ad.block=.dead:=by rw[M.ij,ND e0]
    unfold storeVar at H;split at H
    ·cases hq:Nat.beq (cells (ev (tr j).T x)).length _ with
     |false=>rw[hq]at H;cases H
     |true=>
      rw[hq]at H;unfold storeCells at H;grind
    ·grind
   ·grind
  ·grind
 |call cc=>rw[d0]at F b0;have⟨f,x,a,_,_,_,_,i0,k0⟩:=Ff F b0;obtain⟨g0,_⟩:=c.cE.Oe a _ v m b k0 i0;refine Ng λe0=>g0 ?_;rw[M.ij,ND e0]
 |_=>rw[d0]at F;cases F
def Ctx.fact(c:Ctx E P call ops nt tr){j:Nat}{o:Oper}(ho:ops[j]?=some o):(tr j).m.n<=(tr (j+1)).m.n/\(tr (j+1)).m.low<=(tr j).m.low/\
  (∀b,b<(tr (j+1)).m.low->b<(tr j).m.n->(tr (j+1)).m.get b=(tr j).m.get b)/\
  (¬Ty E call ops tr j->∀b,b<(tr j).m.n->¬Be E call ops tr j b->(tr (j+1)).m.get b=(tr j).m.get b):=by have k0:j<ops.size:=(N3.1 ho).1;have b0:=c.ok o J;rcases c.step j o ho with⟨_,h⟩|⟨hw,v,m,F,hb,h⟩;grind;obtain⟨l0,a1,w1,h1,h2⟩:=c.ghost j Z;have⟨σ',w',v',hv,he⟩:=(sI c.hE c.cE (h1.low (tr j).m.n) F (a:=a1) (λx hx=>h2.Ce h1 (fq b0 x hx))).1;have hn:=he.Og;have ha:=he.abs;rw[h];refine⟨hn,RQ _ _,λb hb H=>ha b J H,λn0 b H g0=>?_⟩;by_cases h0:(tr j).m.n<=m.low;exact ha b Z H;have hW:Wr E call ops tr j:=⟨o,v,m,ho,hw,F,h0⟩;rcases c.wr hW with hB|⟨b',hP⟩;grind;have i0:=c.Xq hP;have⟨_,_,o',d0,j0,_⟩:=id hP;rw[ho]at d0;cases d0;have e0:=(Mw (m0:=(tr j).m) (m:={(tr j).m with low:=(tr j).m.n}) c.cE (λ_=>rfl) j0 F i0).2 b λe=>g0 (e ▸ hP);exact e0
def Ctx.uE(c:Ctx E P call ops nt tr){j:Nat}{o:Oper}(ho:ops[j]?=some o)(hp:fP o.op):(tr (j+1)).m.n=(tr j).m.n/\¬Wr E call ops tr j:=by constructor;rcases c.step j o ho with⟨_,h⟩|⟨hw,v,m,F,hb,h⟩;rw[h];rw[h,Hd hp F];rintro⟨o',v,m,H,_,F,hn⟩;rw[ho]at H;cases H;rw[Hd hp F]at hn;grind
def Ctx.bar(c:Ctx E P call ops nt tr){j:Nat}(h:Ty E call ops tr j):gC ops j/\j<ops.size:=⟨h.2,h.1.lt⟩
def Dg(h:j<ops.size):∃o,ops[j]?=some o:=⟨ops[j],by simp[h]⟩
theorem Ctx.mono(c:Ctx E P call ops nt tr){i:Nat}:∀k,i<=k->k<=ops.size->(tr i).m.n<=(tr k).m.n/\(tr k).m.low<=(tr i).m.low
 |0,h,_=>by grind
 |k+1,h,hk=>by by_cases F:i=k+1;grind;obtain⟨h1,h2⟩:=c.mono (i:=i) k Z Z;obtain⟨o,H⟩:=Dg (ops:=ops) (show k<ops.size by omega);have⟨h3,h4,_⟩:=c.fact H;omega
theorem Ctx.qn(c:Ctx E P call ops nt tr){i:Nat}:∀k,i<=k->k<=ops.size->(∀b,i<=b->b<k->¬Ty E call ops tr b)->∀x,x<(tr i).m.n->(∀p,i<=p->p<k->¬Be E call ops tr p x)->(tr k).m.get x=(tr i).m.get x
 |0,h,_,_,x,_,_=>by grind
 |k+1,h,hk,H,x,hx,hp=>by by_cases b0:i=k+1;grind;obtain⟨o,ho⟩:=Dg (ops:=ops) (show k<ops.size by omega);have F:=(c.mono k (show i<=k by omega) Z).1;rw[(c.fact ho).2.2.2 (H k (show i<=k by omega) (OO k)) x (Z1 hx F) (hp k Z (OO k))];exact c.qn k Z Z (λb F h2=>H b F Z) x hx (λp F h2=>hp p F Z)
theorem Ctx.abs(c:Ctx E P call ops nt tr):∀k,k<=ops.size->∀x,x<(tr k).m.low->x<(tr 0).m.n->(tr k).m.get x=(tr 0).m.get x
 |0,_,_,_,_=>rfl
 |k+1,hk,x,F,H=>by obtain⟨o,ho⟩:=Dg (ops:=ops) (show k<ops.size by omega);have h1:=(c.mono (i:=0) k Z Z).1;have⟨_,h2,h3,_⟩:=c.fact ho;rw[h3 x F Z];exact c.abs k Z x Z H
def Qj(T:Tr O){dst:Option Tmp}{t:Tmp}(h:dst≠some t)(v:O):jh (put T dst v) t=jh T t:=by cases dst with|none=>rfl|some d=>rw[Df,ND (λe=>h (by rw[e]))]
theorem Ctx.uJ(c:Ctx E P call ops nt tr){i t:Nat}:∀k,i<=k->k<=ops.size->(∀j o,i<=j->j<k->ops[j]?=some o->o.dst≠some t)->jh (tr k).T t=jh (tr i).T t
 |0,h,_,_=>by grind
 |k+1,h,hk,H=>by by_cases b0:i=k+1;grind;obtain⟨o,ho⟩:=Dg (ops:=ops) (show k<ops.size by omega);have F:=H k o Z Z ho;have ih:=c.uJ k Z Z (λj o h1 h2=>H j o h1 Z);rw[<-ih];rcases c.step k o ho with⟨_,h⟩|⟨_,v,m,_,_,h⟩;rw[h];exact Qj _ F _;rw[h];exact Qj _ F _
structure Inv(E:Env)(P:Program)(call:aF)(ops:Array Oper)(nt:Nat)(tr:Nat->Fr)(σ0:Sg)(w0:World)(ds:List Deferred)(L:Nat->Prop)(σ:Sg)(a:Act)(w:World):Prop where
 lt:∀i,L i->i < ops.size
 closed:Dq ops L
 IL:a.tmps.size=nt
 defs:a.defers=ds
 tmp:∀t,t < nt->∃k,k<=ops.size/\bw (σ.cut (tr k).m.n) (jh (tr k).T t) (a.eval (.tmp t))/\(∀i o,L i->ops[i]?=some o->o.dst=some t->i < k)/\(k=0\/∃o,L (k-1)/\ops[k-1]?=some o/\o.dst=some t)
 win:∀k l,k<=ops.size->(∀b,Ty E call ops tr b->(b < k↔L b))->(∀p b,Be E call ops tr p b->(p < k↔L p)\/b∈l)->eW P (σ.cut (tr k).m.n) ((tr k).m.kill l) w
 Oe:∀p b,L p->Be E call ops tr p b->∃i,σ b=some i
 vd:∀b i,σ b=some i->b < (tr 0).m.n\/∃j,L j/\(tr j).m.n<=b/\b < (tr (j+1)).m.n
 base:σ0.le σ
 new:∀b i,σ b=some i->σ0 b=none->(tr 0).m.n<=b/\(w0.heap.size<=i.dL\/∃b0 i0,σ0 b0=some i0/\i0.dL=i.dL/\(tr ops.size).m.low<=b0)
 hle:w0.heap.size<=w.heap.size
 heap:∀B,B < w0.heap.size->(∀b i,σ0 b=some i->i.dL=B->b < (tr ops.size).m.low)->w.heap[B]?=w0.heap[B]?
 os:w.os=w0.os
 tape:w.tape=w0.tape
 output:w.output=w0.output
 mI:∀g,g < P.globals.size->g < (tr 0).m.n/\σ0 g=some ⟨g,none⟩
variable {σ0 σ:Sg} {w0 w:World} {ds:List Deferred} {L:Nat->Prop} {a:Act}
def Inv.names(c:Ctx E P call ops nt tr)(h:Inv E P call ops nt tr σ0 w0 ds L σ a w){j:Nat}{o:Oper}(hj:¬L j)(ho:ops[j]?=some o)(e0:∀e∈o.after,Region.binds .any e->L e.on)
  {t:Nat} (ht:t<nt) (hn:t∈fJ ops o):bw (σ.cut (tr j).m.n) (jh (tr j).T t) (a.eval (.tmp t)):=by have g0:j<ops.size:=(N3.1 ho).1;have⟨k,hk,hv,hw,F⟩:=h.tmp t ht;have H:k<=j:=(by rcases F with rfl|⟨o',hL,b0,hd⟩;omega;refine Ng λhc=>?_;have h0:k-1≠j:=λe=>hj (e ▸ hL);rcases c.ord.apart j (k-1) o o' ho b0 Z with hr|⟨h1,_⟩;exact hj (hr.jm h.closed hL);grind);have hT:jh (tr j).T t=jh (tr k).T t:=c.uJ j H Z λi oi h1 h2 d0 hd=>(by rcases c.ord.apart i j oi o d0 ho h2 with hr|⟨_,h3⟩;have:=hr.listed h.closed J;grind;grind);rw[hT];exact hv.mono (Sg.Gb (λ_ _ x=>x) (c.mono j H Z).1)
def Inv.Hs(c:Ctx E P call ops nt tr)(h:Inv E P call ops nt tr σ0 w0 ds L σ a w){j:Nat}{o:Oper}(hj:¬L j)(ho:ops[j]?=some o){v v':O}(hT:(tr (j+1)).T=put (tr j).T o.dst v)
  {σ':Sg} (hle:σ.le σ') (hv:bw (σ'.cut (tr (j+1)).m.n) v v'):∀t,t<nt->∃k,k<=ops.size/\bw (σ'.cut (tr k).m.n) (jh (tr k).T t) ((a.put o.dst v').eval (.tmp t))/\
   (∀i F,(i=j\/L i)->ops[i]?=some F->F.dst=some t->i<k)/\(k=0\/∃F,(k-1=j\/L (k-1))/\ops[k-1]?=some F/\F.dst=some t):=by intro t ht;have e0:j<ops.size:=(N3.1 ho).1;by_cases hd:o.dst=some t;refine⟨j+1,Z,?_,?_,.inr ⟨o,.inl rfl,ho,hd⟩⟩;rw[hT,hd,Df,UG rfl];have:(a.put (some t) v').eval (.tmp t)=v':=(by simp[Act.put,Act.eval,h.IL,ht]);grind;rintro i F (rfl|hL) b0 d0;omega;refine Ng λhc=>?_;rcases c.ord.apart j i o F ho b0 Z with hr|⟨h1,_⟩;exact hj (hr.jm h.closed hL);exact h1 t d0 (by unfold fJ;rw[hd];simp);have⟨k,hk,hv,hw,H⟩:=h.tmp t ht;refine⟨k,hk,?_,?_,H.imp id (λ⟨F,x,y,z⟩=>⟨F,.inr x,y,z⟩)⟩;rw[Act.eval_put J];exact hv.mono (Sg.Gb hle (R8 _));grind
end
end
section
variable{E:Env}{P:Program}{call:aF}{ops:Array Oper}{nt:Nat}{tr:Nat->Fr}{σ0 σ:Sg}{w0 w:World}{ds:List Deferred}{L:Nat->Prop}{a:Act}
def put_defers(a:Act)(dst:Option Tmp)(v:O):(a.put dst v).defers=a.defers:=by cases dst <;>rfl
def wN(a:Act)(dst:Option Tmp)(v:O):(a.put dst v).tmps.size=a.tmps.size:=by cases dst <;>simp[Act.put]
def Inv.zX(h:Inv E P call ops nt tr σ0 w0 ds L σ a w){j:Nat}{o:Oper}(ho:ops[j]?=some o)(H:∀e∈o.after,Region.binds .any e->L e.on):Dq ops (λi=>i=j\/L i):=by rintro i o' F (rfl|hL) e he hb;grind;exact .inr (h.closed i o' F hL e he hb)
theorem Inv.same(c:Ctx E P call ops nt tr)(h:Inv E P call ops nt tr σ0 w0 ds L σ a w){j:Nat}{o:Oper}(hj:¬L j)(ho:ops[j]?=some o)(d0:∀e∈o.after,Region.binds .any e->L e.on)
  {v v':O} (hT:(tr (j+1)).T=put (tr j).T o.dst v) (F:¬Wr E call ops tr j) (hv:bw (σ.cut (tr (j+1)).m.n) v v'):
  Inv E P call ops nt tr σ0 w0 ds (λi=>i=j\/L i) σ (a.put o.dst v') w where
 lt:=by
  rintro i (rfl|hL);·grind
  ·exact h.lt i hL
 closed:=h.zX ho d0
 IL:=by rw[wN];exact h.IL
 defs:=by rw[put_defers];exact h.defs
 tmp:=h.Hs c hj ho hT (λ_ _ x=>x) hv
 win:=λk l hk hw hp=>h.win k l hk (λb H=>(hw b H).trans ⟨λx=>x.resolve_left (λe=>F (e ▸ H.1)),.inr⟩) (λp b b0=>(hp p b b0).imp (λx=>x.trans ⟨λx=>x.resolve_left (λe=>F (e ▸ b0.1)),.inr⟩) id)
 Oe:=by
  rintro p b (rfl|hL) hp;·exact absurd hp.1 F
  ·exact h.Oe p b hL hp
 vd:=λb i F=>(h.vd b i F).imp id λ⟨q,x,y⟩=>⟨q,.inr x,y⟩
 base:=h.base
 new:=h.new
 hle:=h.hle
 heap:=h.heap
 os:=h.os
 tape:=h.tape
 output:=h.output
 mI:=h.mI
def Inv.Ou(c:Ctx E P call ops nt tr)(h:Inv E P call ops nt tr σ0 w0 ds L σ a w){j:Nat}{o:Oper}(hj:¬L j)(ho:ops[j]?=some o)(b0:∀e∈o.after,Region.binds .any e->L e.on)
  (hp:fP o.op=false):∀b,Ty E call ops tr b->(b<j↔L b):=by intro b hb;have H:=(c.bar hb).1;rcases pG H j o ho with rfl|F|F|F;grind;grind;have:=F.lt c.ord.lt;exact⟨λx=>Z,λx=>absurd (F.jm h.closed x) hj⟩;exact⟨λ_=>F.listed h.closed J,λ_=>F.lt c.ord.lt⟩
def yR{ops:Array Oper}(h:qF ops p b T)(ho:ops[i]?=some o)(hp:fP o.op=false):
  i=p\/Reach ops i p\/Reach ops p i\/(i<p/\((∃t,o.op=.alloc t)\/(∃t x,o.op=.box t x)\/(∃t s,o.op=.load t (.tmp s)/\(∀k q,i<=k->k<p->ops[k]?=some q->q.dst≠some s)/\
   (∀g w d,o.guard=some (g,w)->(ops[g]?).bind (·.dst)=some d->∀k q,i<=k->k<p->ops[k]?=some q->q.dst≠some d)/\(cd ops T o=false\/∃ad,jh T s=.pointer (some ad)/\ad.block≠b))\/
   qO o.op\/∃s,lenOf o.op=some s/\(∀k q,i<=k->k<p->ops[k]?=some q->q.dst≠some s)/\∀r,jh T s≠.map r)):=by unfold qF at h;have h:=SB.1 h (o,i) J;have same:∀t,(ops.toList.zipIdx.all λ(q,k)=> !(Nat.ble i k && Nat.blt k p && q.dst==some t))->∀k q,i<=k->k<p->ops[k]?=some q->q.dst≠some t:=(by intro t F k q H h2 hq e;have F:=SB.1 F (q,k) J;dsimp only at F;rw[kN]at F;simp[S0 H,h2,e]at F);dsimp only at h;simp only[QA,beq_iff_eq,G4,hp]at h;rcases h with(((h|h)|h)|h)|⟨H,h2⟩;grind;cases h;exact .inr (.inl (jq h));exact .inr (.inr (.inl (jq h)));rw[kN]at H;grind
def Be.ok(h:Be E call ops tr p b):qF ops p b (tr p).T:=by have⟨_,_,_,_,_,F⟩:=h;exact F
def Wr.op(c:Ctx E P call ops nt tr)(h:Wr E call ops tr j):∃o,ops[j]?=some o/\fP o.op=false:=by have⟨o,v,m,F,hw,H,hn⟩:=id h;refine⟨o,F,?_⟩;cases hp:fP o.op with|false=>rfl|true=>exact absurd h (c.uE F hp).2
theorem Inv.TK(c:Ctx E P call ops nt tr)(h:Inv E P call ops nt tr σ0 w0 ds L σ a w){j:Nat}{o:Oper}(hj:¬L j)(ho:ops[j]?=some o)(i0:∀e∈o.after,Region.binds .any e->L e.on)
  (hp:fP o.op=false):∃l:List Nat,(∀p b,Be E call ops tr p b->(p<j↔L p)\/b∈l)/\∀b∈l,∃p,L p/\Be E call ops tr p b/\j<p/\qF ops p b (tr p).T/\¬Reach ops j p/\¬Reach ops p j:=by have key:∀n,∃l:List Nat,(∀p b,p<n->Be E call ops tr p b->(p<j↔L p)\/b∈l)/\∀b∈l,∃p,L p/\Be E call ops tr p b/\j<p/\qF ops p b (tr p).T/\¬Reach ops j p/\¬Reach ops p j:=(by intro n;induction n with|zero=>exact⟨[],λp b d0=>Z,λb hb=>by cases hb⟩|succ n ih=>have⟨l,h1,h2⟩:=ih;by_cases hx:∃b,Be E call ops tr n b/\¬(n<j↔L n);have⟨b,hb,b0⟩:=hx;refine⟨b::l,λp b' d0 F=>?_,λb' F=>?_⟩;by_cases e0:p=n;subst e0;rw[hb.oy F];grind;grind;rcases VM.1 F with rfl|F;have g0:qF ops n b' (tr n).T:=(by have⟨_,_,_,_,_,hk⟩:=id hb;exact hk);rcases yR g0 ho hp with rfl|H|H|⟨h0,_⟩;grind;exfalso;have:=H.lt c.ord.lt;exact b0 ⟨λx=>Z,λx=>absurd (H.jm h.closed x) hj⟩;exfalso;have:=H.lt c.ord.lt;exact b0 ⟨λ_=>H.listed h.closed J,λ_=>this⟩;have hL:L n:=Ng λhc=>b0 ⟨λx=>Z,λx=>absurd x hc⟩;refine⟨n,hL,hb,h0,g0,λH=>hj (H.jm h.closed hL),λH=>?_⟩;have:=H.lt c.ord.lt;omega;grind;refine⟨l,λp b' d0 F=>?_,h2⟩;grind);have⟨l,h1,h2⟩:=key ops.size;exact⟨l,λp b hb=>h1 p b hb.1.lt hb,h2⟩
theorem Inv.effect(c:Ctx E P call ops nt tr)(h:Inv E P call ops nt tr σ0 w0 ds L σ a w){j:Nat}{o:Oper}(hj:¬L j)(ho:ops[j]?=some o)(l1:∀e∈o.after,Region.binds .any e->L e.on)
  (hp:fP o.op=false) {v v':O} {m mk:M} {lk:List Nat} {τ:Sg} {w':World} (a2:mk.n=m.n) (A2:mk.low=m.low) (o1:∀b,b∉lk\/(tr j).m.n<=b->mk.get b=m.get b)
  (b2:∀p b,Be E call ops tr p b->(p<j↔L p)\/b∈lk)
  (d0:Ev P (σ.cut (tr j).m.n) {(tr j).m.kill lk with low:=(tr j).m.n} w τ mk w') (hv:bw τ v v')
  (d1:tr (j+1)={T:=put (tr j).T o.dst v,m:={m with low:=min (tr j).m.low m.low}}) (hq:((tr j).m.n<=m.low/\¬Wr E call ops tr j)\/(Wr E call ops tr j/\lk=[]))
  (p1:∀b,Be E call ops tr j b->(tr j).m.get b≠.dead/\∃i,σ b=some i/\∀B,B≠i.dL->w'.heap[B]?=w.heap[B]?):
  ∃σ',Inv E P call ops nt tr σ0 w0 ds (λi=>i=j\/L i) σ' (a.put o.dst v') w':=by
 have B2:j<ops.size:=(N3.1 ho).1;have G2:(tr (j+1)).m.n=m.n:=(by rw[d1]);have r1:∀b,(tr (j+1)).m.get b=m.get b:=(by intro b;rw[d1];rfl);have c2:(tr (j+1)).m.low<=m.low:=J;have hN:=(c.mono (i:=j+1) ops.size Z (R8 _)).2;have w2:(tr j).m.n<=m.n:=(by have:=d0.Og;rw[a2]at this;exact this);have d2:∀b i,σ b=some i->¬((tr j).m.n<=b/\b<m.n):=(by rintro b i F ⟨h1,h2⟩;rcases h.vd b i F with h3|⟨q,O0,h3,h4⟩;have:=(c.mono (i:=0) j Z Z).1;omega;have u1:=h.lt q O0;rcases TJ q j with e2|rfl|e2;have:=(c.mono (i:=q+1) j Z Z).1;omega;grind;have:=(c.mono (i:=j+1) q Z Z).1;omega);have L2:∀b i,τ b=some i->b<(tr j).m.n->σ b=some i:=(by intro b i F g2;cases hs:(σ.cut (tr j).m.n) b with|some i'=>have:=d0.ext b i' hs;rw[F]at this;cases this;exact(Sg.dz.1 hs).2|none=>have h0:=(d0.new b i F hs).1;have h0:(tr j).m.n<=b:=h0;omega);have v1:∀b i,τ b=some i->b<m.n:=λb i F=>(by have:=d0.rN.vd b i F;omega);let σ':Sg:=λb=>if(tr j).m.n<=b/\b<m.n then τ b else σ b;have hle:σ.le σ':=(by intro b i F;grind);have p0:∀k,m.n<=k->τ.le (σ'.cut k):=(by intro k hk b i F;have g2:=v1 b i F;rw[Sg.dz];grind);have s0:∀b i,σ' b=some i->(((tr j).m.n<=b/\b<m.n)/\τ b=some i)\/(¬((tr j).m.n<=b/\b<m.n)/\σ b=some i):=(by grind);have i2:=h.Ou c hj ho l1 hp;have hs:=d0.rN;refine⟨σ',?_⟩;constructor;rintro i (rfl|hL);grind;exact h.lt i hL;exact h.zX ho l1;rw[wN];exact h.IL;rw[put_defers];exact h.defs;exact h.Hs c hj ho (by rw[d1]) hle (hv.mono J);intro k l hk hw w1;by_cases A0:Wr E call ops tr j;obtain rfl:lk=[]:=(hq.resolve_left λx=>x.2 A0).2;have y1:∀b,mk.get b=m.get b:=λb=>o1 b (.inl co);have j2:∀p b,Be E call ops tr p b->(p<j↔L p):=λp b F=>(b2 p b F).resolve_right co;have c1:∀b i,σ b=some i->b<(tr j).m.n:=(by intro b i F;rcases h.vd b i F with h3|⟨q,O0,h3,h4⟩;have:=(c.mono (i:=0) j Z Z).1;omega;have u1:=h.lt q O0;have⟨oq,e1⟩:=Dg (ops:=ops) u1;have before:Reach ops q j->b<(tr j).m.n:=λh5=>(by have:=h5.lt c.ord.lt;have:=(c.mono (i:=q+1) j Z Z).1;omega);cases A1:fP oq.op with|true=>have:=(c.uE e1 A1).1;omega|false=>rcases c.wr A0 with B1|⟨b0,u0⟩;rcases pG B1.2 q oq e1 with rfl|h5|h5|h5;grind;grind;grind;exact absurd (h5.jm h.closed O0) hj;rcases yR (Be.ok u0) e1 A1 with rfl|h5|h5|⟨h5,_⟩;grind;grind;exact absurd (h5.jm h.closed O0) hj;have:=(c.mono (i:=q+1) j Z Z).1;omega);by_cases l0:j<k;have G1:∀b,j+1<=b->b<k->¬Ty E call ops tr b:=(by grind);have H1:∀p x,j+1<=p->p<k->Be E call ops tr p x->x∈l:=(by grind);have K1:=(c.mono (i:=j+1) k Z hk).1;have heq:∀b i,(σ'.cut (tr k).m.n) b=some i->τ b=some i:=(by intro b i F;rw[Sg.dz]at F;rcases s0 b i F.2 with⟨_,h1⟩|⟨_,h1⟩;exact h1;exact d0.ext b i (Sg.dz.2 ⟨c1 b i h1,h1⟩));have q0:∀b i,τ b=some i->b∉l->(tr k).m.get b=mk.get b:=(by intro b i F H;rw[c.qn k (show j+1<=k by omega) hk G1 b J (λp h1 h2 h3=>H (H1 p b h1 h2 h3)),r1,y1]);refine⟨λb i F=>(Sg.dz.1 F).1,λb i F=>?_,λb i F=>hs.lt b i (heq b i F),λb b' i i' F g0 hd e0=>?_,λg hg=>p0 _ Z g _ (hs.mI g hg)⟩;rw[M.kH];by_cases H:b∈l;rw[UG H];trivial;rw[ND H,q0 b i (heq b i F) H]
 exact(hs.obj b i (heq b i F)).aX (p0 _ Z) rfl;rw[M.kH]at hd e0;by_cases H:b∈l;grind;by_cases n0:b'∈l;grind;rw[ND H,q0 b i (heq b i F) H]at hd;rw[ND n0,q0 b' i' (heq b' i' g0) n0]at e0;exact hs.inj b b' i i' (heq b i F) (heq b' i' g0) hd e0;have P0:¬Ty E call ops tr j:=λF=>l0 ((hw j F).2 (.inl rfl));obtain⟨b0,u0⟩:=(c.wr A0).resolve_left P0;have y2:b0∈l:=(w1 j b0 u0).resolve_left λx=>l0 (x.2 (.inl rfl));have⟨k2,i0,L1,l2⟩:=p1 b0 u0;have g1:∀b,Ty E call ops tr b->(b<k↔L b):=λb F=>(hw b F).trans ⟨λx=>x.resolve_left (λe=>P0 (e ▸ F)),.inr⟩;have a1:∀p b,Be E call ops tr p b->(p<k↔L p)\/b∈l:=(by grind);have hA:=h.win k l hk g1 a1;have hJ:=h.win j [] Z i2 (λp b F=> .inl (j2 p b F));have K1:=(c.mono (i:=k) j Z Z).1;have O1:∀b,b<(tr k).m.n->b∉l->(tr j).m.get b=(tr k).m.get b:=(by intro b F H;refine c.qn j Z Z (λq h1 h2 h3=>?_) b F (λp h1 h2 h3=>H ?_);grind;grind);have o0:(σ.cut (tr k).m.n).le (σ'.cut (tr k).m.n):=Sg.Gb hle (R8 _);have j0:∀b i,(σ'.cut (tr k).m.n) b=some i->(σ.cut (tr k).m.n) b=some i:=(by intro b i F;rw[Sg.dz]at F⊢;grind);have o2:∀b i,(σ.cut (tr k).m.n) b=some i->b∉l->(tr k).m.get b≠.dead->i.dL≠i0.dL:=(by intro b i F H hd he;have Q1:=Sg.dz.1 F;have u2:b<(tr j).m.n:=Z;have:=hJ.inj b b0 i i0 (Sg.dz.2 ⟨u2,Q1.2⟩) (Sg.dz.2 ⟨c1 b0 i0 L1,L1⟩) (by rw[M.Cx,O1 b Q1.1 H];exact hd) (by rw[M.Cx];exact k2) he;grind);refine⟨λb i F=>(Sg.dz.1 F).1,λb i F=>?_,λb i F=>?_,λb b' i i' F g0 hd e0 he=>hA.inj b b' i i' (j0 b i F) (j0 b' i' g0) hd e0 he,λg hg=>o0 g _ (hA.mI g hg)⟩;have g0:=j0 b i F;have j1:=hA.obj b i g0;rw[M.kH]at j1⊢;by_cases H:b∈l;rw[UG H];trivial;rw[ND H]at j1⊢;by_cases hd:(tr k).m.get b=.dead;rw[hd];trivial;exact j1.aX o0 (l2 _ (o2 b i g0 H hd));have:=hA.lt b i (j0 b i F);have:=d0.hle;omega;have M2:(tr j).m.n<=m.low:=(hq.resolve_right (λx=>A0 x.1)).1;have g1:∀b,Ty E call ops tr b->(b<k↔L b):=λb F=>(hw b F).trans ⟨λx=>x.resolve_left (λe=>A0 (e ▸ F.1)),.inr⟩;have a1:∀p b,Be E call ops tr p b->(p<k↔L p)\/b∈l:=λp b F=>(w1 p b F).imp (λx=>x.trans ⟨λy=>y.resolve_left (λe=>A0 (e ▸ F.1)),.inr⟩) id;have hA:=h.win k l hk g1 a1;have k1:∀B,B<w.heap.size->w'.heap[B]?=w.heap[B]?:=λB hB=>d0.heap B hB λb i F _=>(by have:=(Sg.dz.1 F).1;omega);have o0:(σ.cut (tr k).m.n).le (σ'.cut (tr k).m.n):=Sg.Gb hle (R8 _);have k0:∀b i,(σ'.cut (tr k).m.n) b=some i->(((tr j).m.n<=b/\b<m.n)/\τ b=some i/\j<k)\/(σ.cut (tr k).m.n) b=some i:=(by intro b i F;rw[Sg.dz]at F;rcases s0 b i F.2 with⟨h1,h2⟩|⟨_,h2⟩;refine .inl ⟨h1,h2,?_⟩;refine Ng λhc=>?_;have:=(c.mono (i:=k) j Z Z).1;omega;exact .inr (Sg.dz.2 ⟨F.1,h2⟩));have q0:j<k->∀b,(tr j).m.n<=b->b<m.n->b∉l->(tr k).m.get b=mk.get b:=(by intro l0 b v2 F H;rw[c.qn k (show j+1<=k by omega) hk (λb h1 h2 h3=>by grind) b J (λp h1 h2 h3=>by rcases a1 p b h3 with h4|h4;have⟨i,hi⟩:=h.Oe p b (h4.1 h2) h3;grind;grind),r1,o1 b (.inr v2)])
 have y0:∀b i,(tr j).m.n<=b->τ b=some i->w.heap.size<=i.dL:=(by intro b i h1 h2;have r0:(σ.cut (tr j).m.n) b=none:=(by cases hx:(σ.cut (tr j).m.n) b with|none=>rfl|some i'=>have:=(Sg.dz.1 hx).1;omega);rcases(d0.new b i h2 r0).2 with h3|⟨b0,i0,h3,_,h5⟩;exact h3;have:=(Sg.dz.1 h3).1;omega);refine⟨λb i F=>(Sg.dz.1 F).1,λb i F=>?_,λb i F=>?_,λb b' i i' F g0 hd e0 he=>?_,λg hg=>o0 g _ (hA.mI g hg)⟩;rcases k0 b i F with⟨h1,h2,l0⟩|h1;rw[M.kH];by_cases H:b∈l;rw[UG H];trivial;rw[ND H,q0 l0 b h1.1 h1.2 H];have K1:=(c.mono (i:=j+1) k Z hk).1;exact(hs.obj b i h2).aX (p0 _ Z) rfl;exact(hA.obj b i h1).aX o0 (k1 _ (hA.lt b i h1));rcases k0 b i F with⟨_,h2,_⟩|h1;exact hs.lt b i h2;have:=hA.lt b i h1;grind;rcases k0 b i F with⟨h1,h2,l0⟩|h1 <;>rcases k0 b' i' g0 with⟨B0,T1,z2⟩|B0;rw[M.kH]at hd e0;by_cases H:b∈l;grind;by_cases n0:b'∈l;grind;rw[ND H,q0 l0 b h1.1 h1.2 H]at hd;rw[ND n0,q0 l0 b' B0.1 B0.2 n0]at e0;exact hs.inj b b' i i' h2 T1 hd e0 he;have:=y0 b i h1.1 h2;have:=hA.lt b' i' B0;omega;have:=y0 b' i' B0.1 T1;have:=hA.lt b i h1;omega;exact hA.inj b b' i i' h1 B0 hd e0 he;rintro p b (rfl|hL) F;grind;have⟨i,hi⟩:=h.Oe p b hL F;grind;intro b i F;rcases s0 b i F with⟨h1,_⟩|⟨_,h1⟩;grind;exact(h.vd b i h1).imp id λ⟨q,x,y⟩=>⟨q,.inr x,y⟩;exact λb i F=>hle b i (h.base b i F);intro b i F h0;rcases s0 b i F with⟨h1,h2⟩|⟨_,h2⟩;have r0:(σ.cut (tr j).m.n) b=none:=(by cases hx:(σ.cut (tr j).m.n) b with|none=>rfl|some i'=>have:=(Sg.dz.1 hx).1;omega);have O2:=(c.mono (i:=0) j Z Z).1;refine⟨Z,?_⟩;have hh:=h.hle;rcases(d0.new b i h2 r0).2 with h3|⟨b0,i0,h3,h4,h5⟩;grind;have h3:=(Sg.dz.1 h3).2;(cases Q0:σ0 b0 with|some i1=>have:=h.base b0 i1 Q0;grind|none=>rcases(h.new b0 i0 h3 Q0).2 with h6|⟨b1,i1,h6,h7,h8⟩;grind;grind);exact h.new b i h2 h0;have:=h.hle;have:=d0.hle;omega;intro B hB hc;have hh:=h.hle;rw[<-h.heap B hB hc];refine d0.heap B Z λb i F he=>?_;have F:=(Sg.dz.1 F).2;(cases Q0:σ0 b with|some i1=>have:=h.base b i1 Q0;grind|none=>rcases(h.new b i F Q0).2 with h6|⟨b1,i1,h6,h7,h8⟩;omega;grind);exact d0.os.trans h.os;exact d0.tape.trans h.tape;exact d0.output.trans h.output;exact h.mI
end
section
def Sg.Gc(h:∀b i,σ b=some i->b<n):σ.cut n=σ:=by funext b;unfold Sg.cut;by_cases F:b<n;grind;rw[ND F];cases H:σ b with|none=>rfl|some i=>exact absurd (h b i H) F
def Iy(l:Array Bool):Nat->Nat
 |0=>0
 |k+1=>Iy l k+(if l.getD k false=true then 0 else 1)
theorem Bt{l:Array Bool}:∀{k:Nat},Iy l k=0->∀i,i<k->l.getD i false=true
 |k+1,h,i,hi=>by unfold Iy at h;by_cases H:l.getD k false=true;by_cases F:i=k;grind;exact Bt (k:=k) Z i Z;grind
def xO(l:Array Bool){j:Nat}(F:j<l.size)(i:Nat):(l.setIfInBounds j true).getD i false↔i=j\/l.getD i false:=by rw[NI,NI,Uh];grind
theorem E4{l:Array Bool}{j:Nat}(F:j<l.size)(H:¬l.getD j false=true):∀k,Iy (l.setIfInBounds j true) k+(if j<k then 1 else 0)=Iy l k
 |0=>by simp[Iy]
 |k+1=>by have ih:=E4 F H k;have hs:=xO l F k;unfold Iy;grind
def HF{F:Addr}(h:m'.get F.block=m.get F.block):loadVar E m' t F=loadVar E m t F:=by unfold loadVar D.loadCells D.cellAt;rw[h]
def QZ{b:Builtin}{v:O}(H:b=.min\/b=.max)(h:aR E m b ts args=some (v,m1)):m1=m/\∀m2,aR E m2 b ts args=some (v,m2):=by rcases H with rfl|rfl;have h:(eo (λx y=>if y<x then y else x) args).map (·,m)=some (v,m1):=h;(cases F:eo (λx y=>if y<x then y else x) args with|none=>rw[F]at h;cases h|some w=>rw[F]at h;cases h;exact⟨rfl,λm2=>by show(eo (λx y=>if y<x then y else x) args).map (·,m2)=_;rw[F];rfl⟩);have h:(eo (λx y=>if y >x then y else x) args).map (·,m)=some (v,m1):=h;cases F:eo (λx y=>if y >x then y else x) args with|none=>rw[F]at h;cases h|some w=>rw[F]at h;cases h;exact⟨rfl,λm2=>by show(eo (λx y=>if y >x then y else x) args).map (·,m2)=_;rw[F];rfl⟩
def Re{v:O}(H:∀r,x≠.map r)(h:aR E m .len ts [x]=some (v,m1)):m1=m/\∀m2,aR E m2 .len ts [x]=some (v,m2):=by match ts,h with|[],h=>cases h|t::_::_,h=>cases h|[t],h=>have h:(qS E m t x).map (·,m)=some (v,m1):=h;have e:∀m2,qS E m2 t x=qS E m t x:=(by intro m2;unfold qS;cases E.ty.get t with|none=>rfl|some ti=>grind);cases F:qS E m t x with|none=>rw[F]at h;cases h|some w=>rw[F]at h;cases h;exact⟨rfl,λm2=>by show(qS E m2 t x).map (·,m2)=_;rw[e,F];rfl⟩
def aey{o:Op}{v:O}{lk:List Nat}{x:Nat}(h:dJ o E call T {m with low:=x}=some (v,m1))
  (hk:∀b∈lk,(∃t,o=.alloc t)\/(∃t y,o=.box t y)\/(∃t s ad,o=.load t (.tmp s)/\jh T s=.pointer (some ad)/\ad.block≠b)\/qO o\/∃s,lenOf o=some s/\∀r,jh T s≠.map r):
  ∃mk,dJ o E call T {m.kill lk with low:=x}=some (v,mk)/\mk.n=m1.n/\mk.low=m1.low/\∀b,b∉lk\/m.n<=b->mk.get b=m1.get b:=by cases lk with|nil=>exact⟨m1,h,rfl,rfl,λ_ _=>rfl⟩|cons b0 r=>have H:∀(o:Ob) b,b∉b0::r\/m.n<=b->(({m.kill (b0::r)with low:=x}:M).push o).get b=(({m with low:=x}:M).push o).get b:=(by intro o b hb;rw[M.kG,M.kG];show(if b=m.n then o else(m.kill (b0::r)).get b)=if b=m.n then o else m.get b;rw[M.kH];by_cases h1:b=m.n;grind;rw[ND h1,ND h1];rcases hb with hb|hb;grind;have:m.get b=.dead:=(by rw[M.ij,ND Z]);grind);have d0:∀b,b∉b0::r\/m.n<=b->({m.kill (b0::r)with low:=x}:M).get b=({m with low:=x}:M).get b:=(by intro b hb;show(m.kill (b0::r)).get b=m.get b;rw[M.kH];rcases hb with hb|hb;grind;have:m.get b=.dead:=(by rw[M.ij,ND Z]);grind);rcases hk b0 Mq with⟨t,rfl⟩|⟨t,y,rfl⟩|⟨t,s,ad,rfl,hs,_⟩|e0|⟨s,F,g0⟩;simp only[dJ,wW]at h⊢;(cases hz:gX E t with|none=>rw[hz]at h;cases h|some z=>rw[hz]at h;cases h;exact⟨_,rfl,rfl,rfl,H _⟩);simp only[dJ,QF]at h⊢;cases h;exact⟨_,rfl,rfl,rfl,H _⟩;have hn:ad.block∉b0::r:=(by intro hm;rcases hk _ hm with⟨t',h'⟩|⟨t',y,h'⟩|⟨t',s',j0,h',k0,l0⟩|h'|⟨_,h',_⟩;cases h';cases h';grind;cases h';cases h');have h0:ev T (.tmp s)=.pointer (some ad):=hs;simp only[dJ,vF,h0]at h⊢;have hl:loadVar E {m.kill (b0::r)with low:=x} t ad=loadVar E {m with low:=x} t ad:=HF (by grind);rw[hl];(cases hz:loadVar E {m with low:=x} t ad with|none=>rw[hz]at h;cases h|some z=>rw[hz]at h;cases h;refine⟨_,rfl,rfl,rfl,λb hb=>?_⟩;grind);obtain⟨c,rfl⟩:∃c,o=.call c:=(by cases o <;>first|exact⟨_,rfl⟩|cases e0);have hb:c.callee=.builtin .min\/c.callee=.builtin .max:=(by unfold qO at e0;grind);obtain⟨bb,i0,hc⟩:∃bb,(bb=.min\/bb=.max)/\c.callee=.builtin bb:=(by grind);simp only[dJ,nV,hc]at h⊢;obtain⟨rfl,hw⟩:=QZ i0 h;exact⟨_,hw _,rfl,rfl,d0⟩;obtain⟨c,rfl⟩:∃c,o=.call c:=(by cases o <;>first|exact⟨_,rfl⟩|cases F);unfold lenOf at F;dsimp only at F;split at F;rename_i hc;split at F;rename_i t ha;cases F;simp only[dJ,nV,hc,ha]at h⊢;obtain⟨rfl,hw⟩:=Re (x:=jh T s) g0 h;exact⟨_,hw _,rfl,rfl,d0⟩;grind;grind
def E3{F:Tr O}(h:∀g w d,o.guard=some (g,w)->(ops[g]?).bind (·.dst)=some d->jh F d=jh T d):cd ops F o=cd ops T o:=by unfold cd;cases H:o.guard with|none=>rfl|some p=>have⟨g,w⟩:=p;simp only[OZ];cases hd:(ops[g]?).bind (·.dst)with|none=>rfl|some d=>dsimp only;rw[h g w d H hd]
def adA{F:Addr}{v:O}(h:storeVar E m t F v=some m'):m.get F.block≠.dead:=by unfold storeVar at h;split at h;(cases H:Nat.beq (cells v).length _ with|false=>rw[H]at h;cases h|true=>rw[H]at h;unfold D.storeCells at h;grind);cases h
variable{E:Env}{P:Program}{call:aF}{ops:Array Oper}{nt:Nat}{tr:Nat->Fr}{σ0 σ:Sg}{w0 w:World}{ds:List Deferred}{L:Nat->Prop}{a:Act}{ro:Option Nat}{n:Nat}{Q:Exit->Act->World->Prop}
theorem Inv.step(c:Ctx E P call ops nt tr)(h:Inv E P call ops nt tr σ0 w0 ds L σ a w){j:Nat}{o:Oper}(hj:¬L j)(ho:ops[j]?=some o)(g0:∀e∈o.after,Region.binds .any e->L e.on)
  {K:Act->World->Prop} (hK:∀σ' a' w',Inv E P call ops nt tr σ0 w0 ds (λi=>i=j\/L i) σ' a' w'->K a' w'):wpOpIn (dH ro) n P ops Q j K a w:=by
 have O1:j<ops.size:=(N3.1 ho).1;have A0:=c.ok o J;have d0:∀t,t<nt->t∈fJ ops o->bw (σ.cut (tr j).m.n) (jh (tr j).T t) (a.eval (.tmp t)):=λt ht hn=>h.names c hj ho g0 ht hn;have hw:cd ops (tr j).T o=Region.wanted o (yielded ops a.tmps):=(by refine qy (σ:=σ.cut (tr j).m.n) λq want d hg hd=>?_;have Q1:=hd;simp only[W9]at hd;have⟨o',p0,p1⟩:=hd;have a1:=dK (c.ok o' J) d p1;refine⟨by rw[h.IL];exact a1,d0 d a1 ?_⟩;unfold fJ;grind);unfold wpOpIn;rw[ho];dsimp only;rw[<-hw];rcases c.step j o ho with⟨s0,l0⟩|⟨s0,v,m,H,hb,l0⟩;rw[s0,ND co];refine⟨λ_ _=>trivial,hK σ _ w (h.same c hj ho g0 (v:=undef) (by rw[l0]) ?_ bw.undef)⟩;rintro⟨o',v,m,p0,T1,_⟩;grind
 (·rw[s0,UG rfl];refine⟨λ_ _=>trivial,?_⟩;rw[Oper.semAt_eq _ _ _ (λc hc=>by rw[hc]at H;simp[dJ]at H)];cases hp:fP o.op with|true=>have F:∀x∈o.op.operands.toList,bw (σ.cut (tr j).m.n) (ev (tr j).T x) (a.eval x):=(by intro x hx;have n0:=fq A0 x hx;cases x with|tmp t=>exact d0 t (qN n0) (by unfold fJ;simp only[IF];exact .inr (.inl (Ry.2 ⟨.tmp t,hx,rfl⟩)))|const v=>exact .mn n0|global g=>have hg:g<P.globals.size:=(by have h:Nat.blt g P.globals.size:=n0;simp_all);have⟨h1,h2⟩:=h.mI g hg;have h3:=(c.mono (i:=0) j Z Z).1;exact .ptr ⟨g,0,none⟩ ⟨g,none⟩ (Sg.dz.2 ⟨J,h.base g _ h2⟩) rfl|func f=>exact .flat _ rfl);have⟨v',hr,hv⟩:=BU (w:=w) c.hE hp H F;rw[hr];refine hK σ _ w (h.same c hj ho g0 (v:=v) (by rw[l0]) (c.uE ho hp).2 ?_);rw[(c.uE ho hp).1];exact hv|false=>have⟨lk,j0,B0⟩:=h.TK c hj ho g0 hp;have k0:=h.win j lk Z (h.Ou c hj ho g0 hp) j0;have F:∀x∈o.op.operands.toList,bw (σ.cut (tr j).m.n) (ev (tr j).T x) (a.eval x):=(by intro x hx;have n0:=fq A0 x hx;exact CQ k0 (λt ht=>by subst ht;exact d0 t (qN n0) (by unfold fJ;simp only[IF];exact .inr (.inl (Ry.2 ⟨.tmp t,hx,rfl⟩)))) n0);have i0:∀b∈lk,(∃t,o.op=.alloc t)\/(∃t y,o.op=.box t y)\/(∃t s ad,o.op=.load t (.tmp s)/\jh (tr j).T s=.pointer (some ad)/\ad.block≠b)\/qO o.op\/∃s,lenOf o.op=some s/\∀r,jh (tr j).T s≠.map r:=(by intro b hb;have⟨p,hL,q0,r1,b1,u1,v1⟩:=B0 b hb;have a2:=q0.1.lt;rcases yR b1 ho hp with rfl|hr|hr|⟨_,h4⟩;omega;grind;grind;(·rcases h4 with h4|h4|⟨t,s,h4,h5,h6,h7⟩|h4|⟨s,h4,h5,h6⟩;grind;grind;rotate_left;grind;have hT:jh (tr p).T s=jh (tr j).T s:=c.uJ p Z Z λq oq h1 h2 hq=>h5 q oq h1 h2 hq;grind;refine .inr (.inr (.inl ⟨t,s,?_⟩));have hT:jh (tr p).T s=jh (tr j).T s:=c.uJ p Z Z λq oq h1 h2 hq=>h5 q oq h1 h2 hq;have hW:cd ops (tr p).T o=cd ops (tr j).T o:=E3 λg w d hg hd=>c.uJ p Z Z λq oq h1 h2 hq=>h6 g w d hg hd q oq h1 h2 hq;grind));by_cases P0:∃b0,Be E call ops tr j b0;have⟨b0,r0⟩:=P0;have⟨_,_,o',p0,e0,_⟩:=id r0;rw[ho]at p0;(cases p0;cases h0:o.op with|store t x y=>rw[h0]at e0;unfold iN at e0;dsimp only at e0;split at e0;rename_i ad u0;(cases e0;obtain rfl:lk=[]:=by refine Ud.2 λb hb=>?_;rcases i0 b hb with⟨_,h'⟩|⟨_,_,h'⟩|⟨_,_,_,h',_⟩|h'|⟨_,h',_⟩ <;>rw[h0]at h' <;>cases h');rw[h0]at H F;simp only[dJ,qK,u0]at H;split at H;rename_i m2 hz;cases H;have hx:=F x ft;rw[u0]at hx;have⟨i,hi,_,he⟩:=hx.fW;obtain⟨w',q1,q2,_,q4⟩:=sg c.hE (k0.low (tr j).m.n) hi (F y ft) hz;have hr:(Instr.storeAt t (a.eval x) (a.eval y)).run P w=.ok () w':=(by rw[he];simpa[Instr.storeAt,Instr.sureAddr]using q1);have o0:Wr E call ops tr j:=r0.1;obtain⟨σ',hI⟩:=h.effect c (v':=undef) (mk:=m) (lk:=[]) hj ho g0 hp rfl rfl (λ_ _=>rfl) j0 q2 bw.undef l0 (.inr ⟨o0,rfl⟩) (λb hb=>by have:=r0.oy hb;subst this;exact⟨λhd=>adA hz hd,i,(Sg.dz.1 hi).2,q4⟩);unfold execOp;rw[h0];simp only[UD,hr,Rr,RB];exact hK σ' _ w' hI;grind;grind|call cc=>rw[h0]at e0 H F;have⟨f,x,ad,y0,c1,w1,hex,d1,y1⟩:=Ff e0 H;obtain rfl:lk=[]:=(by refine Ud.2 λb hb=>?_;rcases i0 b hb with⟨_,h'⟩|⟨_,_,h'⟩|⟨_,_,_,h',_⟩|h'|⟨_,h',_⟩ <;>rw[h0]at h';cases h';cases h';cases h';simp[qO,y0]at h';simp[lenOf,y0]at h');obtain⟨Q0,b2,e1⟩:=c.cE.Oe ad _ v m b0 y1 d1;have g1:=F x (by simp[Op.operands,Call.operands];exact .inr (by rw[<-Array.mem_toList_iff,c1];simp));rw[hex]at g1;have i1:=F f (by simp[Op.operands,Call.operands,y0]);rw[w1]at i1;have A1:a.eval f=.func (.func Ds) #[] #[]:=(by exact i1.bJ rfl);obtain⟨i,hi,B1,j1⟩:=e1 _ w #[a.eval x] ((k0.low (tr j).m.n)) (.cons g1 .nil);have o0:Wr E call ops tr j:=r0.1;unfold execOp;rw[h0];have G1:cc.args.map a.eval= #[a.eval x]:=(by apply Qd;simp[c1]);simp only[resolve,y0,A1,Deferred.ofValue,UD,RB,Rr,invoke,G1,Array.empty_append,Array.append_empty,j1];refine ads B1 ro n o a K Q λe w' he=>?_;obtain⟨⟨v',c2,rfl,hv,u0⟩,k1⟩:=he;obtain⟨σ',hI⟩:=h.effect c (v':=v') (mk:=m) (lk:=[]) hj ho g0 hp rfl rfl (λ_ _=>rfl) j0 u0 hv l0 (.inr ⟨o0,rfl⟩) (λb hb=>by have:=r0.oy hb;subst this;exact⟨Q0,i,(Sg.dz.1 hi).2,k1⟩);grind|_=>rw[h0]at e0;cases e0);obtain⟨mk,l1,H1,K1,L1⟩:=aey H i0;refine(sI c.hE c.cE (k0.low (tr j).m.n) l1 F).2 ro n o a K Q λτ w' v' hv he=>?_;obtain⟨σ',hI⟩:=h.effect c hj ho g0 hp H1 K1 L1 j0 he hv l0 (by by_cases hq:(tr j).m.n<=m.low;refine .inl ⟨hq,?_⟩;rintro⟨o',v',m',p0,_,O0,hn⟩;grind;have o0:Wr E call ops tr j:=⟨o,v,m,ho,s0,H,hq⟩;have o1:gC ops j:=((c.wr o0).resolve_right P0).2;refine .inr ⟨o0,Ud.2 λb hb=>?_⟩;have⟨p,hL,q0,r1,b1,u1,v1⟩:=B0 b hb;have⟨op,O0,d2⟩:=Wr.op c q0.1;rcases pG o1 p op O0 with rfl|h1|h1|h1;omega;grind;grind;grind) (λb hb=>absurd ⟨b,hb⟩ P0);grind)
theorem N4(c:Ctx E P call ops nt tr)(hQ:∀σ a w,Inv E P call ops nt tr σ0 w0 ds (λi=>i<ops.size) σ a w->Q .normal a w):
  ∀(fuel:Nat) (listed:Array Bool) (σ:Sg) (a:Act) (w:World),listed.size=ops.size->Iy listed ops.size<=fuel->Inv E P call ops nt tr σ0 w0 ds (λi=>listed.getD i false=true) σ a w->
   wpAnyIn (dH ro) n P .any ops Q fuel listed a w:=by have fin:∀(listed:Array Bool) (σ:Sg) (a:Act) (w:World),listed.size=ops.size->(∀i,i<ops.size->listed.getD i false)->Inv E P call ops nt tr σ0 w0 ds (λi=>listed.getD i false=true) σ a w->Q .normal a w:=(by intro listed σ a w F H h;have:(λi=>listed.getD i false=true)=(λi=>i<ops.size):=(by grind);grind);have b0:∀(listed:Array Bool),listed.size=ops.size->(∀i,i<ops.size->listed.getD i false)->Region.ready .any ops listed=[]:=(by intro listed F H;refine Ud.2 λj hj=>?_;have h1:=(mem_ready.1 hj).1;grind);have ready_all:∀(listed:Array Bool),listed.size=ops.size->Region.ready .any ops listed=[]->∀i,i<ops.size->listed.getD i false:=(by intro listed F hr i;induction i using Nat.strongRecOn with|_ i ih=>intro hi;refine Ng λhn=>?_;have⟨o,ho⟩:=Dg (ops:=ops) hi;have:i∈Region.ready .any ops listed:=mem_ready.2 ⟨J,o,ho,λe he hb=>by have:=c.ord.lt i o ho e he hb;grind⟩;grind);intro fuel;induction fuel with|zero=>intro listed σ a w F hu h;have H:=λi hi=>Bt (l:=listed) (k:=ops.size) Z i hi;exact⟨b0 listed F H,fin listed σ a w F H h⟩|succ fuel ih=>intro listed σ a w F hu h;refine⟨λhr=>fin listed σ a w F (ready_all listed F hr) h,λj hj=>?_⟩;obtain⟨h1,o,ho,e0⟩:=mem_ready.1 hj;have g0:j<ops.size:=(N3.1 ho).1;have d0:¬listed.getD j false=true:=(by grind);refine h.step c d0 ho e0 λσ' a' w' hI=>?_;refine ih _ σ' a' w' J ?_ ?_;have:=E4 (l:=listed) (j:=j) Z d0 ops.size;grind;have:(λi=>(listed.setIfInBounds j true).getD i false=true)=(λi=>i=j\/listed.getD i false):=(by funext i;exact propext (xO listed Z i));grind
theorem aay(hE:E.OK P)(cE:cP P call)(i0:∀o∈ops.toList,fw nt P.globals.size o)(hd:yY ops){fr b0:Fr}(h:qk E call ops ops.toList 0 fr=some b0)
  (hf:dA σ fr.T a nt) (hs:eW P σ fr.m w) (k:∀σ' a' w',dA σ' b0.T a' nt->a'.defers=a.defers->Ev P σ fr.m w σ' b0.m w'->Q .normal a' w'):
  wpAnyIn (dH ro) n P .any ops Q ops.size (Array.replicate ops.size false) a w:=by
 have⟨tr,t0,tN,o0⟩:=CW ops.toList 0 fr b0 h;have j0:∀j o,ops[j]?=some o->DStep E call ops (tr j) o j (tr (j+1)):=(by grind);subst t0;have tN:tr ops.size=b0:=J;subst tN;have c:Ctx E P call ops nt tr:=⟨hE,cE,wY hd,i0,j0,EC hE cE i0 j0 hs hf⟩;refine N4 (σ0:=σ) (w0:=w) (ds:=a.defers) c ?_ ops.size _ σ a w co ?_ ?_
 ·intro σ' a' w' hI;have k0:∀b i,σ' b=some i->b<(tr ops.size).m.n:=(by intro b i F;rcases hI.vd b i F with h1|⟨q,hq,_,h2⟩;have:=(c.mono (i:=0) ops.size Z (R8 _)).1;omega;have:=(c.mono (i:=q+1) ops.size Z (R8 _)).1;omega);have e0:=hI.win ops.size [] (R8 _) (λb F=>Iff.rfl) (λp b F=> .inl Iff.rfl);rw[Sg.Gc k0,M.Cx]at e0;refine k σ' a' w' ⟨hI.IL,λt ht=>?_⟩ hI.defs ⟨hI.base,e0,(c.mono (i:=0) ops.size Z (R8 _)).2,(c.mono (i:=0) ops.size Z (R8 _)).1,hI.hle,hI.new,λb F hn=>c.abs ops.size (R8 _) b F hn,hI.heap,hI.os,hI.tape,hI.output⟩;have⟨q,hq,hv,hw,_⟩:=hI.tmp t ht;have hT:jh (tr ops.size).T t=jh (tr q).T t:=c.uJ ops.size hq (R8 _) λi o h1 h2 ho r0=>(by grind);rw[hT];refine hv.mono λb i F=>(Sg.dz.1 F).2
 ·have:∀k,Iy (Array.replicate ops.size false) k<=k:=(by intro k;induction k with|zero=>simp[Iy]|succ k ih=>unfold Iy;grind);grind
 have hL:∀i,¬(Array.replicate ops.size false).getD i false=true:=(by intro i;simp[NI,O6];grind);have l0:σ.cut (tr 0).m.n=σ:=Sg.Gc hs.vd
 exact{
  lt:=λi hi=>absurd hi (hL i)
  closed:=λj o ho hj=>absurd hj (hL j)
  IL:=hf.1
  defs:=rfl
  tmp:=λt ht=>⟨0,Z,by rw[l0];exact hf.2 t ht,λi o hi=>absurd hi (hL i),.inl rfl⟩
  win:=λk l hk hw p0=>by
   have h0:σ.cut (tr k).m.n=σ:=Sg.Gc λb i F=>by have:=hs.vd b i F;have:=(c.mono (i:=0) k Z hk).1;omega
   rw[h0]
   have d0:∀b,b<(tr 0).m.n->b∉l->(tr k).m.get b=(tr 0).m.get b:=λb F H=>c.qn (i:=0) k Z hk (λb _ h2 h3=>hL b ((hw b h3).1 h2)) b F
    (λp _ h2 h3=>(p0 p b h3).elim (λx=>hL p (x.1 h2)) H)
   have q0:=(c.mono (i:=0) k Z hk).1;refine⟨λb i F=>?_,λb i F=>?_,hs.lt,λb b' i i' F n0 h1 h2=>?_,hs.mI⟩;·have:=hs.vd b i F;show b<(tr k).m.n;omega
   ·rw[M.kH];by_cases H:b∈l;·rw[UG H];trivial
    rw[ND H,d0 b (hs.vd b i F) H];exact hs.obj b i F
   rw[M.kH]at h1 h2;by_cases H:b∈l;·grind
   by_cases g0:b'∈l;·grind
   rw[ND H,d0 b (hs.vd b i F) H]at h1;rw[ND g0,d0 b' (hs.vd b' i' n0) g0]at h2;exact hs.inj b b' i i' F n0 h1 h2
  Oe:=λp b hp=>absurd hp (hL p)
  vd:=λb i F=> .inl (hs.vd b i F)
  base:=λ_ _ x=>x
  new:=J
  hle:=R8 _
  heap:=λ_ _ _=>rfl
  os:=rfl
  tape:=rfl
  output:=rfl
  mI:=λg hg=>⟨hs.vd g _ (hs.mI g hg),hs.mI g hg⟩}
end
section
variable{E:Env}{P:Program}{call:aF}{nt:Nat}{σ:Sg}{w:World}{a:Act}{ro:Option Nat}{k:Nat}
def Ex.to:Ex->Exit
 |.normal=> .normal
 |.exit id=> .exit id
 |.ret=> .ret
def oY(base:Nat)(σ:Sg)(w:World):List Deferred->Prop
 |[]=>True
 |d::ds=>(∃r,d.target=.collected r/\base<=r/\w.heap[r]?=some (.deferred (some []))/\(∀b i,σ b=some i->i.dL≠r)/\∀F∈ds,F.target≠.collected r)/\oY base σ w ds
theorem oY.ev{w':World}(he:Ev P σ m w σ' m' w'):∀{ds:List Deferred},oY base σ w ds->oY base σ' w' ds
 |[],_=>trivial
 |d::ds,h=>by have⟨⟨r,h1,h2,H,h4,h5⟩,h6⟩:=h;have hr:r<w.heap.size:=(N3.1 H).1;refine⟨⟨r,h1,h2,?_,?_,h5⟩,h6.ev he⟩;rw[he.heap r hr (λb i F e=>absurd e (h4 b i F))];exact H;intro b i F e;cases hs:σ b with|some i'=>have:=he.ext b i' hs;grind|none=>rcases(he.new b i F hs).2 with h|⟨b0,i0,h,h',_⟩;omega;grind
theorem oY.lt:∀{ds:List Deferred},oY base σ w ds->∀d∈ds,∃r,d.target=.collected r/\r<w.heap.size
 |d::ds,h,H,F=>by have⟨⟨r,h1,_,h3,_,_⟩,h6⟩:=h;rcases VM.1 F with rfl|F;grind;exact h6.lt H F
def GA(base:Nat)(σ:Sg)(w:World)(tl ds:List Deferred):Prop:=∃ms,ds=ms++tl/\oY base σ w ms
def GA.ev{tl ds:List Deferred}{w':World}(he:Ev P σ m w σ' m' w')(h:GA base σ w tl ds):GA base σ' w' tl ds:=by have⟨ms,F,H⟩:=h;exact⟨ms,F,H.ev he⟩
def Bm{F:Fence}{c:Code}{Q:Exit->Act->World->Prop}(h:c.wpIn F n P (Exit.noGoto Q) a w):(Code.scope c).wpIn F n P Q a w:=by intro b k cs e0 hb hr;have h1:step P (lone (b.atR a (.code (.scope c)::k)) cs w)=.next (lone (b.atR a (.code c::.inScope c::k)) cs w):=step_lone_go (by simp[stepG,stepG.exec,Frame.atR]);have i1:(lone (b.atR a (.code (.scope c)::k)) cs w).fenced P F:=fenced_calm hb hr rfl;have⟨e,H,b0,hq,d0⟩:=h b (.inScope c::k) cs e0 hb hr;have h2:step P (lone (b.atR H (.inScope c::k)) cs b0)=.next (lone (b.atR H k) cs b0):=step_lone_go (by simp[stepG,stepG.exec,Frame.atR]);have i2:(lone (b.atR H (.inScope c::k)) cs b0).fenced P F:=fenced_calm hb hr rfl;cases e with|normal=>exact⟨.normal,H,b0,hq,StepsIn.head i1 h1 (StepsIn.trans d0 (.one i2 h2))⟩|exit id=>exact⟨.exit id,H,b0,hq,.of_steps (.one i1 h1) ⟨λk' hk=>d0.1 k' (by simp[exitTo,hk]),λg0 hk=>d0.2 g0 (by simp[exitTo,hk])⟩⟩|goto l=>exact hq.elim|ret=>exact⟨_,H,b0,hq,.of_steps (.one i1 h1) d0⟩|panic ch=>exact⟨_,H,b0,hq,.of_steps (.one i1 h1) d0⟩|outgrown=>exact⟨_,H,b0,hq,.of_steps (.one i1 h1) d0⟩
def Ev.extra(F:eW P σ m w)(o:Obj):Ev P σ m w σ m (w.alloc o):=by have hk:∀B,B<w.heap.size->(w.alloc o).heap[B]?=w.heap[B]?:=λB hB=>heap_alloc_old w o hB;refine⟨λ_ _ x=>x,⟨F.vd,λb i H=>(F.obj b i H).aX (λ_ _ x=>x) (hk _ (F.lt b i H)),λb i H=>?_,F.inj,F.mI⟩,R8 _,R8 _,co,λb i x y=>J,λ_ _ _=>rfl,λB hB _=>hk B hB,rfl,rfl,rfl⟩;have:=F.lt b i H;grind
def V5(ro:Option Nat)(σ:Sg)(m:M):Prop:=ro=none\/∃l i r,ro=some i.dL/\σ l=some i/\m.get l=.loop r
def V5.next{ro:Option Nat}(h:V5 ro σ m)(he:σ.le σ')(F:LK m m'):V5 ro σ' m':=by rcases h with h|⟨l,i,r,H,h2,h3⟩;exact .inl h;have⟨r',h4⟩:=F l r h3;exact .inr ⟨l,i,r',H,he _ _ h2,h4⟩
def Runs(P:Program)(nt:Nat)(c:Code)(fr:Fr)(e:Ex)(F:Fr):Prop:=
 ∀(ro:Option Nat) (k base:Nat) (σ:Sg) (a:Act) (w:World) (Q:Exit->Act->World->Prop) (tl:List Deferred),V5 ro σ fr.m->dA σ fr.T a nt->eW P σ fr.m w->GA base σ w tl a.defers->base<=w.heap.size->
  (∀σ' H w',dA σ' F.T H nt->GA base σ' w' tl H.defers->(fL c=true->H.defers=a.defers)->Ev P σ fr.m w σ' F.m w'->Q e.to H w')->c.wpIn (dH ro) k P Q a w
def least(p:Nat->Prop):Nat:=by
 classical
 exact if h:∃j,p j/\∀i,i < j->¬p i then Classical.choose h else 0
def Cv{p:Nat->Prop}(h:p j):p (least p)/\least p<=j:=by have ex:∃j,p j/\∀i,i<j->¬p i:=(by induction j using Nat.strongRecOn with|_ j F=>grind);have H:=LR ex;have he:least p=Classical.choose ex:=(by unfold least;simp_all);grind
theorem Js{c:Code}{body:Fr->Option (Ex×Fr)}(p0:∀fr e F,body fr=some (e,F)->LK fr.m F.m)(hb:∀fr e F,body fr=some (e,F)->Runs P nt c fr e F){n:Nat}{fr:Fr}{e:Ex}{F:Fr}(h:jS body n fr=some (e,F)):
  Runs P nt (.loop c) fr e F:=by intro ro k base σ a w Q tl q0 hf hs hd r0 hQ;let ux:Nat->Act->World->Prop:=λj a' w'=>∃H d0,jS body j H=some (e,F)/\dA d0 H.T a' nt/\GA base d0 w' tl a'.defers/\(fL c->a'.defers=a.defers)/\LK fr.m H.m/\Ev P σ fr.m w d0 H.m w';refine wpIn_loop (λa' w'=>∃j,ux j a' w') (λa' w'=>least λj=>ux j a' w') ⟨n,fr,σ,h,hf,hd,λ_=>rfl,LK.refl,Ev.refl hs⟩ λa1 w1 ⟨j,hI⟩=>?_;have⟨⟨H,d0,hl,s0,u0,y0,l0,b0⟩,_⟩:=Cv (p:=λj=>ux j a1 w1) hI;generalize hq:(least λj=>ux j a1 w1)=q at hl;cases q with|zero=>simp[jS]at hl|succ q=>unfold jS at hl;cases g0:body H with|none=>rw[g0]at hl;cases hl|some p=>have⟨e2,n0⟩:=p;rw[g0]at hl;refine hb H e2 n0 g0 ro k base d0 a1 w1 _ tl (q0.next b0.ext l0) s0 b0.rN u0 (Xp r0 b0.hle) λh0 a2 w2 i0 j0 A0 k0=>?_;have e0:fL c->a2.defers=a.defers:=λx=>(A0 x).trans (y0 x);cases e2 with|normal=>have o0:ux q a2 w2:=⟨n0,h0,hl,i0,j0,e0,l0.trans (p0 _ _ _ g0),b0.trans k0⟩;refine⟨⟨q,o0⟩,?_⟩;have:=(Cv (p:=λj=>ux j a2 w2) o0).2;omega|exit id=>cases hl;exact hQ h0 a2 w2 i0 j0 e0 (b0.trans k0)|ret=>cases hl;exact hQ h0 a2 w2 i0 j0 e0 (b0.trans k0)
def jb(hE:E.OK P)(cE:cP P call){n:Nat}:∀(c:Code) (fr:Fr) (e:Ex) (b0:Fr),dq nt P.globals.size c->bF E call n c fr=some (e,b0)->Runs P nt c fr e b0:=by
 intro c;induction c with
 |skip=>intro fr e b0 _ h ro k base σ a w Q tl e0 hf hs hd g0 hQ;cases h;exact wpIn_skip (hQ σ a w hf hd (λ_=>rfl) (Ev.refl hs))
 |label l=>intro fr e b0 _ h ro k base σ a w Q tl e0 hf hs hd g0 hQ;cases h;exact wpIn_label (hQ σ a w hf hd (λ_=>rfl) (Ev.refl hs))
 |region id ops d=>
  intro fr e b0 F h ro k base σ a w Q tl e0 hf hs k1 g0 hQ;unfold dq at F;simp only[G4]at F;have s0:∀o∈ops.toList,fw nt P.globals.size o:=SB.1 F.1;unfold bF at h;simp only[R7,Ax]at h;obtain⟨o0,h,rfl,rfl⟩:=h;cases d with
  |false=>simp only[I2]at h;exact wpIn_region_list (yW hE cE s0 ops.toList s0 fr o0 h σ a w hf rfl hs λσ' a' w' h1 h2 h3=>hQ σ' a' w' h1 (by rw[h2];exact k1.ev h3) (λ_=>h2) h3)
  |true=>
   simp only[gc]at h;have hd:yY ops:=J
   have hw:Ev P σ fr.m w σ fr.m {w with drawn:=w.drawn+1}:=Ev.of_heap hs rfl rfl rfl rfl;exact wpIn_region_any hE.mixed (aay hE cE s0 hd h hf hw.rN λσ' a' w' h1 h2 h3=>hQ σ' a' w' h1 (by rw[h2];exact k1.ev (hw.trans h3)) (λ_=>h2) (hw.trans h3))
 |seq x y c1 d1=>
  intro fr e b0 F h ro k base σ a w Q tl e0 hf hs hd g0 hQ;unfold dq at F;simp only[G4]at F;unfold bF at h;apply wpIn_seq;cases hx:bF E call n x fr with
  |none=>rw[hx]at h;cases h
  |some p=>
   have⟨e1,o0⟩:=p;rw[hx]at h;refine c1 fr e1 o0 F.1 hx ro k base σ a w _ tl e0 hf hs hd g0 λk0 a1 w1 l0 n0 j0 i0=>?_;have hn:fL (.seq x y)->fL x/\fL y:=λhh=>by unfold fL at hh;simp only[G4]at hh;exact hh
   cases e1 with
   |normal=>exact d1 o0 e b0 F.2 h ro k base k0 a1 w1 Q tl (e0.next i0.ext (gd cE.aX x _ _ _ hx)) l0 i0.rN n0 (Xp g0 i0.hle) λp0 a2 w2 y1 A1 B1 G1=>hQ p0 a2 w2 y1 A1 (λx=>(B1 (hn x).2).trans (j0 (hn x).1)) (i0.trans G1)
   |exit id=>cases h;exact hQ k0 a1 w1 l0 n0 (λx=>j0 (hn x).1) i0
   |ret=>cases h;exact hQ k0 a1 w1 l0 n0 (λx=>j0 (hn x).1) i0
 |cond c x y c1 d1=>
  intro fr e b0 F h ro k base σ a w Q tl e0 hf hs hd g0 hQ;unfold dq at F;simp only[G4]at F;unfold bF at h;have hc:=hf.Ce hs F.1;cases hv:ev fr.T c with
  |bool t=>
   rw[hv]at h hc;apply wpIn_cond hc.bool;cases t with
   |true=>exact c1 fr e b0 F.2.1 h ro k base σ a w Q tl e0 hf hs hd g0 λσ' a' w' q1 q2 q3=>hQ σ' a' w' q1 q2 λhh=>q3 (by unfold fL at hh;simp only[G4]at hh;exact hh.1)
   |false=>exact d1 fr e b0 F.2.2 h ro k base σ a w Q tl e0 hf hs hd g0 λσ' a' w' q1 q2 q3=>hQ σ' a' w' q1 q2 λhh=>q3 (by unfold fL at hh;simp only[G4]at hh;exact hh.2)
  |_=>rw[hv]at h;cases h
 |block id c ih=>
  intro fr e b0 F h ro k base σ a w Q tl e0 hf hs hd g0 hQ;unfold dq at F;unfold bF at h;apply wpIn_block;cases hc:bF E call n c fr with
  |none=>rw[hc]at h;cases h
  |some p=>
   have⟨e1,o0⟩:=p;rw[hc]at h;refine ih fr e1 o0 F hc ro k base σ a w _ tl e0 hf hs hd g0 λk0 a1 w1 l0 n0 j0 i0=>?_;have j0:fL (.block id c)->a1.defers=a.defers:=λhh=>j0 (by unfold fL at hh;exact hh);cases e1 with
   |normal=>cases h;exact hQ k0 a1 w1 l0 n0 j0 i0
   |exit H1=>
    simp only at h;simp only[Ex.to,Exit.inBlock];by_cases hid:H1=id;·subst hid;simp only[Nk,gc,DS,Ax]at h;obtain⟨rfl,rfl⟩:=h;rw[UG rfl];exact hQ k0 a1 w1 l0 n0 j0 i0
    rw[jL hid]at h;simp only[I2,DS,Ax]at h;obtain⟨rfl,rfl⟩:=h;rw[ND hid];exact hQ k0 a1 w1 l0 n0 j0 i0
   |ret=>cases h;exact hQ k0 a1 w1 l0 n0 j0 i0
 |loop c ih=>intro fr e b0 F h;unfold dq at F;unfold bF at h;exact Js (c:=c) (λfr e b0 hb=>gd cE.aX c fr e b0 hb) (λfr e b0 hb=>ih fr e b0 F hb) h
 |scope c ih=>intro fr e b0 F h ro k base σ a w Q tl e0 hf hs hd g0 hQ;unfold dq at F;unfold bF at h;refine Bm (ih fr e b0 F h ro k base σ a w _ tl e0 hf hs hd g0 λσ' a' w' q1 q2 q3 q4=>?_);have:=hQ σ' a' w' q1 q2 (λhh=>q3 (by unfold fL at hh;exact hh)) q4;cases e <;>exact this
 |exit id=>intro fr e b0 _ h ro k base σ a w Q tl e0 hf hs hd g0 hQ;cases h;exact wpIn_exit (hQ σ a w hf hd (λ_=>rfl) (Ev.refl hs))
 |ret=>intro fr e b0 _ h ro k base σ a w Q tl e0 hf hs hd g0 hQ;cases h;exact wpIn_ret (hQ σ a w hf hd (λ_=>rfl) (Ev.refl hs))
 |rangeFunc g ps assign body _ _=>
  intro fr e b0 F h ro k base σ a w Q tl e0 hf hs hd g0 hQ;unfold dq at F;simp only[G4]at F;have⟨K1,L1,O1,Q1⟩:=F;unfold bF at h;have hg:=hf.Ce hs K1;split at h
  ·rename_i f first captured T1;rw[T1]at hg;cases hc:call (.func f) (first.toList++(.func (.yield fr.m.n) #[] #[]::captured.toList)) (fr.m.push (.loop ⟨fr.T,ps,assign,body,.ready,none,E.G⟩))with
   |none=>rw[hc]at h;cases h
   |some p=>
    have⟨v,m⟩:=p;rw[hc]at h;simp only at h;split at h
    ·rename_i r hr;have l1:r.st≠.busy/\e=r.Aq.getD .normal/\b0={fr with m:=m.set fr.m.n (.loop {r with st:=.exhausted})}:=by
      grind
     obtain⟨z2,rfl,rfl⟩:=l1;have b2:∃d0 H,a.eval g=.func (.func f) d0 H/\bK σ first.toList d0.toList/\bK σ captured.toList H.toList:=hg.CL;have⟨d0,H,c2,d2,e2⟩:=b2;refine wpIn_rangeFunc λfn _=>?_
     have⟨wa,mark,D,A0,g1,i1⟩:∃(wa:World) (mark:List Deferred) (D:Nat),
       (Instr.enterLoop fn a.tmps ps assign body (dH ro).round).run P w=.ok (wa.heap.size,mark) (wa.alloc (.loop {state:=.ready,pending:=none,fn,tmps:=a.tmps,params:=ps,assign,body,defers:=D}))/\
       Ev P σ fr.m w σ fr.m wa/\∀σ' m' W',Ev P σ fr.m wa σ' m' W'->GA base σ' W' tl (mark++a.defers):=by
      rcases e0 with rfl|⟨l,i,r0,rfl,hl,g2⟩
      ·refine⟨w.alloc (.deferred (some [])),[{target:=.collected w.heap.size,args:= #[]}],w.heap.size,?_,Ev.extra hs _,λσ' m' W' u0=>?_⟩
       ·have i2:(w.alloc (.deferred (some []))).heap.size=w.heap.size+1:=co
        rw[i2];exact run_enterLoop_outer fn a.tmps ps assign body
       have⟨ms,A2,hd⟩:=hd;refine⟨[{target:=.collected w.heap.size,args:= #[]}]++ms,J,?_⟩;have h0:oY base σ (w.alloc (.deferred (some []))) ([{target:=.collected w.heap.size,args:= #[]}]++ms):=by
        refine⟨⟨w.heap.size,rfl,g0,heap_alloc_new w _,λb i hb=>?_,λd' j2 e=>?_⟩,hd.ev (Ev.extra hs _)⟩;·have:=hs.lt b i hb;omega
        ·have⟨r2,h1,h2⟩:=hd.lt d' j2;grind
       exact h0.ev u0
      ·have ho:=hs.obj _ _ hl;rw[g2]at ho;have⟨_,k2,_,l2,_⟩:=ho;exact⟨w,[],k2.defers,run_enterLoop_inner l2 fn a.tmps ps assign body,Ev.refl hs,λσ' m' W' u0=>hd.ev u0⟩
     let P0:Loop:={state:=.ready,pending:=none,fn,tmps:=a.tmps,params:=ps,assign,body,defers:=D}
     let w1:=wa.alloc (.loop P0)
     have j1:Ev P σ fr.m wa (σ.add fr.m.n ⟨wa.heap.size,none⟩) (fr.m.push (.loop ⟨fr.T,ps,assign,body,.ready,none,E.G⟩)) w1:=by
      refine Ev.uq g1.rN ⟨rfl,P0,nt,heap_alloc_new wa _,rfl,rfl,rfl,rfl,rfl,hf.1,λt ht=>?_,?_,?_,?_,co⟩;·exact(hf.2 t ht).mono (Sg.zb g1.rN.ny)
      ·rw[hE.G];exact O1
      ·rw[hE.G];exact Q1
      ·intro p hp;have:=SB.1 L1 p hp;simp_all
     have o1:=g1.trans j1
     have B0:bw (σ.add fr.m.n ⟨wa.heap.size,none⟩) (.func (.yield fr.m.n) #[] #[]) (.func (.yield wa.heap.size) #[] #[]):=
      .yield fr.m.n ⟨wa.heap.size,none⟩ (Sg.add_same _ _)
     have hle:=o1.ext;obtain⟨O0,p1⟩:=cE.func f _ _ v m hc _ w1 (d0++ #[.func (.yield wa.heap.size) #[] #[]]++H) j1.rN (by simp only[Vf,NZ,List.singleton_append];exact(d2.mono hle).append (bK.cons B0 (e2.mono hle)))
     refine⟨wa.heap.size,mark,w1,{target:=.fn (.func f) H,args:=d0++ #[.func (.yield wa.heap.size) #[] #[]]},w1,f,_,w1,
      A0,?_,λ_ _=>trivial,p1,λhh=>by simp[dH,Fence.wide]at hh,?_⟩
     ·have hm:Array.map a.eval #[Operand.const (Value.func (Fn.yield wa.heap.size) #[] #[])]= #[Value.func (Fn.yield wa.heap.size) #[] #[]]:=by simp[Act.eval]
      simp only[resolve,c2,Deferred.ofValue,RB,hm]
     ·have o2:CallsIn (dH ro) (k-1) P f (d0++ #[.func (.yield wa.heap.size) #[] #[]]++H) w1 (dR P (σ.add fr.m.n ⟨wa.heap.size,none⟩) (fr.m.push (.loop ⟨fr.T,ps,assign,body,.ready,none,E.G⟩)) w1 v m):=⟨trivial,λcs _=>O0.2 cs (room_wide _)⟩
      refine o2.mono λe w3 he=>?_;obtain⟨v',p0,rfl,_,y0⟩:=he;have Q0:p0 fr.m.n=some ⟨wa.heap.size,none⟩:=y0.ext _ _ (Sg.add_same _ _);have ho:=y0.rN.obj _ _ Q0;rw[hr]at ho;have⟨B2,r',u2,q1,q2,q3,q4,q5,q6,q7,q8,q9,q10,v2,r1⟩:=ho;have q1:w3.heap[wa.heap.size]?=some (.loop r'):=q1;have u1:Ev P p0 m w3 p0 (m.set fr.m.n (.loop {r with st:=.exhausted})) (w3.putObj wa.heap.size (.loop {r' with state:=.exhausted})):=by
       have y2:wa.heap.size<w3.heap.size:=(N3.1 q1).1;refine Ev.write y0.rN Q0 J ⟨rfl,{r' with state:=.exhausted},u2,?_,rfl,q3,q4,q5,q6,q7,q8,q9,q10,v2,r1⟩ ?_ co rfl rfl rfl;·show(w3.putObj wa.heap.size _).heap[wa.heap.size]?=_;exact World.putObj_heap_same y2
       intro B hB;exact World.putObj_heap_other λe=>hB e
      have b1:=(o1.trans y0).trans u1;have v1:=i1 _ _ _ ((j1.trans y0).trans u1);refine⟨r'.pending,_,run_endLoop q1 J,?_⟩;have q0:=hQ p0 {a with defers:=mark++a.defers} _ ⟨hf.1,λt ht=>(hf.2 t ht).mono b1.ext⟩ v1 (λhh=>by simp[fL]at hh) b1;generalize w3.putObj wa.heap.size (.loop {r' with state:=.exhausted})=W4 at q0⊢;rw[q3];cases hp:r.Aq with
      |none=>rw[hp]at q0;exact q0
      |some e=>
       rw[hp]at q0;cases e with
       |normal=>exact absurd hp r1
       |exit id=>exact wpIn_exit q0
       |ret=>exact wpIn_ret q0
    cases h
  cases h
 |_=>intro fr e b0 _ h;simp[bF]at h
end
section
variable{E:Env}{P:Program}{call:aF}{nt:Nat}{σ σ':Sg}{m m':M}{w w':World}{a:Act}
theorem Ii:∀(l:ν) (i t:Nat),jh (enter l i) t=if t<i then undef else(l[t-i]?).getD undef
 |[],i,t=>by unfold enter jh;rw[Tr.CK];grind
 |v::l,i,t=>by unfold enter;have F:=Ii l (i+1) t;unfold jh at F⊢;rw[Tr.cF];grind
def nB(h:bK σ args args'.toList)(hn:args.length<=nt):
  dA σ (enter args 0) {tmps:=args'++Array.replicate (nt-args'.size) undef,defers:=[]} nt:=by have F:=h.1;simp only[MT]at F;refine⟨J,λt ht=>?_⟩;rw[Ii,ND Z,IJ];simp only[Act.eval];by_cases H:t<args'.size;have h1:args[t]?=some args[t]:=J;have⟨u',hu,hr⟩:=h.get h1;simp_all;rw[JQ Z,Option.getD_none,NI,Array.getElem?_append_right Z,O6];split <;>exact bw.undef
theorem Al(hE:E.OK P)(hs:eW P σ m w){T:Tr O}(hf:dA σ T a nt){r:ResultVar}(F:(match r with |.tmp t=>Nat.blt t nt |.cell a _=>Nat.blt a nt)){v:O}(h:nq E T m r=some v):
  ∃v',((match r with |.tmp t=>pure (a.tmps.getD t undef) |.cell x t=>do Go.loadVar t (<-asAddr (a.tmps.getD x undef))):Sem O).run P w=.ok v' w/\bw σ v v':=by unfold nq at h;cases r with|tmp t=>cases h;have F:Nat.blt t nt:=F;rw[kN]at F;exact⟨_,rfl,hf.2 t J⟩|cell x t=>have F:Nat.blt x nt:=F;rw[kN]at F;have hx:=hf.2 x J;dsimp only at h;split at h;rename_i ad H;rw[H]at hx;have⟨i,hi,_,he⟩:=hx.fW;have he:a.tmps.getD x undef=_:=he;have⟨v',h1,h2,_⟩:=py (w:=w) hE hs hi h;refine⟨v',?_,h2⟩;dsimp only;rw[he,UD];exact h1;cases h
theorem uR(hE:E.OK P)(hs:eW P σ m w){T:Tr O}(hf:dA σ T a nt):∀(rs:List ResultVar) (vs:ν),(∀r∈rs,(match r with |.tmp t=>Nat.blt t nt |.cell a _=>Nat.blt a nt))->iw E T m rs=some vs->
  ∃F:ν,(rs.mapM (m:=Sem) λ|.tmp t=>pure (a.tmps.getD t undef) |.cell x t=>do Go.loadVar t (<-asAddr (a.tmps.getD x undef))).run P w=.ok F w/\bK σ vs F
 |[],vs,_,h=>by simp only[iw,DS]at h;subst h;exact⟨[],rfl,bK.nil⟩
 |r::rs,vs,hr,h=>by unfold iw at h;cases H:nq E T m r with|none=>rw[H]at h;simp at h|some v=>cases h2:iw E T m rs with|none=>rw[H,h2]at h;simp at h|some b0=>rw[H,h2]at h;simp only[DS]at h;subst h;have⟨v',q1,q2⟩:=Al hE hs hf (hr r Mq) H;obtain⟨F,q3,q4⟩:=uR hE hs hf rs b0 (λr h=>hr r (DJ _ h)) h2;refine⟨v'::F,?_,bK.cons q2 q4⟩;simp_all
theorem wM(hE:E.OK P)(hs:eW P σ m w){T:Tr O}{fn:Func}(hf:dA σ T a nt)(hr:∀r∈fn.results.toList,(match r with |.tmp t=>Nat.blt t nt |.cell a _=>Nat.blt a nt)){v:O}(h:result? E fn T m=some v):
  ∃v',(results fn a.tmps).run P w=.ok v' w/\bw σ v v':=by unfold result? at h;cases h1:iw E T m fn.results.toList with|none=>rw[h1]at h;simp at h|some vs=>rw[h1]at h;have⟨F,q1,q2⟩:=uR hE hs hf fn.results.toList vs hr h1;refine⟨if h:F.toArray.size=1 then F.toArray[0]else .tuple F.toArray,?_,?_⟩;unfold results;rw[R2];rw[UD,Sem.run_map];generalize hG:Sem.run P (List.mapM _ _) w=G;have hG:G=.ok F w:=hG.symm.trans q1;simp_all;split at h;rename_i v1 H;cases H;cases h;obtain⟨v',l2,rfl,hv,hl⟩:=q2.cases;obtain rfl:=hl.nil_eq;grind;rename_i b0 d0 H;cases H;cases h;have hlen:¬F.toArray.size=1:=(by intro hl;have:vs.length=1:=(by rw[q2.1];simpa using hl);obtain⟨x,rfl⟩:=List.length_eq_one_iff.1 this;grind);rw[dif_neg hlen];exact q2.tuple;grind
theorem Ev.BP(h:Ev P σ {m with low:=m.n} w σ' m' w'):Ev P σ m w σ' {m' with low:=min m.low m'.low} w' where
 ext:=h.ext
 rN:=h.rN.low _
 low:=RQ _ _
 Og:=h.Og
 hle:=h.hle
 new:=λb i x y=>by
  have⟨F,H⟩:=h.new b i x y;grind
 abs:=λb x y=>h.abs b J y
 heap:=λB x y=>h.heap B x λb i p q=>J
 os:=h.os
 tape:=h.tape
 output:=h.output
def bw.zW{v v':O}(h:bw σ v v')(H:aZ v):v'=v:=by by_cases hc:ep v=true;exact h.mA hc;cases v with|tuple vs=>obtain⟨a',rfl,ha⟩:=h.yz;congr 1;apply Qd;apply Xx;intro j;(cases F:vs.toList[j]? with|none=>exact JQ (by rw[<-ha.1];exact TR.1 F)|some u=>have⟨u',hu,hr⟩:=ha.get F;rw[hu,hr.mA (SB.1 H u (QP F))])|_=>exact absurd H hc
theorem Ev.forget(F:eW P σ m w)(h:Ev P σ {m with low:=m.n} w σ' m' w')(hl:m.n<=m'.low):Ev P σ m w σ m w':=by have hk:∀B,B<w.heap.size->w'.heap[B]?=w.heap[B]?:=λB hB=>h.heap B hB λb i p _=>(by have:=F.vd b i p;omega);have b0:=h.hle;refine⟨λ_ _ x=>x,⟨F.vd,λb i H=>(F.obj b i H).aX (λ_ _ x=>x) (hk _ (F.lt b i H)),λb i H=>?_,F.inj,F.mI⟩,R8 _,R8 _,b0,λb i x y=>J,λ_ _ _=>rfl,λB hB _=>hk B hB,h.os,h.tape,h.output⟩;have:=F.lt b i H;omega
def Ev.fj{o:Obj}(h:Ev P σ m w σ' m' w')(hb:w.heap.size<=r)(H:∀b i,σ' b=some i->i.dL≠r):Ev P σ m w σ' m' (w'.putObj r o):=by have F:=h.rN;refine⟨h.ext,⟨F.vd,λb i x=>(F.obj b i x).aX (λ_ _ x=>x) (World.putObj_heap_other (H b i x)),λb i x=>by rw[World.putObj_size];exact F.lt b i x,F.inj,F.mI⟩,h.low,h.Og,by rw[World.putObj_size];exact h.hle,h.new,h.abs,λB x y=>?_,h.os,h.tape,h.output⟩;rw[World.putObj_heap_other Z];exact h.heap B x y
theorem oY.fj{o:Obj}:∀{ds:List Deferred},oY base σ w ds->(∀d∈ds,d.target≠.collected r)->oY base σ (w.putObj r o) ds
 |[],_,_=>trivial
 |d::ds,h,H=>by have⟨⟨q,h1,h2,h3,h4,h5⟩,h6⟩:=h;refine⟨⟨q,h1,h2,?_,h4,h5⟩,h6.fj λd' F=>H d' (DJ _ F)⟩;rw[World.putObj_heap_other (λe=>H d Mq J)];exact h3
theorem kD{fn:Func}{tmps:Array O}{R:Ending->World->Prop}:∀(ds:List Deferred) (w':World),oY w.heap.size σ' w' ds->Ev P σ m w σ' m' w'->
  (∀F,Ev P σ m w σ' m' F->∃v,(results fn tmps).run P F=.ok v F/\R (.returned v) F)->LeavesInM Fence.wide 0 P fn tmps R ds .returning w'
 |[],w',_,he,h=>h w' he
 |d::ds,w',H,he,h=>by have⟨⟨r,h1,h2,h3,h4,h5⟩,h6⟩:=H;exact⟨co,.inl ⟨r,_,h1,run_takeDeferred h3,kD ds _ (h6.fj h5) (he.fj h2 h4) h⟩⟩
theorem uV{fn:Func}{tmps:Array O}{R:Ending->World->Prop}{rest:List Deferred}{base:Nat}{K:World->Prop}(hK:∀w r o,base<=r->(∀b i,σ' b=some i->i.dL≠r)->K w->K (w.putObj r o))(hb:w.heap.size<=base):
  ∀(ds:List Deferred) (w':World),oY base σ' w' ds->Ev P σ m w σ' m' w'->K w'->
  (∀F,Ev P σ m w σ' m' F->K F->LeavesInM Fence.wide 0 P fn tmps R rest .returning F)->LeavesInM Fence.wide 0 P fn tmps R (ds++rest) .returning w'
 |[],w',_,he,H,h=>h w' he H
 |d::ds,w',hd,he,H,h=>by have⟨⟨r,h1,h2,h3,h4,h5⟩,h6⟩:=hd;exact⟨co,.inl ⟨r,_,h1,run_takeDeferred h3,uV hK hb ds _ (h6.fj h5) (he.fj (Xp hb h2) h4) (hK _ _ _ h2 h4 H) h⟩⟩
theorem zh(hE:E.OK P){fn:Func}{fr:Fr}{v:O}(h:DI E fn m fr=some (v,m'))(d0:(fn.results.toList.all λ|.tmp t=>Nat.blt t nt |.cell a _=>Nat.blt a nt))
  (hs:eW P σ m w) (hf:dA σ' fr.T a nt) (he:Ev P σ {m with low:=m.n} w σ' fr.m w'):∃H,(results fn a.tmps).run P w'=.ok H w'/\dR P σ m w v m' (.returned H) w':=by unfold DI at h;cases hr:result? E fn fr.T fr.m with|none=>rw[hr]at h;cases h|some v1=>rw[hr]at h;dsimp only at h;obtain⟨H,q1,q2⟩:=wM hE he.rN hf (λr hr=>by grind) hr;refine⟨H,q1,?_⟩;cases F:(aZ v1 && Nat.ble m.n fr.m.low)with|true=>rw[F]at h;cases h;simp only[G4]at F;have b0:=q2.zW F.1;subst b0;exact⟨_,σ,rfl,bw.gI F.1,Ev.forget hs he (Jg F.2)⟩|false=>rw[F]at h;cases h;exact⟨_,σ',rfl,q2,he.BP⟩
theorem mW(hE:E.OK P)(cE:cP P call){n:Nat}:∀(pre:List Code) (c2:Code) (fr:Fr) (e:Ex) (F:Fr),dq nt P.globals.size (nP pre c2)->mN (bF E call n) pre fr=some (e,F)->
  ∀(k base:Nat) (σ:Sg) (a:Act) (w:World) (Q:Exit->Act->World->Prop) (tl:List Deferred),dA σ fr.T a nt->eW P σ fr.m w->GA base σ w tl a.defers->base<=w.heap.size->
  (∀σ' a' w',dA σ' F.T a' nt->GA base σ' w' tl a'.defers->Ev P σ fr.m w σ' F.m w'->match e with |.normal=>c2.wpIn (dH none) k P Q a' w'|e=>Q e.to a' w')->(nP pre c2).wpIn (dH none) k P Q a w
 |[],c2,fr,e,F,_,h=>λk base σ a w Q tl hf hs hd _ hQ=>by cases h;exact hQ σ a w hf hd (Ev.refl hs)
 |c::pre,c2,fr,e,F,b0,h=>λk base σ a w Q tl hf hs hd h0 hQ=>by unfold nP dq at b0;simp only[G4]at b0;unfold mN at h;unfold nP;apply wpIn_seq;cases hc:bF E call n c fr with|none=>rw[hc]at h;cases h|some p=>have⟨e1,i0⟩:=p;rw[hc]at h;refine jb hE cE c fr e1 i0 b0.1 hc none k base σ a w _ tl (.inl rfl) hf hs hd h0 λd0 a1 w1 e0 g0 _ H=>?_;cases e1 with|normal=>exact mW hE cE pre c2 i0 e F b0.2 h k base d0 a1 w1 Q tl e0 H.rN g0 (Xp h0 H.hle) λj0 a2 w2 k0 l0 n0=>hQ j0 a2 w2 k0 l0 (H.trans n0)|exit id=>cases h;exact hQ d0 a1 w1 e0 g0 H|ret=>cases h;exact hQ d0 a1 w1 e0 g0 H
theorem pj:∀(pre:List Code) (c:Code) {n G:Nat},dq n G (nP pre c)->dq n G c=true
 |[],_,_,_,h=>h
 |_::pre,c,n,G,h=>by unfold nP dq at h;simp only[G4]at h;exact pj pre c h.2
def pU{f:FuncId}{body:Code}(H:P.funcs[f]?=some fn)(hb:fn.body=some body)(F:nc P.globals.size fn):(callFunc f args').run P w=.ok (.enter f args') w:=by unfold nc at F;unfold callFunc;simp_all
theorem BQ{ops:Array Oper}(e0:∀o∈ops.toList,fw nt P.globals.size o){n:Nat}{F:Frame}{cs:List Frame}(hu:F.mode=.returning)(hs:eW P σ m w){Q:Exit->Act->List Frame->World->Prop}{ds:List Deferred}{T':Tr O}:
  ∀(l:List Oper) (i:Nat) (T:Tr O) (a:Act),(∀j o,l[j]?=some o->ops[i+j]?=some o)->kn l T=some T'->dA σ T a nt->a.defers=ds->
  (∀a',dA σ T' a' nt->a'.defers=ds->Q .normal a' (F::cs) w)->wpOpsSIn Fence.wide n P ops Q (List.range' i l.length) a (F::cs) w
 |[],i,T,a,_,h,hf,hd,hQ=>by cases h;simp only[JW,List.range'_zero,wpOpsSIn];grind
 |o::l,i,T,a,hi,h,hf,hd,hQ=>by have ho:ops[i]?=some o:=(by have:=hi 0 o rfl;simpa using this);have h0:o∈ops.toList:=J;have g0:=e0 o h0;(have next:∀(v v':O),kn l (put T o.dst v)=some T'->bw σ v v'->wpOpsSIn Fence.wide n P ops Q (List.range' (i+1) l.length) (a.put o.dst v') (F::cs) w:=λv v' h1 h2=>BQ e0 hu hs l (i+1) _ _ (λj o' hj=>by have:=hi (j+1) o' J;rw[show i+1+j=i+(j+1) by omega];exact this) h1 (hf.put (dK g0) h2) (by rw[put_defers];exact hd) hQ);simp only[Rq,NQ,wpOpsSIn,ho];refine⟨λ_ _=>trivial,?_⟩;unfold kn at h;have hw:o.guard=none->Region.wanted o (yielded ops a.tmps):=(by intro hg;unfold Region.wanted;rw[hg]);have b0:∀x∈o.op.operands.toList,bw σ (ev T x) (a.eval x):=λx hx=>hf.Ce hs (fq g0 x hx);split at h;(·rename_i c hg d0;rw[UG (hw hg)];split at h;(·rename_i hc;cases i0:c.args.toList.isEmpty with|false=>rw[i0]at h;cases h|true=>rw[i0]at h;simp only[gc]at h;have H:(execOp a.eval o).run P w=.ok .recover w:=(by unfold execOp;rw[d0];unfold resolve;dsimp only;rw[hc];simp only[UD,RB,Rr,invoke,Go.builtin]);rw[H];have j0:recoverD (F::cs)=none:=(by simp[recoverD,hu]);simp only[j0];exact next .nilIface .nilIface h (.flat _ rfl));cases h);(·rename_i x hg d0;rw[UG (hw hg)];have H:(execOp a.eval o).run P w=.ok (.value (a.eval x)) w:=(by unfold execOp;simp_all);rw[H];exact next _ _ h (b0 x (by rw[d0];simp[Op.operands])));(·rename_i x hg d0;rw[UG (hw hg)];have H:(execOp a.eval o).run P w=.ok (.value (a.eval x)) w:=(by unfold execOp;simp_all);rw[H];exact next _ _ h (b0 x (by rw[d0];simp[Op.operands])));cases h
theorem aaI(hE:E.OK P)(cE:cP P call){n:Nat}{g:Nat}{args:ν}{m3:M}(h:Gf E (bF E call n) g args m=some m3){args':Array O}(hs:eW P σ m w)(hl:bK σ args args'.toList):
  CallsDIn Fence.wide 0 P g args' .returning w (λe u' w'=>u'=.returning/\∃v,e=.returned v/\∃σ',Ev P σ m w σ' m3 w')/\(callFunc g args').run P w=.ok (.enter g args') w:=by
 unfold Gf at h;split at h
 ·rename_i c hc;have⟨h0,H⟩:=hE.cl g c hc;have d0:=hE.WG hc;refine⟨?_,pU h0 H d0⟩;unfold nc at d0;rw[H]at d0;simp only[G4]at d0;cases hb:(Nat.ble args.length c.fn.ntmps && (c.fn.results.toList.isEmpty && fL c.rest))with
  |false=>rw[hb]at h;cases h
  |true=>
   rw[hb]at h;simp only[G4,t8]at hb;have⟨hle,A0,l0⟩:=hb;have hle:=Jg hle;have F:=d0.1;unfold dq at F;simp only[G4]at F;have e0:=F.1;unfold dq at e0;simp only[G4]at e0;have i0:∀o∈c.ops.toList,fw c.fn.ntmps P.globals.size o:=SB.1 e0.1;have j0:=nB (nt:=c.fn.ntmps) hl hle;split at h
   ·rename_i T hT
    have fin:∀(e:Ex) (fr:Fr),e=.normal\/e=.ret->bF E call n c.rest {T:=T,m:={m with low:=m.n}}=some (e,fr)->m3={fr.m with low:=min m.low fr.m.low}->
      CallsDIn Fence.wide 0 P g args' .returning w (λe u' w'=>u'=.returning/\∃v,e=.returned v/\∃σ',Ev P σ m w σ' m3 w'):=by
     intro e fr g0 hex hm;subst hm;refine callsDIn_of_wpSIn h0 H trivial λb0 cs hu=>wpSIn_seq (wpSIn_region ?_);rw[WY,<-MT];refine BQ (nt:=c.fn.ntmps) i0 hu hs c.ops.toList 0 _ _ J hT j0 rfl λa' n0 o0=>?_;refine wpSIn_of_wpIn rfl ?_;refine jb hE cE c.rest _ e fr F.2 hex none 0 w.heap.size σ a' w _ [] (.inl rfl) n0 (hs.low m.n) ⟨[],J,trivial⟩ (R8 _) λp0 a1 w1 B0 O0 q0 r0=>?_;have k0:a1.defers=[]:=(q0 l0).trans o0;have s0:(results c.fn a1.tmps).run P w1=.ok (.tuple #[]) w1:=by
      unfold results;simp_all
     have u0:b0::cs={b0 with mode:=.returning}::cs:=by rw[<-hu]
     have hq:a1.defers=[]/\∃u',b0::cs={b0 with mode:=u'}::cs/\∃v,(results c.fn a1.tmps).run P w1=.ok v w1/\
       (u'=.returning/\∃v',Ending.returned v=.returned v'/\∃σ',Ev P σ m w σ' {fr.m with low:=min m.low fr.m.low} w1):=
      ⟨k0,.returning,u0,_,s0,rfl,_,rfl,p0,r0.BP⟩
     rcases g0 with rfl|rfl <;>exact hq
    split at h;·cases h
    ·cases h
    ·rename_i e fr y0 hex;cases h;refine fin e fr ?_ hex rfl;cases e with
     |normal=>exact .inl rfl
     |ret=>exact .inr rfl
     |exit id=>exact absurd rfl (y0 id)
   cases h
 cases h
theorem Ic(hE:E.OK P)(cE:cP P call){n:Nat}{f:FuncId}{d:LO}(hd:E.df.get f=some d){args:ν}{v:O}(h:rh E (bF E call n) d args m=some (v,m')){args':Array O}(hs:eW P σ m w)(hl:bK σ args args'.toList):
  CallsIn Fence.wide 0 P f args' w (dR P σ m w v m')/\(callFunc f args').run P w=.ok (.enter f args') w:=by
 have⟨k1,g0⟩:=hE.df f d hd;have F:=hE.WE hd;refine⟨?_,pU k1 g0 F⟩;unfold nc at F;rw[g0]at F;simp only[G4]at F;unfold rh at h;cases hle:Nat.ble args.length d.fn.ntmps with
 |false=>rw[hle]at h;cases h
 |true=>
  rw[hle]at h;simp only[gc]at h;have hle:=Jg hle;have B0:=nB (nt:=d.fn.ntmps) hl hle;have l1:=hs.low m.n;have H:=pj _ _ F.1;unfold dq at H;simp only[G4]at H;have j0:=H.1;unfold dq at j0;simp only[G4]at j0;have O0:∀o∈(#[d.mf,d.de]:Array Oper).toList,fw d.fn.ntmps P.globals.size o:=SB.1 j0.1;apply callsIn_of_wp_marks k1 g0 trivial;split at h
  ·
   rename_i fr hex;refine mW hE cE d.pre _ _ .ret fr F.1 hex 0 w.heap.size σ _ w _ [] B0 l1 ⟨[],rfl,trivial⟩ (R8 _) λh0 a1 w1 k0 b1 i0=>?_;have⟨ms,c1,H1⟩:=b1;have c1:a1.defers=ms:=by rw[c1,NC]
   show LeavesInM Fence.wide 0 P d.fn a1.tmps (dR P σ m w v m') a1.defers .returning w1;rw[c1];exact kD ms w1 H1 i0 λw2 l0=>zh hE h F.2.2 hs k0 l0
  ·rename_i fr hex;refine mW hE cE d.pre _ _ .normal fr F.1 hex 0 w.heap.size σ _ w _ [] B0 l1 ⟨[],rfl,trivial⟩ (R8 _) λh0 a1 w1 k0 b1 i0=>?_;have⟨n0,o0,P0⟩:=b1;have o0:a1.defers=n0:=by rw[o0,NC]
   dsimp only;split at h
   ·rename_i td g fi ca c K1 p0 d1 L1 O1;split at h
    ·rename_i t o1;cases b0:(Nat.beq t td && (c.args.toList.isEmpty && fi.toList.isEmpty))with
     |false=>rw[b0]at h;cases h
     |true=>
      rw[b0]at h;simp only[gc]at h;simp only[G4,t8]at b0;have⟨ht,Q1,T1⟩:=b0;obtain rfl:=L6 ht;have p1:fi= #[]:=I5 (by rw[<-MT,T1];rfl);have r1:c.args= #[]:=I5 (by rw[<-MT,Q1];rfl);subst p1;have q0:=O0 d.mf co;have u1:=O0 d.de co;have Q0:bK h0 (ca.toList.map (ev fr.T)) (ca.toList.map a1.eval):=jV _ (λo hx=>k0.Ce i0.rN (fq q0 o (by rw[d1];simpa[Op.operands]using hx)));let cv:O:=.func (.func g) #[] (ca.toList.map a1.eval).toArray
      have b2:bw h0 (.func (.func g) #[] (ca.toList.map (ev fr.T)).toArray) cv:=.func g _ _ _ _ rfl co (λj u u' p q=>by simp at p) (λj u u' p q=>Q0.2 j u u' (by simpa using p) (by simpa using q));have c2:ca.map a1.eval=(ca.toList.map a1.eval).toArray:=by apply Qd;simp
      let dd:Deferred:={target:=.fn (.func g) (ca.toList.map a1.eval).toArray,args:= #[]}
      let a2:Act:=a1.put (some t) cv
      let a3:Act:=({a2 with defers:=dd::a2.defers}:Act).put d.de.dst undef
      have v1:dA h0 (put fr.T (some t) (.func (.func g) #[] (ca.toList.map (ev fr.T)).toArray)) a2 d.fn.ntmps:=k0.put (λx hx=>dK q0 x (by rw[p0];exact hx)) b2
      have d2:dA h0 (put (put fr.T (some t) (.func (.func g) #[] (ca.toList.map (ev fr.T)).toArray)) d.de.dst undef) a3 d.fn.ntmps:=
       dA.put (a:=({a2 with defers:=dd::a2.defers}:Act)) ⟨v1.1,v1.2⟩ (dK u1) bw.undef
      have e2:t<d.fn.ntmps:=dK q0 t p0;have g2:a2.eval (.tmp t)=cv:=by
       have:t<a1.tmps.size:=by rw[k0.1];exact e2
       simp[a2,Act.put,Act.eval,this]
      refine wpIn_seq (wpIn_region_list ?_);unfold wpListIn;have i2:Region.wanted d.mf (yielded #[d.mf,d.de] a1.tmps):=by unfold Region.wanted;rw[K1]
      rw[UG i2];refine⟨λ_ _=>trivial,?_⟩;rw[Oper.semAt_eq _ _ _ (λc hc=>by rw[d1]at hc;cases hc)];have e1:(execOp a1.eval d.mf).run P w1=.ok (.value cv) w1:=by unfold execOp;rw[d1];simp[Instr.makeFunc,cv,c2]
      rw[e1,Oper.uponIn_value];unfold wpListIn;rw[p0];have j2:Region.wanted d.de (yielded #[d.mf,d.de] (a1.put (some t) cv).tmps):=by unfold Region.wanted;rw[L1]
      rw[UG j2];refine⟨λ_ _=>trivial,?_⟩;have g1:(d.de.semAt (dH none).round a2.eval).run P w1=.ok (.defer dd) w1:=by show(d.de.semAt none a2.eval).run P w1=_;rw[Oper.semAt_none];unfold execOp;rw[O1];unfold resolve;dsimp only;rw[o1];dsimp only;rw[g2,r1];simp[Deferred.ofValue,cv,dd]
      have y0:(d.de.semAt (dH none).round (a1.put (some t) cv).eval).run P w1=.ok (.defer dd) w1:=g1;rw[y0,Oper.uponIn_defer];unfold wpListIn;have i1:a3.defers=dd::n0:=by show(Act.put _ _ _).defers=_;rw[put_defers];show dd::(a1.put (some t) cv).defers=_;rw[put_defers,o0]
      show d.post.wpIn (dH none) 0 P _ a3 w1
      have fin:∀(e:Ex) (d0:Fr),e=.normal\/e=.ret->bF E call n d.post {T:=put (put fr.T (some t) (.func (.func g) #[] (ca.toList.map (ev fr.T)).toArray)) d.de.dst undef,m:=fr.m}=some (e,d0)->
        (match Gf E (bF E call n) g (ca.toList.map (ev fr.T)) d0.m with
         |some m3=>DI E d.fn m {d0 with m:=m3}
         |none=>none)=some (v,m')->d.post.wpIn (dH none) 0 P (bodyPostM Fence.wide 0 P d.fn (dR P σ m w v m')) a3 w1:=by
       intro e d0 j1 r0 e0;refine jb hE cE d.post _ e d0 H.2 r0 none 0 w1.heap.size h0 a3 w1 _ (dd::n0) (.inl rfl) d2 i0.rN ⟨[],by rw[i1];rfl,trivial⟩ (R8 _) λy1 a4 w2 k2 l2 _ l0=>?_;have⟨o2,A1,B1⟩:=l2;have A0:LeavesInM Fence.wide 0 P d.fn a4.tmps (dR P σ m w v m') a4.defers .returning w2:=by
        rw[A1];have u2:=i0.hle;refine uV (K:=λw'=>Ev P h0 fr.m w1 y1 d0.m w'/\oY w.heap.size y1 w' n0) (base:=w1.heap.size) (λW r o hr v2 hk=>⟨hk.1.fj hr v2,hk.2.fj λd' y2 e=>?_⟩) u2 o2 w2 B1 (i0.trans l0) ⟨l0,P0.ev l0⟩ λw3 G1 z2=>?_;·have⟨r',h1,h2⟩:=P0.lt d' y2;rw[e]at h1;cases h1;omega
        ·have⟨A2,B2⟩:=z2;cases s0:Gf E (bF E call n) g (ca.toList.map (ev fr.T)) d0.m with
         |none=>rw[s0]at e0;cases e0
         |some m3=>rw[s0]at e0;dsimp only at e0;obtain⟨G2,L2⟩:=aaI (args':= #[]++(ca.toList.map a1.eval).toArray) hE cE s0 G1.rN (by simpa using Q0.mono A2.ext);refine⟨co,.inr ⟨λhh=>by simp[Fence.wide]at hh,.func g,_,g,_,rfl,L2,λ_ _=>trivial,G2.mono λe u' w' hx=>?_⟩⟩;obtain⟨rfl,v',rfl,σ',u0⟩:=hx;exact kD n0 w' (B2.ev u0) (G1.trans u0) λw4 M2=>zh hE e0 F.2.2 hs (k2.mono u0.ext) M2
       rcases j1 with rfl|rfl <;>exact A0
      split at h;·cases h
      ·cases h
      ·rename_i e d0 O2 r0;refine fin e d0 ?_ r0 h;cases e with
       |normal=>exact .inl rfl
       |ret=>exact .inr rfl
       |exit id=>exact absurd rfl (O2 id)
    cases h
   cases h
  cases h
theorem vW(hE:E.OK P){X:aF}(hX:cP P X){n:Nat}(ih:cP P (bT E X n)){f:FuncId}{args:ν}{v:O}(h:bT E X (n+1) (.func f) args m=some (v,m')){args':Array O}(hs:eW P σ m w)(hl:bK σ args args'.toList):
  CallsIn Fence.wide 0 P f args' w (dR P σ m w v m')/\(callFunc f args').run P w=.ok (.enter f args') w:=by
 unfold bT at h;split at h
 ·rename_i r hr;cases h;exact hX.func f args m v m' hr σ w args' hs hl
 split at h
 ·split at h;rename_i d hd;exact Ic hE ih hd h hs hl;cases h
 ·rename_i fn k0;have l0:=hE.fn f fn k0;have d0:=hE.code k0;unfold nc at d0;simp only[G4]at d0;split at h
  ·cases h
  ·rename_i body H;rw[H]at d0
   cases hle:Nat.ble args.length fn.ntmps with
   |false=>rw[hle]at h;simp at h
   |true=>
    rw[hle]at h
    simp only[gc]at h
    have hle:=Jg hle
    have n0:(callFunc f args').run P w=.ok (.enter f args') w:=by
     have g0:(fn.name== "runtime.NumGoroutine")=false:=by simpa using d0.2.1
     unfold callFunc
     simp only[UD,run_program,Rr,l0,g0,H]
     rfl
    refine⟨?_,n0⟩
    have p0:=hs.low m.n
    have o0:=nB (nt:=fn.ntmps) hl hle
    have go:∀(e:Ex) (fr:Fr),e=.normal\/e=.ret->bF E (bT E X n) n body {T:=enter args 0,m:={m with low:=m.n}}=some (e,fr)->
      (match result? E fn fr.T fr.m with
       |none=>none
       |some v=>bif aZ v && Nat.ble m.n fr.m.low then some (v,m)else some (v,{fr.m with low:=min m.low fr.m.low}))=some (v,m')->CallsIn Fence.wide 0 P f args' w (dR P σ m w v m'):=by
     intro e fr h0 hex F
     apply callsIn_of_wp_marks l0 H trivial
     refine jb hE ih body _ e fr d0.1 hex none 0 w.heap.size σ _ w _ [] (.inl rfl) o0 p0 ⟨[],rfl,trivial⟩ (R8 _) λq0 a1 w1 r0 e0 _ s0=>?_
     have⟨ms,i0,e0⟩:=e0
     have i0:a1.defers=ms:=by rw[i0,NC]
     rw[<-i0]at e0
     have b0:LeavesInM Fence.wide 0 P fn a1.tmps (dR P σ m w v m') a1.defers .returning w1:=by
      refine kD a1.defers w1 e0 s0 λw2 j0=>?_
      cases hr:result? E fn fr.T fr.m with
      |none=>rw[hr]at F;cases F
      |some v1=>
       rw[hr]at F
       dsimp only at F
       obtain⟨v',q1,q2⟩:=wM hE j0.rN r0 (λr hr=>by
        have:=SB.1 d0.2.2 r hr
        cases r <;>exact this) hr
       refine⟨v',q1,?_⟩
       cases hb:(aZ v1 && Nat.ble m.n fr.m.low)with
       |true=>
        rw[hb]at F
        cases F
        simp only[G4]at hb
        have u0:=q2.zW hb.1
        subst u0
        exact⟨_,σ,rfl,bw.gI hb.1,Ev.forget hs j0 (Jg hb.2)⟩
       |false=>
        rw[hb]at F
        cases F
        exact⟨_,q0,rfl,q2,j0.BP⟩
     rcases h0 with rfl |rfl
     ·exact b0
     ·exact b0
    split at h
    ·cases h
    ·cases h
    ·rename_i e fr g0 hex
     refine go e fr ?_ hex h
     cases e with
     |normal=>exact .inl rfl
     |ret=>exact .inr rfl
     |exit id=>exact absurd rfl (g0 id)
theorem BE:∀(ps:List Tmp) (args args':ν) (T:Tr O) (tmps:Array O) (ds:List Deferred),dA σ T {tmps,defers:=ds} nt->(∀p∈ps,p<nt)->bK σ args args'->
  dA σ (yG T (ps.zip args)) {tmps:=(ps.zip args').foldl (λtmps x=>tmps.setIfInBounds x.1 x.2) tmps,defers:=ds} nt
 |[],_,_,_,_,_,h,_,_=>h
 |p::ps,[],args',T,tmps,ds,h,_,F=>by obtain rfl:=F.nil_eq;exact h
 |p::ps,v::args,x,T,tmps,ds,h,hp,F=>by obtain⟨v',args',rfl,hv,H⟩:=F.cases;have h2:=h.put (dst:=some p) (λd hd=>dg) hv;exact BE ps args args' (T.set p v) (tmps.setIfInBounds p v') ds h2 (λq hq=>hp q (DJ _ hq)) H
def Ev.loop{i:BI}{r r2:Dm}{H r2':Loop}(hs:eW P σ m w)(hb:σ b=some i)(hm:m.get b=.loop r)(hr:w.heap[i.dL]?=some (.loop H))(hh:∀w',w'.heap[i.dL]?=some (.loop r2')->Holds σ i w' (.loop r2)):
  Ev P σ m w σ (m.set b (.loop r2)) (w.putObj i.dL (.loop r2')):=by have F:i.dL<w.heap.size:=(N3.1 hr).1;exact Ev.write hs hb J (hh _ (World.putObj_heap_same F)) (λB hB=>World.putObj_heap_other hB) co rfl rfl rfl
def M.FX{r r2:Dm}(h:m.get b=.loop r):(m.set b (.loop r2)).get b=.loop r2:=by have:b<m.n:=M.oh J;rw[M.cF _ _ _ _ this,UG rfl]
theorem G9(hE:E.OK P){X:aF}{n:Nat}(ih:cP P (bT E X n)){l:Nat}{args:ν}{v:O}(h:yN (bF E (bT E X n) n) E.G l args m=some (v,m')){i:BI}{args':Array O}(hs:eW P σ m w)(hl:σ l=some i)(ha:bK σ args args'.toList):
  eM P σ m w ((Instr.yield i.dL args').run P w) v m':=by
 unfold yN at h;split at h
 (·rename_i r hr;have ho:=hs.obj _ _ hl;rw[hr]at ho;have⟨v1,H,nt,q1,q2,q3,q4,q5,q6,q7,q8,q9,q10,u0,y1⟩:=ho;cases hb:(Nat.beq args.length r.ps.size && Nat.beq r.G E.G)with|false=>rw[hb]at h;simp at h|true=>rw[hb]at h;simp only[gc]at h;simp only[G4]at hb;have hlen:=L6 hb.1;have hG:=L6 hb.2;rw[hE.G]at hG;rw[hG]at q9 q10;have y0:args'.size=H.params.size:=(by have:=ha.1;grind);rw[run_yield q1 y0];let R:Ending->World->Prop:=dR P σ m w v m';(suffices F:∀(ro:Option Nat) (k:Nat),RoundIn (dH ro) k P i.dL H.fn ((H.params.zip args').foldl (λtmps (t,a)=>tmps.setIfInBounds t a) H.tmps) H.assign H.body w R by refine⟨?_,λro k o a next Q hk=>?_⟩;obtain⟨e,w',⟨v',σ',_,hv,he⟩,_⟩:=(F none 0).2 default [] (room_wide _);grind;refine⟨λhh=>by simp[dH,Fence.wide]at hh,(F ro (k-1)).mono λe w' he=>?_⟩;obtain⟨v',σ',rfl,hv,A1⟩:=he;grind);intro ro k;apply roundIn_of_wpIn trivial;have A0:dA σ (yG r.T (r.ps.toList.zip args)) {tmps:=((H.params.zip args').foldl (λtmps (t,a)=>tmps.setIfInBounds t a) H.tmps),defers:=[]} nt:=(by have h0:dA σ r.T {tmps:=H.tmps,defers:=[]} nt:=⟨q7,λt ht=>q8 t ht⟩;have h1:=BE r.ps.toList args args'.toList r.T H.tmps [] h0 u0 ha;have e:(H.params.zip args').foldl (λtmps (t,a)=>tmps.setIfInBounds t a) H.tmps=(r.ps.toList.zip args'.toList).foldl (λtmps x=>tmps.setIfInBounds x.1 x.2) H.tmps:=(by rw[<-PE,Array.toList_zip,q4]);grind);rw[q5,q6];split at h;rename_i B0 hx;split at h;rename_i r1 i0;split at h;rename_i u1;split at h;rename_i e j0 O0;split at h;rename_i r2 l0;refine jb hE ih r.assign _ .normal B0 q9 hx (some i.dL) k 0 σ _ w _ [] (.inr ⟨l,i,r,rfl,hl,hr⟩) A0 (hs.low m.n) ⟨[],rfl,trivial⟩ (Vw _) λP0 a1 w1 Q0 b1 _ d0=>?_;have e0:=d0.ext _ _ hl;have n0:=d0.rN.obj _ _ e0;rw[i0]at n0;have⟨o0,c1,d1,p1,p2,p3,p4,p5,p6,p7,p8,p9,e1,g1,i1⟩:=n0;refine⟨_,run_beginRound p1 J,?_⟩;have b0:=Ev.loop (r2:={r1 with st:=.busy}) (r2':={c1 with state:=.busy}) d0.rN e0 i0 p1 λw' k0=>⟨o0,_,d1,k0,rfl,p3,p4,p5,p6,p7,p8,p9,e1,g1,i1⟩;refine jb hE ih r.body _ e j0 q10 O0 (some i.dL) k 0 P0 a1 _ _ [] (.inr ⟨l,i,_,rfl,e0,M.FX i0⟩) Q0 b0.rN (b1.ev b0) (Vw _) λj1 a2 w2 B1 G1 _ g0=>?_;have p0:=g0.ext _ _ e0;have q0:=g0.rN.obj _ _ p0;rw[l0]at q0;have⟨r0,r2',k1,z1,z2,z3,z4,z5,z6,z7,z8,z9,l1,o1,H1⟩:=q0;have s0:=(d0.trans b0).trans g0;have fin:∀(j:Option Ex),j≠some .normal->∃v' w',(Instr.endRound i.dL (j.map zk)).run P w2=.ok v' w'/\(v=.bool (j.map zk).isNone->m'={j0.m.set l (.loop {r2 with st:=if(j.map zk).isNone then .ready else .done,Aq:=j})with low:=min m.low (j0.m.set l (.loop {r2 with st:=if(j.map zk).isNone then .ready else .done,Aq:=j})).low}->R (.returned v') w'):=(by intro j hj;refine⟨_,_,run_endRound (j.map zk) z1,λhv hm=>?_⟩;subst hv hm;refine⟨_,j1,rfl,.flat _ rfl,Ev.BP (s0.trans ?_)⟩;exact Ev.loop g0.rN p0 l0 z1 λw' k0=>⟨r0,_,k1,k0,rfl,rfl,z4,z5,z6,z7,z8,z9,l1,o1,hj⟩);(cases e with|normal=>cases h;obtain⟨v',w',f1,f2⟩:=fin none co;exact⟨v',w',f1,f2 rfl rfl⟩|exit id=>cases h;obtain⟨v',w',f1,f2⟩:=fin (some (.exit id)) co;exact⟨v',w',f1,f2 rfl rfl⟩|ret=>cases h;obtain⟨v',w',f1,f2⟩:=fin (some .ret) co;exact⟨v',w',f1,f2 rfl rfl⟩);cases h;cases h;cases h;cases h;cases h)
 cases h
theorem jY(hE:E.OK P){X:aF}(H:cP P X):∀n,cP P (bT E X n)
 |0=>⟨λf args m v m' h=>by simp[bT]at h,λl args m v m' h=>by simp[bT]at h,yf H.aX 0,λa m v m' b h=>by simp[bT]at h⟩
 |n+1=>⟨λf args m v m' h σ w F hs hl=>vW hE H (jY hE H n) h hs hl,λl args m v m' h σ w i F hs hl ha=>by unfold bT at h;exact G9 hE (jY hE H n) h hs hl ha,yf H.aX (n+1),λa m v m' b h hb=>by unfold bT at h;split at h;rename_i r hr;cases h;exact H.Oe a m v m' b hr hb;rw[hE.st.1]at h;dsimp only at h;rw[hE.st.2]at h;cases h⟩
theorem ye(hE:E.OK P){X:aF}(F:cP P X){n:Nat}{f:FuncId}{args:ν}{v:O}(h:bT E X n (.func f) args m=some (v,m')){args':Array O}(H:eW P σ m w)(hl:bK σ args args'.toList):
  Calls P f args' w (dR P σ m w v m'):=by cases n with|zero=>simp[bT]at h|succ n=>exact callsIn_wide.1 (vW hE F (jY hE F n) h H hl).1
def Xv:aF:=λ_ _ _=>none
def Xu:cP P Xv:=⟨λf args m v m' h=>by simp[Xv]at h,λl args m v m' h=>by simp[Xv]at h,λf args m v m' h=>by simp[Xv]at h,λa m v m' b h=>by simp[Xv]at h⟩
end
section
def M.wl(m:M)(l:Nat):M:={m with low:=l}
variable{m:M}{l k b:Nat}{o:Ob}
theorem M.dG:(m.wl l).get b=m.get b:=rfl
theorem M.Bn:(m.wl l).low=l:=rfl
theorem M.Kf:(m.wl l).wl k=m.wl k:=rfl
theorem M.Kg:(m.wl l).push o=(m.push o).wl l:=rfl
theorem M.Oq:(m.wl l).set b o=(m.set b o).wl (min l b):=rfl
theorem M.jr:(m.push o).n=m.n+1:=rfl
structure bX{α:Type}(m:M)(f:M->Option (α×M)):Prop where
 eq:∀l,l<=m.n->f (m.wl l)=(f (m.wl m.n)).map (λr=>(r.1,r.2.wl (min l r.2.low)))
 Og:∀r,f (m.wl m.n)=some r->m.n<=r.2.n
section
variable {α:Type} {m:M}
theorem bX.none:bX (α:=α) m (λ_=>none):=⟨λ_ _=>rfl,λ_ h=>by cases h⟩
def bX.same(v:α):bX m (λm=>some (v,m)):=⟨λl h=>by simp only[F4,M.Bn,M.Kf,ZZ h],λr h=>by cases h;exact R8 _⟩
def bX.push(v:α)(o:Ob):bX m (λm=>some (v,m.push o)):=⟨λl h=>by simp only[F4,M.Kg,M.Bn,M.Kf,ZZ h],λr h=>by cases h;exact Nc _⟩
theorem bX.set(v:α)(b:Nat)(o:Ob):bX m (λm=>some (v,m.set b o)):=⟨λl h=>by simp only[F4,M.Oq,M.Bn,M.Kf];congr 3;omega,λr h=>by cases h;exact R8 _⟩
def bX.Uj(v:α)(b:Nat)(o F:Ob):bX m (λm=>some (v,(m.set b o).push F)):=⟨λl h=>by simp only[F4,M.Oq,M.Kg,M.Bn,M.Kf];congr 3;omega,λr h=>by cases h;exact Nc _⟩
def bX.of_eq{f g:M->Option (α×M)}(h:bX m g)(e:∀l,f (m.wl l)=g (m.wl l)):bX m f:=⟨λl F=>by rw[e,e,h.eq l F],λr H=>h.Og r J⟩
end
noncomputable section
variable {E:Env} {m:M}
theorem cf{l:Nat}:loadCells (m.wl l) a n=loadCells m a n:=rfl
theorem Cu{l:Nat}:loadVar E (m.wl l) t a=loadVar E m t a:=rfl
theorem dI{l:Nat}:so (m.wl l) a=so m a:=rfl
theorem cR{l s:Nat}:first? (m.wl l) s n x=first? m s n x:=rfl
theorem eO{l:Nat}:qS E (m.wl l) t x=qS E m t x:=rfl
theorem MB{l:Nat}{a b c:Option O}:slice? E (m.wl l) t x a b c=slice? E m t x a b c:=rfl
theorem Jt{l:Nat}{k:O}{ok:Bool}:eZ E (m.wl l) t x k ok=eZ E m t x k ok:=rfl
theorem ZY{l:Nat}{s d:TypeId}:Tx E (m.wl l) s d x=Tx E m s d x:=rfl
def nN{v:O}:bX m (λm=>(storeCells m a vs).map λm=>(v,m)):=by unfold storeCells;cases h:m.get a.block with|cells c e g=>(cases F:(a.spot.isNone && Nat.ble (a.off+vs.length) c.length && vs.all one)with|true=>exact(bX.set v a.block _).of_eq (λl=>by simp only[M.dG,cf,cR,eO,dI, *,gc,I2,F4,Np] <;>rfl)|false=>exact bX.none.of_eq (λl=>by simp only[M.dG,cf,cR,eO,dI, *,gc,I2,F4,Np] <;>rfl))|_=>exact bX.none.of_eq (λl=>by simp only[M.dG,cf,cR,eO,dI, *,gc,I2,F4,Np] <;>rfl)
def Nl{e k:Nat}{base:Option Addr}{sl H F:Nat}{news:ν}:bX m (λm=>oU m e k base sl H F news):=by unfold oU;cases base with|none=>(cases (Nat.beq sl 0 && Nat.beq H 0)with|true=>exact bX.of_eq (bX.push (Hr m.n 0 F F) _) (λl=>rfl)|false=>exact bX.none)|some a=>cases h:m.get a.block with|cells c te g=>(cases ho:(bif Nat.beq sl 0 then some []else loadCells m a (sl*k))with|none=>exact bX.none.of_eq (λl=>by simp only[M.dG,cf,cR,eO,dI, *,gc,I2,F4,Np] <;>rfl)|some iF=>cases h1:(g.isNone ||(g==some k && Nat.blt (a.off+H*k) c.length))with|true=>exact bX.of_eq (bX.push (Hr m.n 0 F F) (.cells (iF++news) e (some k))) (λl=>by simp only[M.dG,cf,cR,eO,dI, *,gc,I2,F4,Np] <;>rfl)|false=>cases h2:(g==some k && Nat.beq a.off 0 && a.spot.isNone && Nat.beq (sl*k) c.length && Nat.beq H sl && Nat.beq te e)with|true=>exact bX.of_eq (bX.Uj (Hr m.n 0 F F) a.block .dead (.cells (iF++news) e (some k))) (λl=>by simp only[M.dG,cf,cR,eO,dI, *,gc,I2,F4,Np] <;>rfl)|false=>exact bX.none.of_eq (λl=>by simp only[M.dG,cf,cR,eO,dI, *,gc,I2,F4,Np] <;>rfl))|_=>exact bX.none.of_eq (λl=>by simp only[M.dG,cf,cR,eO,dI, *,gc,I2,F4,Np] <;>rfl)
def adp{u:TypeId}{s:O}:bX m (λm=>eD E m t u s x):=by unfold eD;split;rename_i F ui base sl H n _ _ _;split;exact bX.none;rename_i e _ _;(cases h1:E.ty.get e with|none=>exact bX.none|some ei=>cases h2:first? m F.es n x with|none=>exact bX.none.of_eq (λl=>by simp only[M.dG,cf,cR,eO,dI, *,gc,I2,F4,Np] <;>rfl)|some news=>cases h3:(Nat.beq F.es 0 ||Nat.blt 65536 ei.bytes || !news.all one ||Nat.blt 268435456 (sl+n) || !Nat.beq news.length (n*F.es) || !iM ei.zero F.es)with|true=>exact bX.none.of_eq (λl=>by simp only[M.dG,cf,cR,eO,dI, *,gc,I2,F4,Np] <;>rfl)|false=>cases h4:Nat.ble (sl+n) H with|false=>exact Nl.of_eq (λl=>by simp only[M.dG,cf,cR,eO,dI, *,gc,I2,F4,Np] <;>rfl)|true=>cases base with|none=>(cases h5:Nat.beq n 0 with|true=>exact bX.of_eq (bX.same (.slice none sl H)) (λl=>by simp only[M.dG,cf,cR,eO,dI, *,gc,I2,F4,Np] <;>rfl)|false=>exact bX.none.of_eq J)|some a=>cases h5:Nat.beq n 0 with|true=>exact bX.of_eq (bX.same (.slice (some a) (sl+n) H)) (λl=>by simp only[M.dG,cf,cR,eO,dI, *,gc,I2,F4,Np] <;>rfl)|false=>exact bX.of_eq (nN (v:=.slice (some a) (sl+n) H) (a:=a.add (sl*F.es)) (vs:=news)) (λl=>by simp only[M.dG,cf,cR,eO,dI, *,gc,I2,F4,Np] <;>rfl));exact bX.none;exact bX.none
def aet{d:O}:bX m (λm=>CZ E m t d x):=by unfold CZ;split;rename_i F base dl _ xl _ _;(cases h2:first? m F.es (min xl dl) x with|none=>exact bX.none.of_eq (λl=>by cases H:F.d <;>simp only[cR,h2,H])|some cs=>cases H:F.d with|slice e=>(cases h3:Nat.beq F.es 0 with|true=>exact bX.none.of_eq J|false=>cases base with|none=>exact bX.of_eq (bX.same (I (min xl dl:Nat))) (λl=>by simp only[M.dG,cf,cR,eO,dI, *,gc,I2,F4,Np] <;>rfl)|some a=>cases h5:Nat.beq (min xl dl) 0 with|true=>exact bX.of_eq (bX.same (I (min xl dl:Nat))) (λl=>by simp only[M.dG,cf,cR,eO,dI, *,gc,I2,F4,Np] <;>rfl)|false=>exact bX.of_eq (nN (v:=I (min xl dl:Nat)) (a:=a) (vs:=cs)) (λl=>by simp only[M.dG,cf,cR,eO,dI, *,gc,I2,F4,Np] <;>rfl))|_=>exact bX.none.of_eq J);exact bX.none
def JS:bX m (λm=>tD E m t x):=by unfold tD;split;exact bX.same _;rename_i F a n _ _;(cases Nat.beq n 0 with|true=>exact bX.same _|false=>split;split;exact nN;exact bX.none;exact bX.none);exact bX.none
def DD{k:O}:bX m (λm=>jo E m t x k):=by unfold jo;split;rename_i F r _;(cases h:m.get r with|map es clock=>(cases F.d with|map H et=>(cases h1:keyed E H k with|false=>exact bX.none.of_eq J|true=>cases h2:findKey E H k es 0 with|none=>exact bX.none.of_eq (λl=>by simp only[M.dG, *,gc,I2] <;>rfl)|some r2=>cases r2 with|none=>(cases hz:gX E et with|none=>exact bX.none.of_eq (λl=>by simp only[M.dG, *,gc,I2,Np] <;>rfl)|some z=>exact(bX.set (.tuple #[z,I clock]) r _).of_eq (λl=>by simp only[M.dG, *,gc,I2,F4] <;>rfl))|some p=>exact(bX.set (.tuple #[p.2,I (((es[p.1]?).map (·.born)).getD 0)]) r _).of_eq (λl=>by simp only[M.dG, *,gc,I2] <;>rfl))|_=>exact bX.none.of_eq J)|_=>exact bX.none.of_eq (λl=>by cases hd:F.d <;>simp only[M.dG,h,hd]));exact bX.none
def Aw{v s y:O}:bX m (λm=>(ff m x s y).map λm=>(v,m)):=by unfold ff;split;rename_i r k b;(cases h:m.get r with|map es clock=>(cases F:tR b es 0 with|none=>exact bX.none.of_eq (λl=>by simp only[M.dG, *,Np] <;>rfl)|some i=>exact(bX.set v r _).of_eq (λl=>by simp only[M.dG, *,F4] <;>rfl))|_=>exact bX.none.of_eq (λl=>by simp only[M.dG, *,Np] <;>rfl));exact bX.none
def Gi{b:Builtin}:bX m (λm=>aR E m b ts args):=by unfold aR;split;exact adp;exact aet;exact JS;rename_i t x;(cases h:qS E m t x with|none=>exact bX.none.of_eq (λl=>by simp only[M.dG,cf,cR,eO,dI, *,gc,I2,F4,Np] <;>rfl)|some v=>exact(bX.same v).of_eq (λl=>by simp only[M.dG,cf,cR,eO,dI, *,gc,I2,F4,Np] <;>rfl));(cases h:(eo (λx y=>if y<x then y else x) args)with|none=>exact bX.none|some v=>exact bX.same v);(cases h:(eo (λx y=>if y >x then y else x) args)with|none=>exact bX.none|some v=>exact bX.same v);split;split;rename_i e a y c _;(cases h:so m a with|true=>exact bX.none.of_eq (λl=>by simp only[dI,h,gc])|false=>exact(bX.same (I c)).of_eq (λl=>by simp only[dI,h,I2]));exact bX.same _;exact bX.none;exact bX.none;exact bX.none
end
end
section
inductive KV where
 |u
 |v (x:O)
def KV.val:KV->O
 |.u=>undef
 |.v x=>x
inductive KT where
 |e
 |c (t:Nat) (x:Option KV) (r:KT)
def KT.get(K:KT):Nat->Option KV:=
 KT.rec (motive:=λ_=>Nat->Option KV) (λ_=>none) (λt x _ g i=>bif Nat.beq t i then x else g i) K
def KT.set(K:KT)(t:Nat)(x:KV):KT:=.c t (some x) K
def KT.del(K:KT)(t:Nat):KT:=.c t none K
def KT.Ww{t:Nat}{x:Option KV}{r:KT}:(KT.c t x r).get i=if i=t then x else r.get i:=by show(bif Nat.beq t i then x else r.get i)=_;cases h:Nat.beq t i with|true=>rw[UG (L6 h).symm];rfl|false=>rw[ND λe=>S1 h e.symm];rfl
def KT.cF(K:KT)(t i:Nat)(x:KV):(K.set t x).get i=if i=t then some x else K.get i:=KT.Ww
def KT.Vl(K:KT)(t i:Nat):(K.del t).get i=if i=t then none else K.get i:=KT.Ww
structure St where
 K:KT
 m:M
 lo:Nat
def Kn(K:KT)(T:Tr O):Prop:=∀t v,K.get t=some v->T.get t=some v.val
noncomputable section
def pg(K:KT)(dst:Option Tmp)(v:KV):KT:=
 match dst with
 |some d=>K.set d v
 |none=>K
def mV(K:KT):Operand->Option O
 |.tmp t=>match K.get t with |some k=>some k.val |none=>none
 |.const v=>some v
 |.global g=>some (.pointer (some ⟨g,0,none⟩))
 |.func f=>some (.func (.func f) #[] #[])
def CR(K:KT):List Operand->Option (ν)
 |[]=>some []
 |x::xs=>match mV K x with
  |some v=>match CR K xs with
   |some F=>some (v::F)
   |none=>none
  |none=>none
def SA(K:KT):List (Nat×Operand)->Option (List (Nat×O))
 |[]=>some []
 |p::xs=>match mV K p.2 with
  |some v=>match SA K xs with
   |some F=>some ((p.1,v)::F)
   |none=>none
  |none=>none
def evO(K:KT):Option Operand->Option (Option O)
 |none=>some none
 |some x=>match mV K x with |some v=>some (some v) |none=>none
variable (E:Env) (X:aF)
def Cl(f:Fn)(args:ν)(m:M)(b:Nat)(v:O)(m':M):Prop:=
 m.n<=m'.n/\b<=m.n/\∃F,∀n,F<=n->∀l,l<=m.n->bT E X n f args (m.wl l)=some (v,m'.wl (min l b))
def V(c:Code)(s:St)(Q:Ex->St->Prop):Prop:=
 ∀T,Kn s.K T->s.lo<=s.m.n->∃e F H,Q e F/\Kn F.K H/\s.m.n<=F.m.n/\F.lo<=F.m.n/\∃n0,∀n,n0<=n->
  bF E (bT E X n) n c ⟨T,s.m.wl s.lo⟩=some (e,⟨H,F.m.wl F.lo⟩)
def aS{α:Type}(r:Option α)(P:α->Prop):Prop:=match r with |some x=>P x |none=>False
def dh{α β:Type}(r:Option (α×β))(P:α->β->Prop):Prop:=match r with |some x=>P x.1 x.2 |none=>False
def nW(m:M)(P:M->Prop):Prop:=P m
def lY(b:Bool)(P Q:Prop):Prop:=match b with |true=>P |false=>Q
def iS(v:O)(P Q:Prop):Prop:=match v with |.bool b=>lY b P Q |_=>False
def rO(v:O)(P:Fn->Array O->Array O->Prop):Prop:=match v with |.func g F H=>P g F H |_=>False
def lU(f:Fn)(args:ν)(m:M)(P:O->M->Nat->Prop):Prop:=∃v m' b,Cl E X f args m b v m'/\P v m' b
def VN(F:Bool)(c:Prop)(P:Prop):Prop:=match F with |true=>c/\P |false=>P
def un(vs:ν)(P:O->ν->Prop):Prop:=match vs with |v::r=>P v r |[]=>False
variable {E}
def FC(v:O):Option O:=match v with |.pointer (some a)=>some (.pointer (some a)) |.func (.func f) a b=>some (.func (.func f) a b) |_=>none
def mz(v:O)(i:Nat):Option O:=match v with |.tuple F=>F.toList[i]? |_=>none
variable (E)
def aC(m:M)(t:TypeId)(a:O):Option O:=match a with |.pointer (some a)=>loadVar E m t a |_=>none
def bh(m:M)(t:TypeId)(a x:O):Option (M×Nat):=match a with |.pointer (some a)=>(match storeVar E m t a x with |some m1=>some (m1,a.block) |none=>none) |_=>none
def lX(m:M)(t:TypeId)(x k y:O):Option (M×Nat):=match x with |.map (some r)=>(match fx E m t x k y with |some m1=>some (m1,r) |none=>none) |_=>none
def ptrTo(b:Nat):O:=.pointer (some ⟨b,0,none⟩)
def jn(G:(ν->M->Nat->Prop)->Prop)(k:ν->M->Nat->Prop):Prop:=G k
def Lp(F:(ν->M->Nat->Prop)->ν->M->Nat->Prop)(vs:ν)(m:M)(lo:Nat):Prop:=
 ∃(H:Type) (μ:H->Nat) (ux:H->ν->M->Nat->Prop),(∃g,ux g vs m lo)/\
  ∀g vs m lo,ux g vs m lo->F (λvs m lo=>∃g',μ g' < μ g/\ux g' vs m lo) vs m lo
def Ex.Of(e:Ex)(P Q:Prop):Prop:=match e with |.normal=>P |_=>Q
structure Ky(y:Nat)(m m':M):Prop where
 n:m.n<=m'.n
 get:∀c,c < m.n->c≠y->m'.get c=m.get c
structure Ext(m m':M):Prop where
 n:m.n<=m'.n
 get:∀b,b < m.n->m'.get b=m.get b
inductive Frm where
 |ob (φ:Ob->Prop)
 |own (P:Nat)
def FB(P:Nat)(m:M)(c:Nat):Prop:=∀v e g,m.get P=.cells [v] e g->∀a n k,v=.slice (some a) n k->c≠a.block
@[reducible] def Frm.gen:Frm->M->M->Nat->Prop
 |.ob F,m1,m2,c=>F (m1.get c)->m2.get c=m1.get c
 |.own P,m1,m2,c=>FB P m1 c->m2.get c=m1.get c/\FB P m2 c
@[reducible] def Frm.rel:Frm->Nat->M->M->M->Nat->Prop
 |.ob F,y,_,m2,m3,c=>(c=y\/F (m2.get c))->m3.get c=m2.get c
 |.own P,y,m1,m2,m3,c=>P < y/\(c=y->m3.get c=m2.get c)/\(FB P m1 c->m3.get c=m2.get c/\FB P m3 c)
def GenF(fr:Frm)(g:Fn)(fi ca:ν)(xs:List (ν))(H:M->Prop):Prop:=
 ∀(y F B:Nat) (ux:Nat->M->Prop) (wn:M->Prop) (m:M),(∀i m1,ux i m1->H m1)->(∀i m1 m2,ux i m1->Ext m1 m2->ux i m2)->(∀m1 m2,wn m1->Ext m1 m2->wn m2)->
  y < F->F<=m.n->B<=F->
  (∀i args m1,F<=m1.n->xs[i]?=some args->ux i m1->∃v m2 b,Cl E X (.yield y) args m1 b v m2/\B<=b/\b<=y/\(∀c,F<=c->c < m1.n->fr.gen m1 m2 c)/\((v=.bool true/\ux (i+1) m2)\/(v=.bool false/\wn m2)))->
  ux 0 m->∃v m2 b,Cl E X g (fi++ .func (.yield y) #[] #[]::ca) m b v m2/\B<=b/\(ux xs.length m2\/wn m2)
def RF(g:Fn)(fi ca:ν)(m:M)(lo:Nat)(F:ν->M->(M->Ex->M->Nat->Prop)->Prop)(Q:M->Nat->Prop)(Qs:List (Ex×(M->Nat->Prop))):Prop:=
 ∃(fr:Frm) (xs:List (ν)) (Dt:M->Prop) (ux:Nat->M->Prop) (wn:Ex->M->Prop) (B:Nat),(∃k,g=.func k)/\GenF E X fr g fi ca xs Dt/\B<=m.n/\
  (∀i m1,ux i m1->Dt m1)/\(∀i m1 m2,ux i m1->Ky m.n m1 m2->ux i m2)/\(∀e m1 m2,wn e m1->Ky m.n m1 m2->wn e m2)/\ux 0 m/\
  (∀i args m1,m.n+1<=m1.n->xs[i]?=some args->ux i m1->F args m1 λm2 e m3 H=>B<=H/\(∀c,m.n<=c->c < m1.n->fr.rel m.n m1 m2 m3 c)/\e.Of (ux (i+1) m3) (wn e m3))/\
  (∀m2 iH,ux xs.length m2->min lo B<=iH->Q m2 iH)/\(∀e m2 iH,e≠.normal->wn e m2->min lo B<=iH->∃p∈Qs,p.1=e/\p.2 m2 iH)
def Wo(y:Nat)(m1 m:M)(P:M->Prop):Prop:=(∀c,y<=c->c < m1.n->m.get c=m1.get c)/\∀m2,m2.n=m.n->(∀c,c≠y->m2.get c=m.get c)->P m2
def N9(vs:ν)(P:Prop):Prop:=match vs with |[]=>P |_=>False
structure Words where
 aS:{α:Type}->Option α->(α->Prop)->Prop
 dh:{α β:Type}->Option (α×β)->(α->β->Prop)->Prop
 nW:M->(M->Prop)->Prop
 lU:Fn->ν->M->(O->M->Nat->Prop)->Prop
 un:ν->(O->ν->Prop)->Prop
 N9:ν->Prop->Prop
 jn:((ν->M->Nat->Prop)->Prop)->(ν->M->Nat->Prop)->Prop
 Lp:((ν->M->Nat->Prop)->ν->M->Nat->Prop)->ν->M->Nat->Prop
 RF:Fn->ν->ν->M->Nat->(ν->M->(M->Ex->M->Nat->Prop)->Prop)->(M->Nat->Prop)->List (Ex×(M->Nat->Prop))->Prop
 Wo:Nat->M->M->(M->Prop)->Prop
@[reducible] def aH:Words:=⟨D.aS,D.dh,D.nW,D.lU E X,D.un,D.N9,D.jn,D.Lp,D.RF E X,D.Wo⟩
variable (W:Words)
abbrev ka:=Bool×Nat×Option (Nat×Bool)
def wJ(ops:Array Oper)(j i t:Nat):Bool:=ops.toList.zipIdx.all λ(q,k)=> !(Nat.ble i k && Nat.blt k j && q.dst==some t)
def Qq(F:Array Nat)(ops:Array Oper)(j:Nat)(x:Oper×Nat)(acc:Option (List ka)):Option (List ka):=
 bif x.2==j ||fP x.1.op ||(F.getD j 0).testBit x.2 ||(F.getD x.2 0).testBit j then acc
 else bif Nat.blt x.2 j then(match x.1.op with
  |.alloc _ |.box _ _=>acc
  |.load _ (.tmp t)=>bif wJ ops j x.2 t then(match x.1.guard with
    |none=>acc.map ((true,t,none)::·)
    |some (g,want)=>match(ops.toList[g]?).bind (·.dst)with
     |some d=>bif wJ ops j x.2 d then acc.map ((true,t,some (d,want))::·)else none
     |none=>none)else none
  |_=>bif qO x.1.op then acc else match lenOf x.1.op with
   |some t=>bif wJ ops j x.2 t then acc.map ((false,t,none)::·)else none
   |none=>none)
 else none
def Qp(ops:Array Oper)(j:Nat):Option (List ka):=ops.toList.zipIdx.foldr (Qq (Region.before ops) ops j) (some [])
def mQ(k:Option KV)(b:Nat):Prop:=match k with |some (.v (.pointer (some a)))=>a.block≠b |_=>False
def Jn(k:Option KV):Prop:=match k with |some (.v (.map _))=>False |some _=>True |none=>False
def Gt(k:Option KV)(want:Bool)(P:Prop):Prop:=match k with
 |some (.v (.bool b))=>(match b==want with |true=>P |false=>True)
 |some .u=>True
 |_=>False
def mR(K:KT)(b:Nat):List ka->Prop
 |[]=>True
 |(true,t,none)::ts=>mQ (K.get t) b/\mR K b ts
 |(true,t,some (d,want))::ts=>Gt (K.get d) want (mQ (K.get t) b)/\mR K b ts
 |(false,t,_)::ts=>Jn (K.get t)/\mR K b ts
def cndP(F:Bool)(H:Option (List ka))(K:KT)(c:Prop)(b:Nat)(P:Prop):Prop:=
 match F with
 |true=>(match H with |none=>c |some ts=>c\/mR K b ts)/\P
 |false=>P
def Ko(c:Call):Bool:=match c.callee,c.args.toList with |.value (.func g),[_]=>Nat.beq g Ds |_,_=>false
def LD(m:M)(args:ν):Option Nat:=match args with |[.pointer (some a)]=>vn m a |_=>none
def cndQ(F:Bool)(H:Option (List ka))(K:KT)(c:Prop)(bo:Option Nat)(b:Nat)(P:Prop):Prop:=
 match F with
 |true=>(match H with |none=>c |some ts=>c\/(bo=some b/\mR K b ts))/\P
 |false=>P
def vopB(b:Builtin)(ts:List TypeId)(args:ν)(F:Bool)(m:M)(lo:Nat)(P:O->M->Nat->Prop):Prop:=
 match b with
 |.len |.cap |.min |.max=>W.dh (aR E m b ts args) λv _=>P v m lo
 |_=>W.dh (aR E (m.wl m.n) b ts args) λv m1=>VN F (m.n<=m1.low) (P v m1 (min lo m1.low))
def Ij(E:Env)(t:TypeId)(ok:Bool)(x:O):Option O:=match x with
 |.nilIface=>bif ok then(match gX E t with |some z=>some (.tuple #[z,.bool false]) |none=>none)else none
 |.iface F (.agg cs)=>bif ok && (Nat.beq F t && cs.toList.isEmpty)then(match E.ty.get t with
  |some H=>(match H.d with |.struct _=>some (.tuple #[.agg #[],.bool true]) |_=>none)
  |none=>none)else none
 |_=>none
def WT(o:Op)(F:Bool)(H:Option (List ka))(K:KT)(m:M)(lo:Nat)(P:O->M->Nat->Prop):Prop:=
 match o with
 |.move x |.assign x=>aS (mV K x) λx=>P x m lo
 |.pick c a b=>aS (mV K c) λc=>iS c (aS (mV K a) λa=>P a m lo) (aS (mV K b) λb=>P b m lo)
 |.alloc t=>aS (gX E t) λz=>W.nW (m.push (.cells (cells z) t none)) λm1=>P (ptrTo m.n) m1 lo
 |.box t x=>aS (mV K x) λx=>W.nW (m.push (.cells (cells x) t none)) λm1=>P (ptrTo m.n) m1 lo
 |.build t ps=>aS (SA K ps.toList) λps=>W.aS (bz E t ps) λv=>P v m lo
 |.buildSlice t n ps=>aS (SA K ps.toList) λps=>W.dh (aQ E m t n ps) λv m1=>P v m1 lo
 |.load t a=>aS (mV K a) λa=>W.aS (aC E m t a) λv=>P v m lo
 |.store t a x=>aS (mV K a) λa=>aS (mV K x) λx=>W.dh (bh E m t a x) λm1 b=>cndP F H K (m.n<=b) b (P undef m1 (min lo b))
 |.nilCheck x=>aS (mV K x) λx=>aS (FC x) λv=>P v m lo
 |.binOp op t x y _=>aS (mV K x) λx=>aS (mV K y) λy=>W.aS (bE E op t x y) λv=>P v m lo
 |.unOp op _ x=>aS (mV K x) λx=>W.aS (Dr op x) λv=>P v m lo
 |.convert s d x=>aS (mV K x) λx=>W.aS (Tx E m s d x) λv=>P v m lo
 |.makeFunc f a b=>aS (CR K a.toList) λa=>aS (CR K b.toList) λb=>match f with
  |.func f=>P (.func (.func f) a.toArray b.toArray) m lo
  |_=>False
 |.makeMap _ r=>match r with
  |none=>W.nW (m.push (.map [] 0)) λm1=>P (.map (some m.n)) m1 lo
  |some _=>False
 |.makeSlice t l c=>aS (mV K l) λl=>aS (mV K c) λc=>W.dh (fy E m t l c) λv m1=>P v m1 lo
 |.slice t x a b c=>aS (mV K x) λx=>aS (evO K a) λa=>aS (evO K b) λb=>aS (evO K c) λc=>W.aS (slice? E m t x a b c) λv=>P v m lo
 |.fieldAddr s x f=>aS (mV K x) λx=>W.aS (az E s x f) λv=>P v m lo
 |.field t x f=>aS (mV K x) λx=>W.aS (F2 E t x f) λv=>P v m lo
 |.indexAddr t x i=>aS (mV K x) λx=>aS (mV K i) λi=>W.aS (aD E t x i) λv=>P v m lo
 |.index t x i=>aS (mV K x) λx=>aS (mV K i) λi=>W.aS (index? E t x i) λv=>P v m lo
 |.lookup t x i ok=>aS (mV K x) λx=>aS (mV K i) λi=>W.aS (eZ E m t x i ok) λv=>P v m lo
 |.mapUpdate t x k y=>aS (mV K x) λx=>aS (mV K k) λk=>aS (mV K y) λy=>W.dh (lX E m t x k y) λm1 b=>VN F (m.n<=b) (P undef m1 (min lo b))
 |.insert t x k y=>aS (mV K x) λx=>aS (mV K k) λk=>aS (mV K y) λy=>W.dh (lX E m t x k y) λm1 b=>VN F (m.n<=b) (P undef m1 (min lo b))
 |.mapEntry t x k=>aS (mV K x) λx=>aS (mV K k) λk=>W.dh (jo E (m.wl m.n) t x k) λv m1=>VN F (m.n<=m1.low) (P v m1 (min lo m1.low))
 |.entryStore _ x s y=>aS (mV K x) λx=>aS (mV K s) λs=>aS (mV K y) λy=>W.aS (ff (m.wl m.n) x s y) λm1=>VN F (m.n<=m1.low) (P undef m1 (min lo m1.low))
 |.extract x i=>aS (mV K x) λx=>W.aS (mz x i) λv=>P v m lo
 |.typeAssert x _ t ok=>aS (mV K x) λx=>W.aS (Ij E t ok x) λv=>P v m lo
 |.call c=>match c.callee with
  |.value f=>aS (mV K f) λf=>rO f λg fi ca=>aS (CR K c.args.toList) λargs=>W.lU g (fi.toList++(args++ca.toList)) m λv m1 b=>bif Ko c then cndQ F H K (m.n<=b) (LD m args) b (P v m1 (min lo b))else VN F (m.n<=b) (P v m1 (min lo b))
  |.builtin b=>aS (CR K c.args.toList) λargs=>vopB E W b c.argTypes.toList args F m lo P
  |_=>False
 |_=>False
def D4(ops:Array Oper)(K:KT)(o:Oper)(P S:KT->Prop):Prop:=
 match o.guard with
 |none=>P K
 |some (j,want)=>match(ops.toList[j]?).bind (·.dst)with
  |some d=>match K.get d with
   |some (.v v)=>iS v (cond want (P (K.set d (.v (.bool true)))) (S (K.set d (.v (.bool true))))) (cond want (S (K.set d (.v (.bool false)))) (P (K.set d (.v (.bool false)))))
   |some .u=>S K
   |none=>False
  |none=>S K
def stq(s:St)(f:St->Prop):Prop:=match s with |⟨K,m,lo⟩=>f ⟨K,m,lo⟩
theorem PF{s:St}{f:St->Prop}:stq s f=f s:=rfl
def OE(d:Bool)(ops:Array Oper):List Oper->Nat->St->(St->Prop)->Prop
 |[],_,s,P=>P s
 |o::rest,j,s,P=>stq s λs=>D4 ops s.K o
   (λK=>WT E W o.op (d && !(gC ops j)) (bif d && !(gC ops j)then Qp ops j else none) K s.m s.lo λv m lo=>OE d ops rest (j+1) ⟨pg K o.dst (.v v),m,lo⟩ P)
   (λK=>OE d ops rest (j+1) ⟨pg K o.dst .u,s.m,s.lo⟩ P)
def Ex.LC(id:Nat)(e:Ex):Ex:=match e with |.exit F=>bif Nat.beq F id then .normal else .exit F |e=>e
def assigned:Code->List Nat
 |.region _ ops _=>ops.toList.filterMap (·.dst)
 |.seq a b=>assigned a++assigned b
 |.cond _ x y=>assigned x++assigned y
 |.block _ c |.loop c |.scope c=>assigned c
 |_=> []
def LF(t n:Nat):Nat:=Nat.lor n (Nat.shiftLeft 2 t)
def Ta(t n:Nat):Bool:=Nat.beq (Nat.land (Nat.shiftRight n t) 2) 2
def bitsOf:List Nat->Nat->Nat
 |[],n=>n
 |t::ts,n=>bitsOf ts (LF t n)
def FZ:List Nat->(List Nat->Prop)->Prop
 |[],k=>k []
 |x::xs,k=>FZ xs λF=>k (x::F)
theorem zg:∀{l:List Nat} {k:List Nat->Prop},FZ l k=k l
 |[],_=>rfl
 |_::xs,_=>zg (l:=xs)
def yd(K:KT):List Nat->Nat->List Nat
 |[],_=> []
 |t::ts,n=>bif Ta t n then yd K ts n else match K.get t with
  |some (.v _)=>t::yd K ts (LF t n)
  |_=>yd K ts n
def carried(K:KT)(l:List Nat):List Nat:=yd K l 0
def forget(K:KT):List Nat->KT
 |[]=>K
 |t::ts=>forget (K.del t) ts
def Ih:List Nat->ν->KT->(KT->Prop)->Prop
 |[],_,K,f=>f K
 |t::ts,F,K,f=>W.un F λv r=>Ih ts r (K.set t (.v v)) f
def LG:List Nat->ν->KT->(KT->Prop)->Prop
 |[],F,K,f=>W.N9 F (f K)
 |t::ts,F,K,f=>W.un F λv r=>LG ts r (K.set t (.v v)) f
def yx(K:KT):List Nat->Option (ν)
 |[]=>some []
 |t::ts=>match K.get t with
  |some (.v v)=>match yx K ts with
   |some F=>some (v::F)
   |none=>none
  |_=>none
def BR:List Operand->Nat->Nat
 |[],n=>n
 |.tmp t::r,n=>BR r (LF t n)
 |_::r,n=>BR r n
def Qf:List Oper->Nat->Nat
 |[],n=>n
 |o::r,n=>Qf r (BR o.op.operands.toList n)
def reads:Code->Nat
 |.region _ ops _=>Qf ops.toList 0
 |.seq a b=>Nat.lor (reads a) (reads b)
 |.cond c x y=>BR [c] (Nat.lor (reads x) (reads y))
 |.block _ c |.loop c |.scope c=>reads c
 |.rangeFunc f _ a b=>BR [f] (Nat.lor (reads a) (reads b))
 |_=>0
def parts:Code->Bool
 |.region _ ops _=>ops.toList.any λo=>o.guard.isSome
 |_=>false
def Q9(rd:Nat):List Nat->Nat->List Nat
 |[],_=> []
 |t::ts,n=>bif Ta t rd && !Ta t n then t::Q9 rd ts (LF t n)else Q9 rd ts n
def XH(a:Code)(rd:Nat):List Nat:=Q9 rd (assigned a) 0
def VP(e:Ex)(l:List Ex):List Ex:=bif l.any (·==e)then l else l++ [e]
def mu:Code->List Ex->List Ex
 |.exit id,acc=>VP (.exit id) acc
 |.ret,acc=>VP .ret acc
 |.seq a b,acc=>mu b (mu a acc)
 |.cond _ x y,acc=>mu y (mu x acc)
 |.block id c,acc=>(mu c []).foldl (λacc e=>bif e==.exit id then acc else VP e acc) acc
 |.loop c,acc |.scope c,acc=>mu c acc
 |.rangeFunc _ _ _ b,acc=>mu b acc
 |_,acc=>acc
def leaves(c:Code):List Ex:=mu c []
def jjN:Nat:=1
def oV(id:Nat):Code->Nat
 |.exit i=>bif Nat.beq i id then 1 else 0
 |.seq a b=>oV id a+oV id b
 |.cond _ x y=>oV id x+oV id y
 |.block _ c |.loop c |.scope c=>oV id c
 |.rangeFunc _ _ _ b=>oV id b
 |_=>0
def qi:Code->Bool
 |.exit _ |.ret |.loop _ |.goto _ |.refuse _=>false
 |.seq a b=>qi a && qi b
 |.cond _ x y=>qi x ||qi y
 |.block id c=>qi c ||Nat.blt 0 (oV id c)
 |.scope c=>qi c
 |_=>true
def Ep:Code->Bool
 |.seq a b=>qi a && Ep b
 |.cond _ x y=>(qi x && qi y) ||((qi x && Ep x) ||(qi y && Ep y))
 |.block id c=>Nat.blt 1 (oV id c+(bif qi c then 1 else 0)) ||(qi c && Ep c)
 |.scope c=>Ep c
 |_=>false
def T3:Code->Bool
 |.skip |.ret |.exit _ |.label _=>true
 |.seq a b=>T3 a && T3 b
 |.scope c=>T3 c
 |_=>false
def Qw(rd:Nat)(a b:Code):Bool:=parts a ||((Ep a && !T3 b) && Nat.beq (Nat.land rd jjN) jjN)
def Ah:Code->Nat->St->(Ex->St->Prop)->Prop
 |.skip,_,s,Q=>Q .normal s
 |.label _,_,s,Q=>Q .normal s
 |.region _ ops d,_,s,Q=>OE E W d ops ops.toList 0 s (Q .normal)
 |.seq a b,rd,s,Q=>
  bif Qw rd a b then
   FZ (XH a (Nat.lor (reads b) rd)) λl=>W.jn (λR=>Ah a (Nat.lor (reads b) rd) s λe F=>e.Of (aS (yx F.K l) λH=>R H F.m F.lo) (Q e F))
    (λH m lo=>Ih W l H (forget s.K (assigned a)) λK=>Ah b rd ⟨K,m,lo⟩ Q)
  else Ah a (Nat.lor (reads b) rd) s λe s=>e.Of (Ah b rd s Q) (Q e s)
 |.cond c x y,rd,s,Q=>aS (mV s.K c) λv=>iS v (Ah x rd s Q) (Ah y rd s Q)
 |.block id c,rd,s,Q=>Ah c rd s λe s=>Q (e.LC id) s
 |.exit id,_,s,Q=>Q (.exit id) s
 |.ret,_,s,Q=>Q .ret s
 |.loop c,rd,s,Q=>
  FZ (carried s.K (assigned c)) λl=>aS (yx s.K l) λH=>W.Lp (λP H m lo=>Ih W l H (forget s.K (assigned c)) λK=>Ah c (bitsOf l rd) ⟨K,m,lo⟩ λe F=>
   e.Of (aS (yx F.K l) λH=>P H F.m F.lo) (Q e F)) H s.m s.lo
 |.scope c,rd,s,Q=>Ah c rd s Q
 |.rangeFunc f ps a b,_,s,Q=>aS (mV s.K f) λf=>rO f λg fi ca=>W.RF g fi.toList ca.toList s.m s.lo
   (λargs m1 Qb=>LG W ps.toList args s.K λK1=>Ah a (reads b) ⟨K1,m1,m1.n⟩ λe s1=>e.Of (W.Wo s.m.n m1 s1.m λm2=>Ah b 0 ⟨s1.K,m2,min s1.lo s.m.n⟩ λe2 s2=>Qb m2 e2 s2.m s2.lo) False)
   (λm lo=>Q .normal ⟨s.K,m,lo⟩) ((leaves b).map λe=>(e,λm lo=>Q e ⟨s.K,m,lo⟩))
 |_,_,_,_=>False
end
section
variable {E:Env} {X:aF}
theorem Y{α:Type}{x:α}{P:α->Prop}:aS (some x) P=P x:=rfl
theorem an{α β:Type}{x:α}{y:β}{P:α->β->Prop}:dh (some (x,y)) P=P x y:=rfl
def bC{α:Type}{r:Option α}{P:α->Prop}:aS r P↔∃x,r=some x/\P x:=by cases r with|none=>exact⟨λh=>h.elim,λ⟨x,h,_⟩=>by cases h⟩|some y=>exact⟨λh=>⟨y,rfl,h⟩,λ⟨x,h,F⟩=>by cases h;exact F⟩
def oL{α β:Type}{r:Option (α×β)}{P:α->β->Prop}:dh r P↔∃x y,r=some (x,y)/\P x y:=by cases r with|none=>exact⟨λh=>h.elim,λ⟨x,y,h,_⟩=>by cases h⟩|some y=>exact⟨λh=>⟨y.1,y.2,rfl,h⟩,λ⟨x,y,h,F⟩=>by cases h;exact F⟩
def ady{b:Bool}{Q:Prop}:lY b P Q↔(b->P)/\(b=false->Q):=by cases b with|true=>exact⟨λh=>⟨λ_=>h,λe=>by cases e⟩,λh=>h.1 rfl⟩|false=>exact⟨λh=>⟨(λe=>by cases e),λ_=>h⟩,λh=>h.2 rfl⟩
def AY{v:O}{Q:Prop}:iS v P Q↔∃b,v=.bool b/\lY b P Q:=by constructor;intro h;(cases v with|bool b=>exact⟨b,rfl,h⟩|_=>exact h.elim);rintro⟨b,rfl,h⟩;exact h
def sL{v:O}{P:Fn->Array O->Array O->Prop}:rO v P↔∃g fi ca,v=.func g fi ca/\P g fi ca:=by constructor;intro h;(cases v with|func g fi ca=>exact⟨g,fi,ca,rfl,h⟩|_=>exact h.elim);rintro⟨g,fi,ca,rfl,h⟩;exact h
def OI{P:O->ν->Prop}:un vs P↔∃v r,vs=v::r/\P v r:=by cases vs with|nil=>exact⟨λh=>h.elim,λ⟨v,r,h,_⟩=>by cases h⟩|cons v r=>exact⟨λh=>⟨v,r,rfl,h⟩,λ⟨v,r,h,F⟩=>by cases h;exact F⟩
def Bb:VN F c P↔(F->c)/\P:=by cases F with|true=>exact⟨λh=>⟨λ_=>h.1,h.2⟩,λh=>⟨h.1 rfl,h.2⟩⟩|false=>exact⟨λh=>⟨(λe=>by cases e),h⟩,λh=>h.2⟩
theorem Kn.put{K:KT}(h:Kn K T)(d:Option Tmp)(v:KV):Kn (pg K d v) (put T d v.val):=by cases d with|none=>exact h|some d=>intro t x F;simp only[D.put,pg,Tr.cF,KT.cF]at F⊢;split;grind;rename_i e;rw[ND e]at F;exact h t x F
def Kn.again{K:KT}(h:Kn K T){d:Nat}{v:O}(H:K.get d=some (.v v)):Kn (K.set d (.v v)) T:=by intro t x F;simp only[KT.cF]at F;split at F;rename_i e;cases F;rw[e];exact h d _ H;exact h t x F
theorem Kn.set{K:KT}(h:Kn K T){d:Nat}{v:O}(H:T.get d=some v):Kn (K.set d (.v v)) T:=by intro t x F;simp only[KT.cF]at F;split at F;rename_i e;cases F;rw[e];exact H;exact h t x F
def bD{K:KT}(h:Kn K T){x:Operand}{v:O}(F:mV K x=some v):ev T x=v:=by cases x with|tmp t=>simp only[mV]at F;split at F;rename_i k H;cases F;simp only[ev,jh,h t k H,At];cases F|const c=>cases F;rfl|global g=>cases F;rfl|func f=>cases F;rfl
theorem jc{K:KT}{T:Tr O}(h:Kn K T):∀{xs:List Operand} {vs:ν},CR K xs=some vs->xs.map (ev T)=vs
 |[],vs,F=>by cases F;rfl
 |x::xs,vs,F=>by unfold CR at F;split at F;rename_i v H;split at F;rename_i b0 h2;cases F;simp only[UM,bD h H,jc h h2];cases F;cases F
theorem vU{K:KT}{T:Tr O}(h:Kn K T):∀{xs:List (Nat×Operand)} {vs:List (Nat×O)},SA K xs=some vs->xs.map (λp=>(p.1,ev T p.2))=vs
 |[],vs,F=>by cases F;rfl
 |x::xs,vs,F=>by unfold SA at F;split at F;rename_i v H;split at F;rename_i b0 h2;cases F;simp only[UM,bD h H,vU h h2];cases F;cases F
def zl{K:KT}(h:Kn K T){x:Option Operand}{v:Option O}(F:evO K x=some v):x.map (ev T)=v:=by cases x with|none=>cases F;rfl|some x=>unfold evO at F;dsimp only at F;split at F;rename_i w H;cases F;simp only[F4,bD h H];cases F
def WN(E:Env)(X:aF)(o:Op)(F:Bool)(H:Option (List ka))(K:KT)(T:Tr O)(m:M)(lo:Nat)(P:O->M->Nat->Prop):Prop:=
 ∃v m1 w,P v m1 (min lo w)/\m.n<=m1.n/\(F=true->m.n<=w\/∃ts,H=some ts/\mR K w ts/\iN m T o=some w)/\
  ∃n0,∀n,n0<=n->∀l,l<=m.n->dJ o E (bT E X n) T (m.wl l)=some (v,m1.wl (min l w))
def WN.push{o:Op}{H:Option (List ka)}{K:KT}{P:O->M->Nat->Prop}{v:O}(b0:lo<=m.n)(hP:P v m1 lo)(hn:m.n<=m1.n)(h:∀n l,dJ o E (bT E X n) T (m.wl l)=some (v,m1.wl l)):WN E X o F H K T m lo P:=
 ⟨v,m1,m.n,J,hn,λ_=> .inl (R8 _),0,J⟩
def WN.aX{o:Op}{H:Bool}{pt:Option (List ka)}{K:KT}{P:O->M->Nat->Prop}{v:O}(F:lo<=m.n)(hP:P v m lo)(h:∀n l,dJ o E (bT E X n) T (m.wl l)=some (v,m.wl l)):WN E X o H pt K T m lo P:=
 .push F hP (R8 _) h
def zH(h:storeVar E m t a x=some m1)(l:Nat):storeVar E (m.wl l) t a x=some (m1.wl (min l a.block))/\m1.n=m.n:=by unfold storeVar at h⊢;cases F:E.ty.get t with|none=>rw[F]at h;cases h|some ti=>rw[F]at h;dsimp only at h⊢;cases H:Nat.beq (cells x).length ti.size with|false=>rw[H]at h;cases h|true=>rw[H]at h;unfold storeCells at h⊢;rw[M.dG];cases hg:m.get a.block with|cells c e g=>rw[hg]at h;dsimp only at h⊢;(cases hc:(a.spot.isNone && Nat.ble (a.off+(cells x).length) c.length && (cells x).all one)with|false=>rw[hc]at h;cases h|true=>rw[hc]at h;cases h;exact⟨rfl,rfl⟩)|_=>rw[hg]at h;cases h
def lW{k y:O}(h:fx E m t (.map (some r)) k y=some m1)(l:Nat):fx E (m.wl l) t (.map (some r)) k y=some (m1.wl (min l r))/\m1.n=m.n:=by unfold fx at h⊢;cases H:E.ty.get t with|none=>rw[H]at h;cases h|some ti=>rw[H]at h;dsimp only at h⊢;rw[M.dG];cases F:ti.d with|map kt et=>(cases hg:m.get r with|map es clock=>rw[F,hg]at h;dsimp only at h⊢;(cases hk:keyed E kt k with|false=>rw[hk]at h;cases h|true=>rw[hk]at h;cases hf:findKey E kt k es 0 with|none=>rw[hf]at h;cases h|some p=>rw[hf]at h;cases p with|none=>cases h;exact⟨rfl,rfl⟩|some q=>cases h;exact⟨rfl,rfl⟩)|_=>rw[F,hg]at h;cases h)|_=>rw[F]at h;cases h
def tI{ps:List (Nat×O)}{v:O}(h:aQ E m t n ps=some (v,m1))(l:Nat):aQ E (m.wl l) t n ps=some (v,m1.wl l)/\m.n<=m1.n:=by unfold aQ at h⊢;split at h;cases h;split at h;split at h;(cases h;rename_i F ht _ e hd _ z hz;cases H:(Nat.beq (cells z).length F.es && Nat.ble (n*F.es) 1048576)with|false=>rw[H]at h;cases h|true=>rw[H]at h;cases hf:fill (λi=>some (i*F.es,F.es)) (eg (cells z) n) ps with|none=>rw[hf]at h;cases h|some cs=>rw[hf]at h;cases h;refine⟨?_,Nc _⟩;rfl);cases h
def uU{y v:O}(h:fy E m t x y=some (v,m1))(l:Nat):fy E (m.wl l) t x y=some (v,m1.wl l)/\m.n<=m1.n:=by unfold fy at h⊢;cases H:E.ty.get t with|none=>rw[H]at h;cases h|some ti=>rw[H]at h;dsimp only at h⊢;split at h;rename_i e k a k' c hd;(cases he:E.ty.get e with|none=>rw[he]at h;cases h|some ei=>rw[he]at h;dsimp only at h;cases F:ei.zero with|none=>rw[F]at h;cases h|some z=>rw[F]at h;dsimp only at h;split at h;rename_i hc;cases h;refine⟨?_,Nc _⟩;simp only[hd,he,F];rw[UG hc];rfl;cases h);cases h
def DR{b:Builtin}{v:O}(hb:b=.len\/b=.cap\/b=.min\/b=.max)(h:aR E m b ts args=some (v,m1))(l:Nat):aR E (m.wl l) b ts args=some (v,m.wl l):=by rcases hb with rfl|rfl|rfl|rfl;(·unfold aR at h⊢;split at h;(all_goals try (rename_i H;first|cases H|skip));all_goals first|(simp only[eO];cases F:qS E m _ _ with|none=>rw[F]at h;cases h|some w=>rw[F]at h;cases h;rfl)|cases h|skip);(·unfold aR at h⊢;split at h;(all_goals try (rename_i H;first|cases H|skip));split at h;split at h;rename_i ti ht _ _ e a n c hd;(cases hs:so m a with|true=>rw[hs]at h;cases h|false=>rw[hs]at h;cases h;simp only[ht,hd,dI,hs,I2]);grind;cases h;cases h;cases h);have h:(eo (λx y=>if y<x then y else x) args).map (·,m)=some (v,m1):=h;show(eo (λx y=>if y<x then y else x) args).map (·,m.wl l)=some (v,m.wl l);(cases F:eo (λx y=>if y<x then y else x) args with|none=>rw[F]at h;cases h|some w=>rw[F]at h;cases h;rfl);have h:(eo (λx y=>if y >x then y else x) args).map (·,m)=some (v,m1):=h;show(eo (λx y=>if y >x then y else x) args).map (·,m.wl l)=some (v,m.wl l);cases F:eo (λx y=>if y >x then y else x) args with|none=>rw[F]at h;cases h|some w=>rw[F]at h;cases h;rfl
noncomputable section
def tB:ν->Nat->KT
 |[],_=> .e
 |v::F,i=>(tB F (i+1)).set i (.v v)
def Dy(E:Env)(K:KT)(m:M):List ResultVar->(ν->Prop)->Prop
 |[],f=>f []
 |.tmp t::rs,f=>aS (match K.get t with |some k=>some k.val |none=>none) λv=>Dy E K m rs λF=>f (v::F)
 |.cell a t::rs,f=>aS (match K.get a with |some k=>some k.val |none=>none) λa=>aS (aC E m t a) λv=>Dy E K m rs λF=>f (v::F)
def aP:ν->O
 |[v]=>v
 |F=> .tuple F.toArray
def post(E:Env)(rs:List ResultVar)(R:ν->M->Nat->Prop):Ex->St->Prop:=λe s=>match e with
 |.exit _=>False
 |_=>Dy E s.K s.m rs λF=>R F s.m s.lo
def Ej(rs:List ResultVar):List Nat:=rs.map λ|.tmp t=>t |.cell a _=>a
def WU(E:Env)(W:Words)(rd:Nat)(fn:Func)(args:ν)(m:M)(R:ν->M->Nat->Prop):Prop:=
 match fn.body with
 |some body=>Ah E W body rd ⟨tB args 0,m,m.n⟩ (post E fn.results.toList R)
 |none=>False
def dB(E:Env)(W:Words)(fn:Func)(args:ν)(m:M)(R:ν->M->Nat->Prop):Prop:=WU E W (bitsOf (Ej fn.results.toList) 0) fn args m R
def fQ(E:Env)(W:Words)(fn:Func)(args:ν)(m:M)(R:ν->M->Nat->Prop):Prop:=WU E W (bitsOf (Ej fn.results.toList) jjN) fn args m R
end
end
end
variable{s:St}{H pt:Option (List ka)}{K:KT}
section
variable{E:Env}{X:aF}
def SP:cndP F H K c b P↔(F->c\/∃ts,H=some ts/\mR K b ts)/\P:=by cases F with|true=>(cases H with|none=>exact⟨λh=>⟨λ_=> .inl h.1,h.2⟩,λh=>⟨(h.1 rfl).elim id (λ⟨_,h,_⟩=>by cases h),h.2⟩⟩|some ts=>exact⟨λh=>⟨λ_=>h.1.imp id (λx=>⟨ts,rfl,x⟩),h.2⟩,λh=>⟨(h.1 rfl).imp id (λ⟨_,h,x⟩=>J),h.2⟩⟩)|false=>exact⟨λh=>⟨(λe=>by cases e),h⟩,λh=>h.2⟩
def SO{bo:Option Nat}:cndQ F H K c bo b P↔(F->c\/∃ts,H=some ts/\mR K b ts/\bo=some b)/\P:=by cases F with|true=>(cases H with|none=>exact⟨λh=>⟨λ_=> .inl h.1,h.2⟩,λh=>⟨(h.1 rfl).elim id (λ⟨_,h,_⟩=>by cases h),h.2⟩⟩|some ts=>exact⟨λh=>⟨λ_=>h.1.imp id (λx=>⟨ts,rfl,x.2,x.1⟩),h.2⟩,λh=>⟨(h.1 rfl).imp id (λ⟨_,h,x⟩=>J),h.2⟩⟩)|false=>exact⟨λh=>⟨(λe=>by cases e),h⟩,λh=>h.2⟩
def DU{c:Call}(hk:Kn K T)(H:Ko c)(F:CR K c.args.toList=some args)(hb:LD m args=some b):iN m T (.call c)=some b:=by unfold Ko at H;split at H;rename_i g x hc hx;rw[hx]at F;unfold CR at F;split at F;rename_i v hv;cases F;unfold LD at hb;split at hb;rename_i a he;cases he;unfold iN;dsimp only;rw[hc,hx];dsimp only;rw[bD hk hv];show(bif Nat.beq g Ds && true && true then vn m a else none)=some b;grind;cases hb;cases F;cases H
def V6(ops:Array Oper)(j i:Nat)(o:Oper)(ts:List ka):Prop:=
 (∃t,o.op=.alloc t)\/(∃t y,o.op=.box t y)\/(∃t s g,o.op=.load t (.tmp s)/\wJ ops j i s=true/\((o.guard=none/\g=none)\/∃q want d,o.guard=some (q,want)/\(ops.toList[q]?).bind (·.dst)=some d/\wJ ops j i d=true/\g=some (d,want))/\(true,s,g)∈ts)\/
  qO o.op=true\/∃s,lenOf o.op=some s/\wJ ops j i s=true/\(false,s,none)∈ts
def V6.more{ts:List ka}{x:ka}(h:V6 ops j i o ts):V6 ops j i o (x::ts):=by rcases h with h|h|⟨t,s,g,F,H,h3,h4⟩|h|⟨s,F,H,h3⟩;exact .inl h;exact .inr (.inl h);exact .inr (.inr (.inl ⟨t,s,g,F,H,h3,DJ _ h4⟩));exact .inr (.inr (.inr (.inl h)));exact .inr (.inr (.inr (.inr ⟨s,F,H,DJ _ h3⟩)))
theorem hZ{bf:Array Nat}{ops:Array Oper}{j:Nat}:∀(l:List (Oper×Nat)) (ts:List ka),
  l.foldr (Qq bf ops j) (some [])=some ts->∀o i,(o,i)∈l->(i==j ||fP o.op ||(bf.getD j 0).testBit i ||(bf.getD i 0).testBit j)\/(Nat.blt i j/\V6 ops j i o ts)
 |[],ts,_,o,i,hm=>by cases hm
 |(o',i')::l,ts,h,o,i,hm=>by rw[List.foldr_cons]at h;unfold Qq at h;dsimp only at h;cases hc:(i'==j ||fP o'.op ||(bf.getD j 0).testBit i' ||(bf.getD i' 0).testBit j)with|true=>rw[hc]at h;simp only[gc]at h;(rcases VM.1 hm with e|hm;grind;exact hZ l ts h o i hm)|false=>rw[hc]at h;simp only[I2]at h;cases hb:Nat.blt i' j with|false=>rw[hb]at h;cases h|true=>rw[hb]at h;simp only[gc]at h;split at h;rename_i t F;rcases VM.1 hm with e|hm;cases e;exact .inr ⟨hb,.inl ⟨t,F⟩⟩;exact hZ l ts h o i hm;rename_i t y F;rcases VM.1 hm with e|hm;cases e;exact .inr ⟨hb,.inr (.inl ⟨t,y,F⟩)⟩;exact hZ l ts h o i hm;rename_i t s F;(cases hs:wJ ops j i' s with|false=>rw[hs]at h;cases h|true=>rw[hs]at h;simp only[gc]at h;cases hg:o'.guard with|none=>rw[hg]at h;simp only[R7]at h;obtain⟨H,h,rfl⟩:=h;(rcases VM.1 hm with e|hm;cases e;exact .inr ⟨hb,.inr (.inr (.inl ⟨t,s,none,F,hs,.inl ⟨hg,rfl⟩,Mq⟩))⟩;exact(hZ l H h o i hm).imp id (λ⟨q1,q2⟩=>⟨q1,q2.more⟩))|some gw=>have⟨q,want⟩:=gw;rw[hg]at h;dsimp only at h;cases hd:(ops.toList[q]?).bind (·.dst)with|none=>rw[hd]at h;cases h|some d=>rw[hd]at h;dsimp only at h;cases b0:wJ ops j i' d with|false=>rw[b0]at h;cases h|true=>rw[b0]at h;simp only[gc,R7]at h;obtain⟨H,h,rfl⟩:=h;rcases VM.1 hm with e|hm;cases e;exact .inr ⟨hb,.inr (.inr (.inl ⟨t,s,some (d,want),F,hs,.inr ⟨q,want,d,hg,hd,b0,rfl⟩,Mq⟩))⟩;exact(hZ l H h o i hm).imp id (λ⟨q1,q2⟩=>⟨q1,q2.more⟩));cases d0:qO o'.op with|true=>rw[d0,gc]at h;(rcases VM.1 hm with e|hm;cases e;exact .inr ⟨hb,.inr (.inr (.inr (.inl d0)))⟩;exact hZ l ts h o i hm)|false=>rw[d0,I2]at h;split at h;rename_i s F;(cases hs:wJ ops j i' s with|false=>rw[hs]at h;cases h|true=>rw[hs]at h;simp only[gc,R7]at h;obtain⟨H,h,rfl⟩:=h;rcases VM.1 hm with e|hm;cases e;exact .inr ⟨hb,.inr (.inr (.inr (.inr ⟨s,F,hs,Mq⟩)))⟩;exact(hZ l H h o i hm).imp id (λ⟨q1,q2⟩=>⟨q1,q2.more⟩));cases h
theorem wh{K:KT}{b:Nat}:∀{ts:List ka} {c:Bool} {t:Nat} {g:Option (Nat×Bool)},mR K b ts->(c,t,g)∈ts->
  match c,g with|true,none=>mQ (K.get t) b|true,some (d,want)=>Gt (K.get d) want (mQ (K.get t) b)|false,_=>Jn (K.get t)
 |(c',t',F)::ts,c,t,g,h,hm=>by rcases VM.1 hm with e|hm;(cases e;cases c' with|false=>exact h.1|true=>cases F with|none=>exact h.1|some p=>have⟨d,want⟩:=p;exact h.1);have H:mR K b ts:=(by cases c' with|false=>exact h.2|true=>cases F with|none=>exact h.2|some p=>have⟨d,want⟩:=p;exact h.2);exact wh H hm
def MQ{ts:List ka}(h:Qp ops j=some ts)(ha:mR K b ts)(hk:Kn K T):qF ops j b T:=by refine SB.2 λx hx=>?_;have⟨o,i⟩:=x;dsimp only;rcases hZ _ _ h o i hx with h1|⟨h1,H⟩;rw[h1];rfl;rcases H with⟨t,H⟩|⟨t,y,H⟩|⟨t,s,g,H,h3,h4,h5⟩|H|⟨s,H,h3,h5⟩;rw[h1,H];simp;rw[h1,H];simp;have h3:(ops.toList.zipIdx.all λ(q,k)=> !(Nat.ble i k && Nat.blt k j && q.dst==some s)):=h3;have b0:=wh ha h5;have g0:mQ (K.get s) b->∃a:Addr,jh T s=.pointer (some a)/\(a.block==b)=false:=λF=>(by unfold mQ at F;split at F;rename_i a hg;exact⟨a,by simp only[jh,hk s _ hg,At,KV.val],by simpa using F⟩;exact F.elim);rcases h4 with⟨h4,rfl⟩|⟨q,want,d,h4,h6,h7,rfl⟩;grind;have F:Gt (K.get d) want (mQ (K.get s) b):=b0;have h7:(ops.toList.zipIdx.all λ(q,k)=> !(Nat.ble i k && Nat.blt k j && q.dst==some d)):=h7;have hw:cd ops T o=false\/mQ (K.get s) b:=(by unfold cd;rw[h4];dsimp only;rw[h6];dsimp only;unfold Gt at F;split at F;rename_i b' hg;have e:jh T d=.bool b':=(by simp only[jh,hk d _ hg,At,KV.val]);rw[e];dsimp only;(cases d0:b'==want with|false=>exact .inl rfl|true=>rw[d0]at F;exact .inr F);rename_i hg;have e:jh T d=undef:=(by simp only[jh,hk d _ hg,At,KV.val]);rw[e];exact .inl rfl;exact F.elim);grind;have:∃c,o.op=.call c:=(by cases ho:o.op <;>rw[ho]at H <;>first|exact⟨_,rfl⟩|cases H);grind;have:∃c,o.op=.call c:=(by cases ho:o.op <;>rw[ho]at H <;>first|exact⟨_,rfl⟩|cases H);have⟨c,hc⟩:=this;have h3:(ops.toList.zipIdx.all λ(q,k)=> !(Nat.ble i k && Nat.blt k j && q.dst==some s)):=h3;have F:Jn (K.get s):=wh ha h5;rw[h1,hc];rw[hc]at H;rw[H];dsimp only;rw[h3];have e0:∀r,jh T s≠.map r:=(by intro r hr;cases hg:K.get s with|none=>rw[hg]at F;exact F.elim|some k=>have e2:jh T s=k.val:=(by simp only[jh,hk s _ hg,At]);rw[hg]at F;cases k with|u=>rw[hr]at e2;cases e2|v x=>rw[hr]at e2;subst e2;exact F.elim);cases hq:jh T s <;>first|exact absurd hq (e0 _)|simp
def zp{o:Op}{P:O->M->Nat->Prop}{v:O}{f:M->Option (O×M)}
  (F:∀n m,dJ o E (bT E X n) T m=f m) (hl:bX m f) (h1:f (m.wl m.n)=some (v,m1)) (H:VN br (m.n<=m1.low) (P v m1 (min lo m1.low))):WN E X o br pt K T m lo P:=by have⟨hc,H⟩:=Bb.1 H;refine⟨v,m1,m1.low,H,hl.Og _ h1,λhb=> .inl (hc hb),0,λn _ l b0=>?_⟩;rw[F,hl.eq l b0,h1];rfl
def yw{o:Op}{P:O->M->Nat->Prop}(h:WT E (aH E X) o br pt K m lo P)(hk:Kn K T)(H:lo<=m.n):WN E X o br pt K T m lo P:=by
 cases o <;>dsimp only[WT]at h;(case move x=>have⟨x',hx,h⟩:=bC.1 h;exact .aX H h λn l=>by simp only[dJ,Fy,bD hk hx]);(case assign x=>have⟨x',hx,h⟩:=bC.1 h;exact .aX H h λn l=>by simp only[dJ,Fy,bD hk hx]);(case pick c a b=>have⟨c',hc,h⟩:=bC.1 h;obtain⟨q,rfl,h⟩:=AY.1 h;(cases q with|true=>have⟨x',hx,h⟩:=bC.1 h;exact .aX H h λn l=>by simp only[dJ,sJ,bD hk hc,bD hk hx,gc]|false=>have⟨x',hx,h⟩:=bC.1 h;exact .aX H h λn l=>by simp only[dJ,sJ,bD hk hc,bD hk hx,I2]));(case alloc t=>have⟨z,hz,h⟩:=bC.1 h;exact .push H h (Nc _) λn l=>by simp only[dJ,wW,hz];rfl);(case box t x=>have⟨x',hx,h⟩:=bC.1 h;exact .push H h (Nc _) λn l=>by simp only[dJ,QF,bD hk hx];rfl);(case build t ps=>have⟨h0,hp,h⟩:=bC.1 h;have⟨v,F,h⟩:=bC.1 h;exact .aX H h λn l=>by simp only[dJ,uj,vU hk hp,F]);(case buildSlice t k ps=>have⟨h0,hp,h⟩:=bC.1 h;have⟨v,m1,F,h⟩:=oL.1 h;exact .push H h (tI F 0).2 λn l=>by simp only[dJ,qL,vU hk hp,(tI F l).1]);(case insert t x k y=>have⟨x',hx,h⟩:=bC.1 h;have⟨k',b0,h⟩:=bC.1 h;have⟨y',hy,h⟩:=bC.1 h;have⟨m1,b,F,hQ⟩:=oL.1 h;have⟨hc,hP⟩:=Bb.1 hQ;unfold lX at F;split at F;rename_i r;split at F;rename_i m2 hu;cases F;refine⟨undef,m1,b,hP,by rw[(lW hu 0).2];exact R8 _,λhb=> .inl (hc hb),0,λn _ l hl=>?_⟩;simp only[dJ,ib,bD hk hx,bD hk b0,bD hk hy,(lW hu l).1];cases F;cases F);(case load t a=>have⟨a',ha,h⟩:=bC.1 h;have⟨v,F,hP⟩:=bC.1 h;unfold aC at F;split at F;exact .aX H hP λn l=>(by simp only[dJ,vF,bD hk ha,Cu,F]);cases F);(case store t a x=>have⟨a',ha,h⟩:=bC.1 h;have⟨x',hx,h⟩:=bC.1 h;have⟨m1,b,F,hQ⟩:=oL.1 h;have⟨hc,hP⟩:=SP.1 hQ;unfold bh at F;split at F;rename_i ad _;split at F;rename_i m2 hu;cases F;refine⟨undef,m1,ad.block,hP,by rw[(zH hu 0).2];exact R8 _,λhb=>(hc hb).imp id (λ⟨ts,h1,h2⟩=>⟨ts,h1,h2,by simp only[iN,bD hk ha]⟩),0,λn _ l hl=>?_⟩;simp only[dJ,qK,bD hk ha,bD hk hx,(zH hu l).1];cases F;cases F);(case nilCheck x=>have⟨x',hx,h⟩:=bC.1 h;have⟨v,F,h⟩:=bC.1 h;unfold FC at F;split at F;cases F;exact .aX H h λn l=>(by simp only[dJ,iV,bD hk hx]);cases F;exact .aX H h λn l=>(by simp only[dJ,iV,bD hk hx]);cases F);(case binOp op t x y _=>have⟨x',hx,h⟩:=bC.1 h;have⟨y',hy,h⟩:=bC.1 h;have⟨v,F,h⟩:=bC.1 h;exact .aX H h λn l=>by simp only[dJ,En,bD hk hx,bD hk hy,F]);(case unOp op t x=>have⟨x',hx,h⟩:=bC.1 h;have⟨v,F,h⟩:=bC.1 h;exact .aX H h λn l=>by simp only[dJ,MY,bD hk hx,F]);(case convert s d x=>have⟨x',hx,h⟩:=bC.1 h;have⟨v,F,h⟩:=bC.1 h;exact .aX H h λn l=>by simp only[dJ,Jj,bD hk hx,ZY,F]);(case makeFunc f a b=>have⟨a',ha,h⟩:=bC.1 h;have⟨b',hb,h⟩:=bC.1 h;split at h;exact .aX H h λn l=>(by simp only[dJ,jK,jc hk ha,jc hk hb]);exact h.elim);(case makeMap t r=>(cases r with|none=>exact .push (m1:=m.push (.map [] 0)) H h (Nc _) λn l=>by simp only[dJ,uf];rfl|some r=>exact h.elim));(case makeSlice t x y=>have⟨x',hx,h⟩:=bC.1 h;have⟨y',hy,h⟩:=bC.1 h;have⟨v,m1,F,h⟩:=oL.1 h;exact .push H h (uU F 0).2 λn l=>by simp only[dJ,zN,bD hk hx,bD hk hy,(uU F l).1])
 (case slice t x a b c=>have⟨x',hx,h⟩:=bC.1 h;have⟨a',ha,h⟩:=bC.1 h;have⟨b',hb,h⟩:=bC.1 h;have⟨c',hc,h⟩:=bC.1 h;have⟨v,F,h⟩:=bC.1 h;exact .aX H h λn l=>by simp only[dJ,Fx,bD hk hx,zl hk ha,zl hk hb,zl hk hc,MB,F]);(case fieldAddr s x f=>have⟨x',hx,h⟩:=bC.1 h;have⟨v,F,h⟩:=bC.1 h;exact .aX H h λn l=>by simp only[dJ,jR,bD hk hx,F]);(case field t x f=>have⟨x',hx,h⟩:=bC.1 h;have⟨v,F,h⟩:=bC.1 h;exact .aX H h λn l=>by simp only[dJ,uh,bD hk hx,F]);(case indexAddr t x i=>have⟨x',hx,h⟩:=bC.1 h;have⟨i',hi,h⟩:=bC.1 h;have⟨v,F,h⟩:=bC.1 h;exact .aX H h λn l=>by simp only[dJ,jQ,bD hk hx,bD hk hi,F]);(case index t x i=>have⟨x',hx,h⟩:=bC.1 h;have⟨i',hi,h⟩:=bC.1 h;have⟨v,F,h⟩:=bC.1 h;exact .aX H h λn l=>by simp only[dJ,ug,bD hk hx,bD hk hi,F]);(case lookup t x i ok=>have⟨x',hx,h⟩:=bC.1 h;have⟨i',hi,h⟩:=bC.1 h;have⟨v,F,h⟩:=bC.1 h;exact .aX H h λn l=>by simp only[dJ,Cf,bD hk hx,bD hk hi,Jt,F]);(case mapUpdate t x k y=>have⟨x',hx,h⟩:=bC.1 h;have⟨k',b0,h⟩:=bC.1 h;have⟨y',hy,h⟩:=bC.1 h;have⟨m1,b,F,hQ⟩:=oL.1 h;have⟨hc,hP⟩:=Bb.1 hQ;unfold lX at F;split at F;rename_i r;split at F;rename_i m2 hu;cases F;refine⟨undef,m1,b,hP,by rw[(lW hu 0).2];exact R8 _,λhb=> .inl (hc hb),0,λn _ l hl=>?_⟩;simp only[dJ,ib,bD hk hx,bD hk b0,bD hk hy,(lW hu l).1];cases F;cases F);(case mapEntry t x k=>have⟨x',hx,h⟩:=bC.1 h;have⟨k',b0,h⟩:=bC.1 h;have⟨v,m1,F,h⟩:=oL.1 h;exact zp (f:=λm=>jo E m t x' k') (λn m=>by simp only[dJ,vE,bD hk hx,bD hk b0]) DD F h);(case entryStore t x s y=>have⟨x',hx,h⟩:=bC.1 h;have⟨s',i0,h⟩:=bC.1 h;have⟨y',hy,h⟩:=bC.1 h;have⟨m1,F,h⟩:=bC.1 h;refine zp (v:=undef) (m1:=m1) (f:=λm=>(ff m x' s' y').map λm=>(undef,m)) (λn m=>?_) Aw (by rw[F];rfl) h;simp only[dJ,mZ,bD hk hx,bD hk i0,bD hk hy];cases ff m x' s' y' <;>rfl);(case typeAssert x s t ok=>have⟨x',hx,h⟩:=bC.1 h;have⟨v,F,hP⟩:=bC.1 h;refine .aX H hP λn l=>?_;show sK x t ok E (bT E X n) T (m.wl l)=_;unfold sK;rw[bD hk hx];unfold Ij at F;split at F;dsimp only;(cases ok with|false=>cases F|true=>simp only[gc]at F⊢;cases hz:gX E t with|none=>rw[hz]at F;cases F|some z=>rw[hz]at F;cases F;rfl);rename_i t' cs;dsimp only;(cases hc:(ok && (Nat.beq t' t && cs.toList.isEmpty))with|false=>rw[hc]at F;cases F|true=>rw[hc]at F;simp only[gc]at F⊢;split at F;rename_i ti j0;rw[j0];dsimp only;(cases hd:ti.d with|struct fs=>rw[hd]at F;cases F;rfl|_=>rw[hd]at F;cases F);cases F);cases F);(case extract x i=>have⟨x',hx,h⟩:=bC.1 h;have⟨v,F,hP⟩:=bC.1 h;unfold mz at F;split at F;exact .aX H hP λn l=>(by simp only[dJ,lE,bD hk hx,F]);cases F)
 (case call c=>split at h;rename_i f hf;have⟨f',h1,h⟩:=bC.1 h;obtain⟨g,fi,ca,rfl,h⟩:=sL.1 h;have⟨args,h2,v,m1,b,⟨e0,_,n0,hc⟩,h⟩:=bC.1 h;have hh:(br->m.n<=b\/∃ts,pt=some ts/\mR K b ts/\iN m T (.call c)=some b)/\P v m1 (min lo b):=(by cases hs:Ko c with|false=>rw[hs,I2]at h;have⟨d0,hP⟩:=Bb.1 h;exact⟨λhb=> .inl (d0 hb),hP⟩|true=>rw[hs,gc]at h;have⟨d0,hP⟩:=SO.1 h;refine⟨λhb=>(d0 hb).imp id λ⟨ts,x1,x2,x3⟩=>⟨ts,x1,x2,?_⟩,hP⟩;have hz:LD m args=some b:=x3;exact DU hk hs h2 hz);have⟨d0,hP⟩:=hh;refine⟨v,m1,b,hP,e0,d0,n0,λn hn l hl=>?_⟩;simp only[dJ,nV,hf,bD hk h1,jc hk h2,hc n hn l hl];rename_i b hb;have⟨args,h2,h⟩:=bC.1 h;have g0:∀n m,dJ (.call c) E (bT E X n) T m=aR E m b c.argTypes.toList args:=λn m=>(by simp only[dJ,nV,hb,jc hk h2]);have aX:(b=.len\/b=.cap\/b=.min\/b=.max)->(dh (aR E m b c.argTypes.toList args) λv _=>P v m lo)->WN E X (.call c) br pt K T m lo P:=λk0 h=>(by have⟨v,m1,F,h⟩:=oL.1 h;exact .aX H h λn l=>by rw[g0];exact DR k0 F l);have gen:(dh (aR E (m.wl m.n) b c.argTypes.toList args) λv m1=>VN br (m.n<=m1.low) (P v m1 (min lo m1.low)))->WN E X (.call c) br pt K T m lo P:=λh=>(by have⟨v,m1,F,h⟩:=oL.1 h;exact zp g0 Gi F h);unfold vopB at h;split at h;exact aX (.inl rfl) h;exact aX (.inr (.inl rfl)) h;exact aX (.inr (.inr (.inl rfl))) h;exact aX (.inr (.inr (.inr rfl))) h;exact gen h;exact h.elim);all_goals exact h.elim
def qz{b:Bool}(h:cd ops T o=b){m:M}:cd ops (Fr.T ⟨T,m⟩) o=b:=h
def oF{P S:KT->Prop}(h:D4 ops K o P S)(H:Kn K T):∃K',Kn K' T/\((cd ops T o/\P K')\/(cd ops T o=false/\S K')):=by unfold D4 at h;unfold cd;split at h;grind;rename_i j want hg;rw[hg];dsimp only;split at h;rename_i d hd;rw[hd];dsimp only;split at h;rename_i v hv;obtain⟨b,rfl,h⟩:=AY.1 h;have e:jh T d=.bool b:=(by simp only[jh,H d _ hv,At,KV.val]);rw[e];have F:=H.again hv;(cases b with|true=>(cases want with|true=>exact⟨_,F,.inl ⟨rfl,h⟩⟩|false=>exact⟨_,F,.inr ⟨rfl,h⟩⟩)|false=>cases want with|true=>exact⟨_,F,.inr ⟨rfl,h⟩⟩|false=>exact⟨_,F,.inl ⟨rfl,h⟩⟩);rename_i hv;have e:jh T d=undef:=(by simp only[jh,H d _ hv,At,KV.val]);rw[e];exact⟨K,H,.inr ⟨rfl,h⟩⟩;grind;grind
theorem vq{d:Bool}{ops:Array Oper}:∀(l:List Oper) (j:Nat) (s:St) (P:St->Prop),OE E (aH E X) d ops l j s P->∀T,Kn s.K T->s.lo<=s.m.n->
  ∃H T',P H/\Kn H.K T'/\s.m.n<=H.m.n/\H.lo<=H.m.n/\∃n0,∀n,n0<=n->(bif d then qk E (bT E X n) ops l j ⟨T,s.m.wl s.lo⟩else Cd E (bT E X n) ops l ⟨T,s.m.wl s.lo⟩)=some ⟨T',H.m.wl H.lo⟩
 |[],j,s,P,h,T,hk,b0=>⟨s,T,h,hk,R8 _,b0,0,λn _=>by cases d <;>rfl⟩
 |o::rest,j,s,P,h,T,hk,b0=>by unfold OE at h;rw[PF]at h;obtain⟨K1,hk,⟨hw,h⟩|⟨hw,h⟩⟩:=oF h hk;have⟨v,m1,w,e0,l0,j0,n1,i0⟩:=yw h hk b0;obtain⟨H,T',hP,g0,F,d0,n2,hr⟩:=vq rest (j+1) _ P e0 (put T o.dst v) (hk.put _ (.v v)) (by show min s.lo w<=m1.n;omega);dsimp only at F hr;refine⟨H,T',hP,g0,Z,d0,max n1 n2,λn hn=>?_⟩;have e2:=hr n Z;(cases d with|false=>rw[I2]at e2⊢;rw[nw,qz hw];dsimp only[gc];rw[i0 n Z s.lo b0];exact e2|true=>rw[gc]at e2⊢;rw[lK,qz hw];dsimp only[gc];have k0:dJ o.op E (bT E X n) T {s.m.wl s.lo with low:=(s.m.wl s.lo).n}=some (v,m1.wl (min s.m.n w)):=i0 n Z s.m.n (R8 _);rw[k0];dsimp only;have h0:(Nat.ble (s.m.wl s.lo).n (m1.wl (min s.m.n w)).low ||(gC ops j ||Dz ops j (s.m.wl s.lo) T o.op)):=(by cases hb:gC ops j with|true=>rw[TY,NS]|false=>rcases j0 (by rw[hb];rfl)with this|⟨ts,h1,h2,h3⟩;have:Nat.ble (s.m.wl s.lo).n (m1.wl (min s.m.n w)).low:=S0 (by show s.m.n<=min s.m.n w;omega);rw[this];rfl;rw[hb]at h1;have:Dz ops j (s.m.wl s.lo) T o.op:=(by unfold Dz;have h3:iN (s.m.wl s.lo) T o.op=some w:=h3;rw[h3];exact MQ h1 h2 hk);rw[this];simp);rw[h0];have e3:m1.wl (min s.lo w)={m1.wl (min s.m.n w)with low:=min (s.m.wl s.lo).low (m1.wl (min s.m.n w)).low}:=(by show m1.wl (min s.lo w)=m1.wl (min s.lo (min s.m.n w));congr 1;omega);rw[e3]at e2;exact e2);obtain⟨H,T',hP,g0,F,d0,n2,hr⟩:=vq rest (j+1) _ P h (put T o.dst undef) (hk.put _ .u) b0;refine⟨H,T',hP,g0,F,d0,n2,λn hn=>?_⟩;have e2:=hr n hn;cases d with|false=>rw[I2]at e2⊢;rw[nw,qz hw];exact e2|true=>rw[gc]at e2⊢;rw[lK,qz hw];exact e2
def V.mono{c:Code}{Q R:Ex->St->Prop}(h:V E X c s Q)(H:∀e s,Q e s->R e s):V E X c s R:=λT hk F=>by have⟨e,s',T',h1,h2⟩:=h T hk F;exact⟨e,s',T',H _ _ h1,h2⟩
def V.seq{a b:Code}{Q:Ex->St->Prop}(h:V E X a s λe s=>e.Of (V E X b s Q) (Q e s)):V E X (.seq a b) s Q:=λT hk g0=>by have⟨e,s1,T1,h1,H,d0,F,n1,b0⟩:=h T hk g0;cases e with|normal=>have⟨e,s2,T2,h2,h0,j0,e0,n2,i0⟩:=h1 T1 H F;exact⟨e,s2,T2,h2,h0,Z,e0,max n1 n2,λn hn=>by simp only[bF,b0 n Z,i0 n Z]⟩|exit id=>exact⟨_,s1,T1,h1,H,d0,F,n1,λn hn=>by simp only[bF,b0 n hn]⟩|ret=>exact⟨_,s1,T1,h1,H,d0,F,n1,λn hn=>by simp only[bF,b0 n hn]⟩
theorem V.loopG{c:Code}{Q:Ex->St->Prop}{γ:Type}(μ:γ->Nat)(A:γ->Tr O->M->Nat->Prop)(g0:γ)
  (h0:∀T,Kn s.K T->A g0 T s.m s.lo)
  (d0:∀g T m lo,A g T m lo->lo<=m.n->∃e H T',(e.Of (∃g',μ g'<μ g/\A g' T' H.m H.lo) (Q e H))/\Kn H.K T'/\m.n<=H.m.n/\H.lo<=H.m.n/\∃n0,∀n,n0<=n->
   bF E (bT E X n) n c ⟨T,m.wl lo⟩=some (e,⟨T',H.m.wl H.lo⟩)):
  V E X (.loop c) s Q:=by
 have key:∀k g,μ g<=k->∀T m lo,A g T m lo->lo<=m.n->∃e H T',Q e H/\Kn H.K T'/\m.n<=H.m.n/\H.lo<=H.m.n/\∃n0,∀n,n0<=n->∀j,k+1<=j->
   jS (bF E (bT E X n) n c) j ⟨T,m.wl lo⟩=some (e,⟨T',H.m.wl H.lo⟩):=by
  intro k;induction k with
  |zero=>
   intro g hg T m lo hA e0;have⟨e,s1,T1,hQ,i0,b0,F,n1,hr⟩:=d0 g T m lo hA e0;cases e with
   |normal=>have⟨g',l0,_⟩:=hQ;omega
   |exit id=>exact⟨_,s1,T1,hQ,i0,b0,F,n1,λn hn j hj=>by
    obtain⟨j,rfl⟩:∃j',j=j'+1:=⟨j-1,Z⟩
    simp only[jS,hr n hn]⟩
   |ret=>exact⟨_,s1,T1,hQ,i0,b0,F,n1,λn hn j hj=>by
    obtain⟨j,rfl⟩:∃j',j=j'+1:=⟨j-1,Z⟩
    simp only[jS,hr n hn]⟩
  |succ k ih=>
   intro g hg T m lo hA e0;have⟨e,s1,T1,hQ,i0,b0,F,n1,hr⟩:=d0 g T m lo hA e0;cases e with
   |normal=>
    have⟨g',l0,o0⟩:=hQ;obtain⟨e,s2,T2,p0,q0,r0,j0,n2,s0⟩:=ih g' Z T1 s1.m s1.lo o0 F;refine⟨e,s2,T2,p0,q0,Xp b0 r0,j0,max n1 n2,λn hn j hj=>?_⟩;obtain⟨j,rfl⟩:∃j',j=j'+1:=⟨j-1,Z⟩
    simp only[jS,hr n Z,s0 n Z j Z]
   |exit id=>exact⟨_,s1,T1,hQ,i0,b0,F,n1,λn hn j hj=>by
    obtain⟨j,rfl⟩:∃j',j=j'+1:=⟨j-1,Z⟩
    simp only[jS,hr n hn]⟩
   |ret=>exact⟨_,s1,T1,hQ,i0,b0,F,n1,λn hn j hj=>by
    obtain⟨j,rfl⟩:∃j',j=j'+1:=⟨j-1,Z⟩
    simp only[jS,hr n hn]⟩
 intro T hk e0;obtain⟨e,H,T',hQ,u0,hn,k0,n0,hr⟩:=key (μ g0) g0 (R8 _) T s.m s.lo (h0 T hk) e0;exact⟨e,H,T',hQ,u0,hn,k0,max n0 (μ g0+1),λn hn=>by simp only[bF,hr n Z n Z]⟩
def nu(T:Tr O)(dst:Option Tmp)(v:O)(t:Nat)(h:∀d,dst=some d->d≠t):(put T dst v).get t=T.get t:=by cases dst with|none=>rfl|some d=>simp only[put,Tr.cF];rw[ND (λe=>h d rfl e.symm)]
theorem vD{call:aF}{ops:Array Oper}{t:Nat}:∀(l:List Oper) (fr F:Fr),Cd E call ops l fr=some F->(∀o∈l,∀d,o.dst=some d->d≠t)->F.T.get t=fr.T.get t
 |[],fr,F,h,_=>by cases h;rfl
 |o::rest,fr,F,h,hd=>by have hr:=λo' H=>hd o' (DJ _ H);have h0:=hd o Mq;rw[nw]at h;cases hw:cd ops fr.T o with|true=>rw[hw,gc]at h;split at h;rw[vD rest _ _ h hr];exact nu _ _ _ _ h0;cases h|false=>rw[hw,I2]at h;rw[vD rest _ _ h hr];exact nu _ _ _ _ h0
theorem tC{call:aF}{ops:Array Oper}{t:Nat}:∀(l:List Oper) (j:Nat) (fr F:Fr),qk E call ops l j fr=some F->(∀o∈l,∀d,o.dst=some d->d≠t)->F.T.get t=fr.T.get t
 |[],j,fr,F,h,_=>by cases h;rfl
 |o::rest,j,fr,F,h,hd=>by have hr:=λo' H=>hd o' (DJ _ H);have h0:=hd o Mq;rw[lK]at h;cases hw:cd ops fr.T o with|true=>rw[hw,gc]at h;split at h;rename_i v m _;(cases hb:(Nat.ble fr.m.n m.low ||(gC ops j ||Dz ops j fr.m fr.T o.op))with|true=>rw[hb,gc]at h;rw[tC rest _ _ _ h hr];exact nu _ _ _ _ h0|false=>rw[hb,I2]at h;cases h);cases h|false=>rw[hw,I2]at h;rw[tC rest _ _ _ h hr];exact nu _ _ _ _ h0
theorem zO{body:Fr->Option (Ex×Fr)}{t:Nat}(H:∀fr e F,body fr=some (e,F)->F.T.get t=fr.T.get t):∀(n:Nat) (fr:Fr) (e:Ex) (F:Fr),jS body n fr=some (e,F)->F.T.get t=fr.T.get t
 |0,_,_,_,h=>by cases h
 |n+1,fr,e,F,h=>by unfold jS at h;split at h;rename_i b0 h1;rw[zO H n _ _ _ h,H _ _ _ h1];grind
theorem eh{call:aF}{n t:Nat}:∀(c:Code) (fr:Fr) (e:Ex) (F:Fr),bF E call n c fr=some (e,F)->t∉assigned c->F.T.get t=fr.T.get t
 |.skip,fr,e,F,h,_=>by cases h;rfl
 |.label _,fr,e,F,h,_=>by cases h;rfl
 |.exit id,fr,e,F,h,_=>by cases h;rfl
 |.ret,fr,e,F,h,_=>by cases h;rfl
 |.goto _,fr,e,F,h,_=>by cases h
 |.refuse _,fr,e,F,h,_=>by cases h
 |.scope c,fr,e,F,h,H=>by simp only[bF]at h;exact eh c _ _ _ h H
 |.region id ops d,fr,e,F,h,H=>by have hd:∀o∈ops.toList,∀d,o.dst=some d->d≠t:=λo ho d hd he=>H (Ry.2 ⟨o,ho,by rw[hd,he]⟩);(cases d with|true=>simp only[bF,gc]at h;(cases hq:qk E call ops ops.toList 0 fr with|none=>rw[hq]at h;cases h|some b0=>rw[hq]at h;cases h;exact tC _ _ _ _ hq hd)|false=>simp only[bF,I2]at h;cases hq:Cd E call ops ops.toList fr with|none=>rw[hq]at h;cases h|some b0=>rw[hq]at h;cases h;exact vD _ _ _ hq hd)
 |.seq a b,fr,e,F,h,H=>by simp only[assigned,IF,not_or]at H;simp only[bF]at h;split at h;rename_i b0 h1;rw[eh b _ _ _ h H.2,eh a _ _ _ h1 H.1];exact eh a _ _ _ h H.1
 |.cond c x y,fr,e,F,h,H=>by simp only[assigned,IF,not_or]at H;simp only[bF]at h;split at h;rename_i b _;(cases b with|true=>exact eh x _ _ _ h H.1|false=>exact eh y _ _ _ h H.2);cases h
 |.block id c,fr,e,F,h,H=>by simp only[bF]at h;split at h;rename_i d0 b0 h1;have:=eh c _ _ _ h1 H;(cases hb:Nat.beq d0 id with|true=>rw[hb]at h;cases h;exact this|false=>rw[hb]at h;cases h;exact this);exact eh c _ _ _ h H
 |.loop c,fr,e,F,h,H=>by simp only[bF]at h;exact zO (λfr e F h=>eh c fr e F h H) _ _ _ _ h
 |.rangeFunc g ps a b,fr,e,F,h,H=>by simp only[bF]at h;grind
theorem jN:∀(ts:List Nat) (K:KT) {t:Nat} {k:KV},(forget K ts).get t=some k->t∉ts/\K.get t=some k
 |[],K,t,k,h=>⟨co,h⟩
 |a::ts,K,t,k,h=>by have⟨H,F⟩:=jN ts (K.del a) h;rw[KT.Vl]at F;grind
end
section
variable{E:Env}{X:aF}
def TV(T:Tr O):List Nat->ν->Prop
 |[],_=>True
 |t::ts,F=>match F with
  |v::r=>T.get t=some v/\TV T ts r
  |[]=>False
theorem wg{T:Tr O}:∀(ts:List Nat) (vs:ν) (K:KT) (f:KT->Prop),Kn K T->TV T ts vs->Ih (aH E X) ts vs K f->∃H,Kn H T/\f H
 |[],_,K,f,F,_,h=>⟨K,F,h⟩
 |t::ts,vs,K,f,F,hv,h=>by unfold Ih at h;obtain⟨v,r,rfl,h⟩:=OI.1 h;exact wg ts r _ f (F.set hv.1) hv.2 h
theorem tO{K:KT}{T:Tr O}(hk:Kn K T):∀(ts:List Nat) (vs:ν),yx K ts=some vs->TV T ts vs
 |[],_,_=>trivial
 |t::ts,vs,h=>by unfold yx at h;split at h;rename_i v hv;split at h;rename_i F H;cases h;exact⟨hk _ _ hv,tO hk ts F H⟩;cases h;cases h
theorem Eg{T:Tr O}:∀(ps:List Tmp) (args:ν) (K:KT) (f:KT->Prop) (T:Tr O),Kn K T->LG (aH E X) ps args K f->args.length=ps.length/\∃H,Kn H (yG T (ps.zip args))/\f H
 |[],args,K,f,T,F,h=>by(cases args with|nil=>exact⟨rfl,K,F,h⟩|cons v r=>exact(h:False).elim)
 |p::ps,args,K,f,T,F,h=>by obtain⟨v,r,rfl,h⟩:=OI.1 h;obtain⟨h1,h2⟩:=Eg (T:=T) ps r _ f (T.set p v) (F.put (some p) (.v v)) h;exact⟨by simp[h1],h2⟩
theorem V.rangeFunc{gv:Operand}{ps:Array Tmp}{a b:Code}{Q:Ex->St->Prop}{O0 P0:Nat}{gf:Fn}(ha:∀s Q,Ah E (aH E X) a O0 s Q->V E X a s Q)(hb:∀s Q,Ah E (aH E X) b P0 s Q->V E X b s Q)
  (hf:mV s.K gv=some (.func gf fi ca))
  (h:RF E X gf fi.toList ca.toList s.m s.lo (λargs m1 Qb=>LG (aH E X) ps.toList args s.K λK1=>Ah E (aH E X) a O0 ⟨K1,m1,m1.n⟩ λe s1=>e.Of (Wo s.m.n m1 s1.m λm2=>Ah E (aH E X) b P0 ⟨s1.K,m2,min s1.lo s.m.n⟩ λe2 s2=>Qb m2 e2 s2.m s2.lo) False) (λm lo=>Q .normal ⟨s.K,m,lo⟩) ((leaves b).map λe=>(e,λm lo=>Q e ⟨s.K,m,lo⟩))):V E X (.rangeFunc gv ps a b) s Q:=λT hk A1=>by
 obtain⟨fr,xs,Dt,ux,wn,B,⟨fk,rfl⟩,hG,hB,hD,hI,hJ,h0,p0,q0,r0⟩:=h;have hy:(s.m.push (.loop ⟨T,ps,a,b,.ready,none,E.G⟩)).get s.m.n=.loop ⟨T,ps,a,b,.ready,none,E.G⟩:=(by rw[M.kG,UG rfl]);have s0:Ky s.m.n s.m (s.m.push (.loop ⟨T,ps,a,b,.ready,none,E.G⟩)):=⟨Nc _,λc hc _=>by rw[M.kG,ND Z]⟩;have F:∀(m:M) (r:Dm),s.m.n<m.n->Ky s.m.n m (m.set s.m.n (.loop r)):=λm r hm=>⟨R8 _,λc _ u0=>by rw[M.cF _ _ _ _ hm,ND u0]⟩
 have⟨vG,mG,bG,g1,B1,Q0⟩:=hG s.m.n (s.m.n+1) B (λi m=>ux i m/\m.get s.m.n=.loop ⟨T,ps,a,b,.ready,none,E.G⟩) (λm=>∃e:Ex,e≠Ex.normal/\wn e m/\m.get s.m.n=.loop ⟨T,ps,a,b,.done,some e,E.G⟩) (s.m.push (.loop ⟨T,ps,a,b,.ready,none,E.G⟩)) (λi m1 h=>hD i m1 h.1) (λi m1 m2 h he=>⟨hI i m1 m2 h.1 ⟨he.n,λc hc _=>he.get c hc⟩,by rw[he.get _ (M.oh (by rw[h.2];simp)),h.2]⟩)
  (λm1 m2 ⟨e,h1,h2,h3⟩ he=>⟨e,h1,hJ e m1 m2 h2 ⟨he.n,λc hc _=>he.get c hc⟩,by rw[he.get _ (M.oh (by rw[h3];simp)),h3]⟩)
  (OO _) (R8 _) Z
  (λi args mm i1 hx ⟨hi,l0⟩=>by
   obtain⟨hlen,K1,j1,hv⟩:=Eg (T:=T) _ _ _ _ T hk (p0 i args mm i1 hx hi);obtain⟨e1,s1,T1,y0,a1,b1,v1,n1,k1⟩:=ha _ _ hv _ j1 (R8 _);cases e1 with
   |exit id=>exact y0.elim
   |ret=>exact y0.elim
   |normal=>
    have⟨e0,hP⟩:=y0;have g0:s1.m.get s.m.n=.loop ⟨T,ps,a,b,.ready,none,E.G⟩:=by rw[e0 _ (R8 _) Z,l0]
    have i0:s.m.n<s1.m.n:=M.oh (by rw[g0];simp);have l1:=hP (s1.m.set s.m.n (.loop ⟨T,ps,a,b,.busy,none,E.G⟩)) rfl (λc hc=>by rw[M.cF _ _ _ _ i0,ND hc]);obtain⟨e2,s2,T2,⟨G1,o0,A0⟩,w1,c1,y1,n2,o1⟩:=hb _ _ l1 T1 a1 (by show min s1.lo s.m.n<=s1.m.n;omega);have j0:s2.m.get s.m.n=.loop ⟨T,ps,a,b,.busy,none,E.G⟩:=by
     have h:=o0 _ (R8 _) Z;rw[show s2.m.get s.m.n=_ from(match fr,h with |.ob _,h=>h (.inl rfl) |.own _,h=>h.2.1 rfl),M.cF _ _ _ _ i0,UG rfl]
    have H:s.m.n<s2.m.n:=M.oh (by rw[j0];simp);have c1:s1.m.n<=s2.m.n:=c1;have b1:mm.n<=s1.m.n:=b1;have b0:∀(st:LoopState) (pe:Option Ex) (v:O),(match e2 with
       |.normal=>(v,st,pe)=(VT,.ready,none)
       |e=>(v,st,pe)=(P6,.done,some e))->
      Cl E X (.yield s.m.n) args mm (min s2.lo s.m.n) v (s2.m.set s.m.n (.loop ⟨T,ps,a,b,st,pe,E.G⟩)):=by
     intro st pe v hv;refine⟨by show mm.n<=s2.m.n;omega,Z,max n1 n2+1,λn hn l hl=>?_⟩;obtain⟨k,rfl⟩:∃k,n=k+1:=⟨n-1,Z⟩
     have e1:=k1 k Z;have B0:=o1 k Z;have d1:(Nat.beq args.length ps.size && Nat.beq E.G E.G):=by
      have:args.length=ps.size:=by simpa using hlen
      rw[this,Nk,Nk];rfl
     simp only[bT,yN];rw[M.dG,l0];dsimp only;rw[d1];simp only[gc];have e1:bF E (bT E X k) k a {T:=yG T (ps.toList.zip args),m:={mm.wl l with low:=(mm.wl l).n}}=some (.normal,⟨T1,s1.m.wl s1.lo⟩):=e1;rw[e1];dsimp only;rw[M.dG,g0];dsimp only;have B0:bF E (bT E X k) k b {T:=T1,m:=(s1.m.wl s1.lo).set s.m.n (.loop ⟨T,ps,a,b,.busy,none,E.G⟩)}=some (e2,⟨T2,s2.m.wl s2.lo⟩):=B0;rw[B0];dsimp only;rw[M.dG,j0];dsimp only;cases e2 with
     |normal=>cases hv;rfl
     |exit id=>cases hv;rfl
     |ret=>cases hv;rfl
    have d0:∀(r:Dm) c,s.m.n+1<=c->c<mm.n->fr.gen mm (s2.m.set s.m.n (.loop r)) c:=λr c h1 h2=>by
     have h:=o0 c Z h2;have e2:(s2.m.set s.m.n (.loop r)).get c=s2.m.get c:=by rw[M.cF _ _ _ _ H,ND Z]
     have e1:(s1.m.set s.m.n (.loop ⟨T,ps,a,b,.busy,none,E.G⟩)).get c=mm.get c:=by rw[M.cF _ _ _ _ i0,ND Z,e0 c Z h2]
     match fr,h with
     |.ob φ,h=>exact λh3=>by rw[e2,h (.inr (by rw[e1];exact h3)),e1]
     |.own P,⟨hP,_,h⟩=>
      exact λh3=>⟨by rw[e2,(h h3).1,e1],λv e g hv=>(h h3).2 v e g (by rw[M.cF _ _ _ _ H,ND Z]at hv;exact hv)⟩
    cases e2 with
    |normal=>
     refine⟨VT,_,_,b0 .ready none _ rfl,Z,VQ _ _,d0 _,.inl ⟨rfl,hI _ _ _ A0 (F _ _ H),?_⟩⟩;rw[M.cF _ _ _ _ H,UG rfl]
    |exit id=>
     refine⟨P6,_,_,b0 .done (some (.exit id)) _ rfl,Z,VQ _ _,d0 _,.inr ⟨rfl,.exit id,co,hJ _ _ _ A0 (F _ _ H),?_⟩⟩;rw[M.cF _ _ _ _ H,UG rfl]
    |ret=>
     refine⟨P6,_,_,b0 .done (some .ret) _ rfl,Z,VQ _ _,d0 _,.inr ⟨rfl,.ret,co,hJ _ _ _ A0 (F _ _ H),?_⟩⟩;rw[M.cF _ _ _ _ H,UG rfl])
  ⟨hI 0 _ _ h0 s0,hy⟩
 have⟨k0,_,n0,cE⟩:=g1;have k0:s.m.n+1<=mG.n:=k0
 have hex:∀(r:Dm),mG.get s.m.n=.loop r->r.st≠.busy->∀n,n0<=n->bF E (bT E X n) n (.rangeFunc gv ps a b) ⟨T,s.m.wl s.lo⟩=
   some (r.Aq.getD .normal,⟨T,(mG.set s.m.n (.loop {r with st:=.exhausted})).wl (min (min s.lo bG) s.m.n)⟩):=by
  intro r hr p1 n hn;have hc:bT E X n (.func fk) (fi.toList++(.func (.yield (s.m.wl s.lo).n) #[] #[]::ca.toList)) ((s.m.wl s.lo).push (.loop ⟨T,ps,a,b,.ready,none,E.G⟩))=some (vG,mG.wl (min s.lo bG)):=cE n hn s.lo (by show s.lo<=s.m.n+1;omega);simp only[bF];rw[bD hk hf];dsimp only;rw[hc];dsimp only;have r1:(mG.wl (min s.lo bG)).get (s.m.wl s.lo).n=.loop r:=hr;rw[r1];dsimp only;cases hs:r.st with
  |busy=>exact absurd hs p1
  |ready=>rfl
  |done=>rfl
  |exhausted=>rfl
 rcases Q0 with⟨hi,hr⟩|⟨e,u0,hj,hr⟩;·refine⟨.normal,⟨s.K,mG.set s.m.n (.loop ⟨T,ps,a,b,.exhausted,none,E.G⟩),min (min s.lo bG) s.m.n⟩,T,q0 _ _ (hI _ _ _ hi (F _ _ k0)) Z,hk,by show s.m.n<=mG.n;omega,by show min (min s.lo bG) s.m.n<=mG.n;omega,n0,hex _ hr co⟩
 ·have u1:Q e ⟨s.K,mG.set s.m.n (.loop ⟨T,ps,a,b,.exhausted,some e,E.G⟩),min (min s.lo bG) s.m.n⟩:=(by obtain⟨p,hp,he,hq⟩:=r0 _ _ (min (min s.lo bG) s.m.n) u0 (hJ _ _ _ hj (F _ ⟨T,ps,a,b,.exhausted,some e,E.G⟩ k0)) Z;obtain⟨e',_,rfl⟩:=Ja.1 hp;cases he;exact hq);refine⟨e,⟨s.K,mG.set s.m.n (.loop ⟨T,ps,a,b,.exhausted,some e,E.G⟩),min (min s.lo bG) s.m.n⟩,T,u1,hk,by show s.m.n<=mG.n;omega,by show min (min s.lo bG) s.m.n<=mG.n;omega,n0,hex _ hr co⟩
theorem dS:∀(c:Code) (rd:Nat) (s:St) (Q:Ex->St->Prop),Ah E (aH E X) c rd s Q->V E X c s Q
 |.skip,_,s,Q,h=>λT hk F=>⟨_,s,T,h,hk,R8 _,F,0,λn _=>rfl⟩
 |.label _,_,s,Q,h=>λT hk F=>⟨_,s,T,h,hk,R8 _,F,0,λn _=>rfl⟩
 |.exit id,_,s,Q,h=>λT hk F=>⟨_,s,T,h,hk,R8 _,F,0,λn _=>rfl⟩
 |.ret,_,s,Q,h=>λT hk F=>⟨_,s,T,h,hk,R8 _,F,0,λn _=>rfl⟩
 |.region id ops d,_,s,Q,h=>λT hk F=>by obtain⟨s',T',hP,b0,hn,H,n0,hr⟩:=vq ops.toList 0 s _ h T hk F;exact⟨_,s',T',hP,b0,hn,H,n0,λn hn=>by simp only[bF,hr n hn,F4]⟩
 |.seq a b,rd,s,Q,h=>by unfold Ah at h;(cases hp:Qw rd a b with|false=>rw[hp,I2]at h;exact V.seq ((dS a _ s _ h).mono λe s' hq=>by cases e with|normal=>exact dS b rd s' Q hq|exit id=>exact hq|ret=>exact hq)|true=>rw[hp,gc,zg]at h;have ha:=dS a _ s _ h;intro T hk F;have⟨e,s1,T1,h1,j0,k0,d0,n1,e0⟩:=ha T hk F;cases e with|normal=>have⟨vs,q0,h1⟩:=bC.1 h1;have h0:Kn (forget s.K (assigned a)) T1:=(by intro t k ht;have:=eh a _ _ _ (e0 n1 (R8 _)) (jN _ _ ht).1;dsimp only at this;rw[this];exact hk t k (jN _ _ ht).2);obtain⟨K',b0,l0⟩:=wg _ _ _ _ h0 (tO j0 _ _ q0) h1;obtain⟨e,s2,T2,h2,i0,r0,o0,n2,s0⟩:=dS b rd _ Q l0 T1 b0 d0;exact⟨e,s2,T2,h2,i0,Xp k0 r0,o0,max n1 n2,λn hn=>by simp only[bF,e0 n Z,s0 n Z]⟩|exit id=>exact⟨_,s1,T1,h1,j0,k0,d0,n1,λn hn=>by simp only[bF,e0 n hn]⟩|ret=>exact⟨_,s1,T1,h1,j0,k0,d0,n1,λn hn=>by simp only[bF,e0 n hn]⟩)
 |.cond c x y,rd,s,Q,h=>λT hk F=>by have⟨_,hb,h⟩:=bC.1 h;obtain⟨b,rfl,h⟩:=AY.1 h;(cases b with|true=>have⟨e,s',T',hP,b0,hn,H,n0,hr⟩:=dS x rd s Q h T hk F;exact⟨e,s',T',hP,b0,hn,H,n0,λn hn=>by simp only[bF,bD hk hb,hr n hn,gc]⟩|false=>have⟨e,s',T',hP,b0,hn,H,n0,hr⟩:=dS y rd s Q h T hk F;exact⟨e,s',T',hP,b0,hn,H,n0,λn hn=>by simp only[bF,bD hk hb,hr n hn,I2]⟩)
 |.block id c,rd,s,Q,h=>λT hk F=>by obtain⟨e,s',T',hP,b0,hn,H,n0,hr⟩:=dS c rd s _ h T hk F;refine⟨_,s',T',hP,b0,hn,H,n0,λn hn=>?_⟩;have e1:=hr n hn;(cases e with|normal=>simp only[bF,e1,Ex.LC]|ret=>simp only[bF,e1,Ex.LC]|exit u0=>simp only[bF,e1,Ex.LC];cases Nat.beq u0 id <;>rfl)
 |.loop c,rd,s,Q,h=>by unfold Ah at h;rw[zg]at h;have⟨y0,A0,γ,μ,ux,⟨g0,B0⟩,hI⟩:=bC.1 h;apply V.loopG μ (λg T m lo=>∃vs,ux g vs m lo/\TV T (carried s.K (assigned c)) vs/\Kn (forget s.K (assigned c)) T) g0 (λT hk=>⟨y0,B0,tO hk _ _ A0,λt k ht=>hk t k (jN _ _ ht).2⟩);rintro g T m lo ⟨vs,O0,P0,h0⟩ F;obtain⟨K',b0,l0⟩:=wg _ _ _ _ h0 P0 (hI g vs m lo O0);obtain⟨e,s',T',hQ,i0,hn,H,n0,hr⟩:=dS c _ _ _ l0 T b0 F;refine⟨e,s',T',?_,i0,hn,H,n0,hr⟩;(cases e with|normal=>have⟨Q0,p0,g',a1,b1⟩:=bC.1 hQ;refine⟨g',a1,Q0,b1,tO i0 _ _ p0,?_⟩;intro t k ht;have:=eh c _ _ _ (hr n0 (R8 _)) (jN _ _ ht).1;dsimp only at this;rw[this];exact h0 t k ht|exit id=>exact hQ|ret=>exact hQ)
 |.scope c,rd,s,Q,h=>λT hk F=>by have⟨e,s',T',hP,b0,hn,H,n0,hr⟩:=dS c rd s Q h T hk F;exact⟨e,s',T',hP,b0,hn,H,n0,λn hn=>by simp only[bF,hr n hn]⟩
 |.rangeFunc f ps a b,_,s,Q,h=>by have⟨_,hf,h⟩:=bC.1 h;obtain⟨gf,fi,ca,rfl,h⟩:=sL.1 h;exact V.rangeFunc (λs Q h=>dS a _ s Q h) (λs Q h=>dS b _ s Q h) hf h
 |.goto l,_,s,Q,h=>h.elim
 |.refuse y,_,s,Q,h=>h.elim
theorem nC:∀(vs:ν) (i:Nat),Kn (tB vs i) (enter vs i)
 |[],_=>λ_ _ h=>by cases h
 |v::vs,i=>by have:=(nC vs (i+1)).put (some i) (.v v);exact this
theorem jH{K:KT}{T:Tr O}(h:Kn K T){m:M}:∀{rs:List ResultVar} {f:ν->Prop},Dy E K m rs f->∃vs,f vs/\∀l,iw E T (m.wl l) rs=some vs
 |[],f,F=>⟨[],F,λ_=>rfl⟩
 |.tmp t::rs,f,F=>by have⟨v,H,F⟩:=bC.1 F;have⟨vs,hf,b0⟩:=jH h F;refine⟨_,hf,λl=>?_⟩;split at H;rename_i k hk;cases H;simp only[iw,nq,jh,h t k hk,At,b0];cases H
 |.cell a t::rs,f,F=>by have⟨p,hp,F⟩:=bC.1 F;have⟨v,H,F⟩:=bC.1 F;have⟨vs,hf,b0⟩:=jH h F;refine⟨_,hf,λl=>?_⟩;split at hp;rename_i k hk;cases hp;unfold aC at H;split at H;rename_i p' a' d0;have e:jh T a=.pointer (some a'):=(by simp only[jh,h a _ hk,At,d0]);simp only[iw,nq,e,Cu,H,b0];cases H;cases hp
def BO(h:iw E T m fn.results.toList=some vs):result? E fn T m=some (aP vs):=by unfold result?;rw[h];match vs with|[]=>rfl|[v]=>rfl|_::_::_=>rfl
def GC(X:aF)(f:Nat):Prop:=∀args m,X (.func f) args m=none
theorem Cl.WJ{fn':Func}(hX:∀l,X (.func f) args (m.wl l)=none)(hf:E.fn.get f=some fn)(hl:Nat.ble args.length fn.ntmps)
  (d0:fn'.results=fn.results) (hc:∀b',fn'.body=some b'->∃b,fn.body=some b/\∀call n fr r,bF E call n b' fr=some r->bF E call n b fr=some r) (h:WU E (aH E X) rd fn' args m R):
  ∃vs m' lo,R vs m' lo/\m.n<=m'.n/\∃n0,∀n,n0<=n->∀l,l<=m.n->
   bT E X n (.func f) args (m.wl l)=some (bif aZ (aP vs) && Nat.ble m.n lo then(aP vs,m.wl l)else(aP vs,m'.wl (min l lo))):=by
 unfold WU at h;split at h
 ·rename_i k0 l0;obtain⟨body,hb,e0⟩:=hc _ l0;obtain⟨e,F,T',H,o0,hn,q0,n0,hr⟩:=dS _ _ _ _ h (enter args 0) (nC _ _) (R8 _);have g0:(∀id,e≠.exit id)/\Dy E F.K F.m fn.results.toList λvs=>R vs F.m F.lo:=(by rw[d0]at H;cases e with|exit id=>exact H.elim|normal=>exact⟨λ_ h=>(by cases h),H⟩|ret=>exact⟨λ_ h=>(by cases h),H⟩);have⟨p0,b0⟩:=g0;have⟨vs,hR,b0⟩:=jH o0 b0;refine⟨vs,F.m,F.lo,hR,hn,n0+1,λn r0 l s0=>?_⟩;obtain⟨n,rfl⟩:∃k,n=k+1:=⟨n-1,Z⟩;have h0:bF E (bT E X n) n body {T:=enter args 0,m:={m.wl l with low:=(m.wl l).n}}=some (e,⟨T',F.m.wl F.lo⟩):=e0 _ _ _ _ (hr n Z);have i0:=BO (fn:=fn) (b0 F.lo);have j0:X (.func f) args (m.wl l)=none:=hX l
  have fin:(bif aZ (aP vs) && Nat.ble (m.wl l).n (F.m.wl F.lo).low then some (aP vs,m.wl l)else some (aP vs,{F.m.wl F.lo with low:=min (m.wl l).low (F.m.wl F.lo).low}))=
    some (bif aZ (aP vs) && Nat.ble m.n F.lo then(aP vs,m.wl l)else(aP vs,F.m.wl (min l F.lo))):=by
   cases hc:(aZ (aP vs) && Nat.ble m.n F.lo)with
   |true=>have:(aZ (aP vs) && Nat.ble (m.wl l).n (F.m.wl F.lo).low):=hc;rw[this];rfl
   |false=>have:(aZ (aP vs) && Nat.ble (m.wl l).n (F.m.wl F.lo).low)=false:=hc;rw[this];rfl
  cases e with
  |exit id=>exact(p0 id rfl).elim
  |normal=>simp only[bT,j0,hf,hb,hl,gc,h0,i0];exact fin
  |ret=>simp only[bT,j0,hf,hb,hl,gc,h0,i0];exact fin
 exact h.elim
def Cl.S5(F:GC X f)(H:E.fn.get f=some fn)(hl:Nat.ble args.length fn.ntmps)
  (h:WU E (aH E X) rd fn args m R):
  ∃vs m' lo,R vs m' lo/\m.n<=m'.n/\∃n0,∀n,n0<=n->∀l,l<=m.n->
   bT E X n (.func f) args (m.wl l)=some (bif aZ (aP vs) && Nat.ble m.n lo then(aP vs,m.wl l)else(aP vs,m'.wl (min l lo))):=
 Cl.WJ (λ_=>F _ _) H hl rfl (λb h=>⟨b,h,λ_ _ _ _ h=>h⟩) h
def Cl.body(F:GC X f)(H:E.fn.get f=some fn)(hl:Nat.ble args.length fn.ntmps)
  (h:dB E (aH E X) fn args m R):
  ∃vs m' lo,R vs m' lo/\m.n<=m'.n/\∃n0,∀n,n0<=n->∀l,l<=m.n->
   bT E X n (.func f) args (m.wl l)=some (bif aZ (aP vs) && Nat.ble m.n lo then(aP vs,m.wl l)else(aP vs,m'.wl (min l lo))):=Cl.S5 F H hl h
theorem Cl.uk(hn:m.n<=m'.n)(F:aZ (aP vs)=false\/lo<m.n)
  (h:∃H,∀n,H<=n->∀l,l<=m.n->bT E X n (.func f) args (m.wl l)=some (bif aZ (aP vs) && Nat.ble m.n lo then(aP vs,m.wl l)else(aP vs,m'.wl (min l lo)))):Cl E X (.func f) args m (min m.n lo) (aP vs) m':=by have⟨H,h⟩:=h;refine⟨hn,RQ _ _,H,λn hn l hl=>?_⟩;have:(aZ (aP vs) && Nat.ble m.n lo)=false:=(by rcases F with hv|hv;grind;have:Nat.ble m.n lo=false:=(by cases F:Nat.ble m.n lo with|false=>rfl|true=>have:=Jg F;omega);grind);grind
def Cl.of_flat(hv:aZ (aP vs))(F:m.n<=lo)
  (h:∃H,∀n,H<=n->∀l,l<=m.n->bT E X n (.func f) args (m.wl l)=some (bif aZ (aP vs) && Nat.ble m.n lo then(aP vs,m.wl l)else(aP vs,m'.wl (min l lo)))):Cl E X (.func f) args m m.n (aP vs) m:=by have⟨H,h⟩:=h;refine⟨R8 _,R8 _,H,λn hn l hl=>?_⟩;have:Nat.ble m.n lo:=S0 F;grind
def Cl.flat{v:O}(H:GC X f)(hf:E.fn.get f=some fn)(hl:Nat.ble args.length fn.ntmps)(hv:aZ v)
  (h:dB E (aH E X) fn args m λvs m' lo=>aP vs=v/\m.n<=lo):Cl E X (.func f) args m m.n v m:=by obtain⟨vs,s,lo,⟨rfl,F⟩,_,hr⟩:=Cl.body H hf hl h;exact .of_flat hv F hr
def Cl.heap{R:O->M->Nat->Prop}(F:GC X f)(H:E.fn.get f=some fn)(hl:Nat.ble args.length fn.ntmps)
  (h:dB E (aH E X) fn args m λvs m' lo=>(aZ (aP vs)=false\/lo<m.n)/\R (aP vs) m' (min m.n lo)):
  ∃v m' b,Cl E X (.func f) args m b v m'/\R v m' b:=by have⟨vs,s,lo,⟨hv,hR⟩,hn,hr⟩:=Cl.body F H hl h;exact⟨_,_,_,.uk hn hv hr,hR⟩
def Cl.gen{R:O->M->Nat->Prop}(hX:GC X f)(hf:E.fn.get f=some fn)(hl:Nat.ble args.length fn.ntmps)
  (h:dB E (aH E X) fn args m λvs m' lo=>(aZ (aP vs)/\m.n<=lo/\R (aP vs) m m.n)\/((aZ (aP vs)=false\/lo<m.n)/\R (aP vs) m' (min m.n lo))):
  ∃v m' b,Cl E X (.func f) args m b v m'/\R v m' b:=by have⟨vs,s,lo,h,hn,hr⟩:=Cl.body hX hf hl h;rcases h with⟨F,H,hR⟩|⟨F,hR⟩;exact⟨_,_,_,.of_flat F H hr,hR⟩;exact⟨_,_,_,.uk hn F hr,hR⟩
def Cl.xS{v:O}(H:GC X f)(hf:E.fn.get f=some fn)(hl:Nat.ble args.length fn.ntmps)(hv:aZ v)
  (h:fQ E (aH E X) fn args m λvs m' lo=>aP vs=v/\m.n<=lo):Cl E X (.func f) args m m.n v m:=by obtain⟨vs,s,lo,⟨rfl,F⟩,_,hr⟩:=Cl.S5 H hf hl h;exact .of_flat hv F hr
def Cl.HR{R:O->M->Nat->Prop}(hX:GC X f)(hf:E.fn.get f=some fn)(hl:Nat.ble args.length fn.ntmps)
  (h:fQ E (aH E X) fn args m λvs m' lo=>(aZ (aP vs)/\m.n<=lo/\R (aP vs) m m.n)\/((aZ (aP vs)=false\/lo<m.n)/\R (aP vs) m' (min m.n lo))):
  ∃v m' b,Cl E X (.func f) args m b v m'/\R v m' b:=by have⟨vs,s,lo,h,hn,hr⟩:=Cl.S5 hX hf hl h;rcases h with⟨F,H,hR⟩|⟨F,hR⟩;exact⟨_,_,_,.of_flat F H hr,hR⟩;exact⟨_,_,_,.uk hn F hr,hR⟩
def Cl.known{f:Fn}{v:O}(H:∀l,X f args (m.wl l)=some (v,m'.wl l))(F:m.n<=m'.n)(hf:∃k,f=.func k):Cl E X f args m m.n v m':=by obtain⟨k,rfl⟩:=hf;refine⟨F,R8 _,1,λn F l hl=>?_⟩;obtain⟨n,rfl⟩:∃j,n=j+1:=⟨n-1,Z⟩;simp only[bT,H,ZZ hl]
def Cl.Rl{k:Nat}{v:O}(H:∀l,l<=m.n->X (.func k) args (m.wl l)=some (v,m'.wl (min l b)))(F:m.n<=m'.n)(hb:b<=m.n):Cl E X (.func k) args m b v m':=by refine⟨F,hb,1,λn F l hl=>?_⟩;obtain⟨n,rfl⟩:∃j,n=j+1:=⟨n-1,Z⟩;simp only[bT,H l hl]
def aw{f:Fn}{v:O}{P:O->M->Nat->Prop}(h:Cl E X f args m b v m1)(F:P v m1 b):lU E X f args m P:=⟨v,m1,b,h,F⟩
end
section
variable{E:Env}{X:aF}{k:IntKind}{t:TypeId}{a b:Int}
def cI:bE E .leq t (.int k a) (.int k b)=some (.bool (decide (a<=b))):=by simp[bE,kQ]
def aK:bE E .lss t (.int k a) (.int k b)=some (.bool (decide (a<b))):=by simp[bE,kQ]
def cZ:bE E .geq t (.int k a) (.int k b)=some (.bool (decide (b<=a))):=by simp[bE,kQ]
def cC:bE E .gtr t (.int k a) (.int k b)=some (.bool (decide (b<a))):=by simp[bE,kQ]
def aJ:bE E .eql t (.int k a) (.int k b)=some (.bool (decide (a=b))):=by simp[bE,kQ];rfl
def bZ:bE E .neq t (.int k a) (.int k b)=some (.bool (!(decide (a=b)))):=by simp[bE,kQ,bne];rfl
def aO:bE E .add t (.int k a) (.int k b)=some (.int k (k.wrap (a+b))):=by simp[bE,kQ]
def fa:bE E .sub t (.int k a) (.int k b)=some (.int k (k.wrap (a-b))):=by simp[bE,kQ]
def kO:bE E .mul t (.int k a) (.int k b)=some (.int k (k.wrap (a*b))):=by simp[bE,kQ]
def rp(h:b≠0):bE E .quo t (.int k a) (.int k b)=some (.int k (k.wrap (a.tdiv b))):=by simp[bE,kQ,h]
def yi(h:b≠0):bE E .rem t (.int k a) (.int k b)=some (.int k (a.tmod b)):=by simp[bE,kQ,h]
theorem bB{b:Bool}:Dr .not (.bool b)=some (.bool (!b)):=rfl
theorem E5:Dr .neg (.int k a)=some (.int k (k.wrap (0-a))):=rfl
def iJ{α:Sort _}[Decidable c]{a b:α}(h:¬c:=by omega):(if c then a else b)=b:=ND h
def ifp{α:Sort _}[Decidable c]{a b:α}(h:c:=by omega):(if c then a else b)=a:=UG h
def CX[Decidable c](h:¬c:=by omega):decide c=false:=C8 h
def dto[Decidable c](h:c:=by omega):decide c:=RO h
def wo{α:Type}{l:List α}{i:Nat}(h:i<l.length:=by omega):l[i]?=some l[i]:=QC h
def wrap64{x:Int}(F: -9223372036854775808<=x:=by omega)(H:x<9223372036854775808:=by omega):IntKind.i64.wrap x=x:=by have e:IntKind.i64.wrap x=if x%18446744073709551616>=9223372036854775808 then x%18446744073709551616-18446744073709551616 else x%18446744073709551616:=(by unfold IntKind.wrap;simp[IntKind.bits,IntKind.signed]);grind
theorem ag{b:Bool}{Q:Prop}:iS (.bool b) P Q=lY b P Q:=rfl
theorem cj{g:Fn}{P:Fn->Array O->Array O->Prop}:rO (.func g fi ca) P=P g fi ca:=rfl
theorem av{v:O}{r:ν}{P:O->ν->Prop}:un (v::r) P=P v r:=rfl
theorem cG{a:Addr}:FC (.pointer (some a))=some (.pointer (some a)):=rfl
theorem lF{f:FuncId}{a b:Array O}:FC (.func (.func f) a b)=some (.func (.func f) a b):=rfl
theorem aE{vs:Array O}:mz (.tuple vs) i=vs.toList[i]?:=rfl
theorem bd{cs:Array O}:cells (.agg cs)=cs.toList:=rfl
theorem nH{x:Int}:cells (.int k x)=[.int k x]:=rfl
theorem lN{x:Bool}:cells (.bool x)=[.bool x]:=rfl
theorem jX{a:Option Addr}{c:Nat}:cells (.slice a n c)=[.slice a n c]:=rfl
theorem nF{a:Option Addr}:cells (.pointer a)=[.pointer a]:=rfl
theorem nG{a:Option Nat}:cells (.map a)=[.map a]:=rfl
theorem lM{f:Fn}{a b:Array O}:cells (.func f a b)=[.func f a b]:=rfl
def af{b:Bool}{Q:Prop}(F:b->P)(H:b=false->Q):lY b P Q:=ady.2 ⟨F,H⟩
theorem bN{Q:Prop}:lY true P Q=P:=rfl
theorem aT{Q:Prop}:lY false P Q=Q:=rfl
def Lp.intro{F:(ν->M->Nat->Prop)->ν->M->Nat->Prop}{γ:Type}(H:γ->Nat)(ux:γ->ν->M->Nat->Prop)(g0:γ)(h0:ux g0 vs m lo)
  (hs:∀g vs m lo,ux g vs m lo->F (λvs m lo=>∃g',H g'<H g/\ux g' vs m lo) vs m lo):Lp F vs m lo:=⟨γ,H,ux,⟨g0,h0⟩,hs⟩
section
variable {m m' m1:M} {b c:Nat} {o:Ob}
def M.nA(h:b<m.n):m.get b=(m.st.get b).getD .dead:=by unfold M.get;have:Nat.blt b m.n:=dg;grind
def M.jU(h:m.n<=b):m.get b=.dead:=by unfold M.get;have:Nat.blt b m.n=false:=(by cases F:Nat.blt b m.n with|false=>rfl|true=>rw[TB]at F;omega);grind
def M.aU:(m.push o).get m.n=o:=by rw[M.nA (by rw[M.jr];omega)];show((m.st.set m.n o).get m.n).getD .dead=o;rw[Tr.cF,UG rfl];rfl
def M.cH(h:b<m.n):(m.push o).get b=m.get b:=by rw[M.nA (by rw[M.jr];omega),M.nA h];show((m.st.set m.n o).get b).getD .dead=_;rw[Tr.cF,ND Z]
def M.get_set_same(h:b<m.n):(m.set b o).get b=o:=by rw[M.nA (m:=m.set b o) h];show((m.st.set b o).get b).getD .dead=_;rw[Tr.cF,UG rfl];rfl
def M.dY(h:c≠b):(m.set b o).get c=m.get c:=by by_cases F:c<m.n;rw[M.nA F,M.nA (m:=m.set b o) F];show((m.st.set b o).get c).getD .dead=_;rw[Tr.cF,ND h];rw[M.jU (m:=m) Z,M.jU (m:=m.set b o) (by show m.n<=c;omega)]
def M.aM(h:m.get b=.cells cs e g):b<m.n:=by by_cases F:b<m.n;exact F;rw[M.jU Z]at h;cases h
def ah{P:M->Prop}(h:∀m1,m1.n=m.n+1->m1.get m.n=o->(∀b,b<m.n->m1.get b=m.get b)->P m1):nW (m.push o) P:=
 h _ rfl M.aU λ_ F=>M.cH F
def Ext.refl:Ext m m:=⟨R8 _,λ_ _=>rfl⟩
def Ext.trans(h:Ext m m1)(F:Ext m1 m'):Ext m m':=⟨Xp h.n F.n,λb H=>by rw[F.get b (Z1 H h.n),h.get b H]⟩
def Ext.push(h:Ext m m1):Ext m (m1.push o):=⟨Xp h.n (Nc _),λb F=>by rw[M.cH (Z1 F h.n),h.get b F]⟩
theorem Ext.set(h:Ext m m1)(H:m.n<=b):Ext m (m1.set b o):=⟨h.n,λc F=>by rw[M.dY Z,h.get c F]⟩
def Ext.wl(h:Ext m m1){l:Nat}:Ext m (m1.wl l):=⟨h.n,h.get⟩
def Ext.cells(h:Ext m m1)(F:m.get b=.cells cs e g):m1.get b=.cells cs e g:=by rw[h.get b (M.aM F),F]
def aG{o:Nat}(h:m.get b=.cells cs e g):cellAt m ⟨b,o,none⟩=cs[o]?:=by unfold cellAt;simp only[h];rfl
def aI{o:Nat}(h:m.get b=.cells cs e g)(F:o+n<=cs.length):loadCells m ⟨b,o,none⟩ n=some ((cs.drop o).take n):=by unfold loadCells;have:Nat.ble (o+n) cs.length:=S0 F;grind
def oZ{o:Nat}(h:m.get b=.cells cs e g)(F:o+vs.length<=cs.length)(H:vs.all one):
  storeCells m ⟨b,o,none⟩ vs=some (m.set b (.cells (cs.take o++(vs++cs.drop (o+vs.length))) e g)):=by unfold storeCells;have:Nat.ble (o+vs.length) cs.length:=S0 F;grind
end
class aL (α:Type) where
 ty:TypeId
 sz:Nat
 agg:Bool
 dN:List TypeId
 rep:M->α->ν->Prop
 pos:0 < sz
 one:agg=false->sz=1
 len:∀{m x cs},rep m x cs->cs.length=sz
 iy:∀{m x cs},rep m x cs->cs.all D.one=true
 aX:∀{m m' x cs},rep m x cs->(∀b c t g,m.get b=.cells c t g->t∈dN->m'.get b=.cells c t g)->rep m' x cs
namespace aL
def val(α:Type)[aL α](cs:ν):O:=bif agg α then .agg cs.toArray else cs.headD undef
def ak{α:Type}[aL α]{m m':M}{x:α}{cs:ν}(h:rep m x cs)(he:Ext m m'):rep m' x cs:=aX h λ_ _ _ _ F _=>he.cells F
end aL
def Sl{α:Type}[aL α](m:M)(l:List α)(v:O):Prop:=
 (v=.slice none 0 0/\l=[])\/∃b o c F g,v=.slice (some ⟨b,o,none⟩) l.length c/\m.get b=.cells F (aL.ty α) g/\o+l.length*aL.sz α<=F.length/\
  ∀i x,l[i]?=some x->aL.rep m x ((F.drop (o+i*aL.sz α)).take (aL.sz α))
def Sl.aX{α:Type}[aL α]{m m':M}{l:List α}{v:O}(h:Sl m l v)(F:∀b c t g,m.get b=.cells c t g->t∈aL.ty α::aL.dN α->m'.get b=.cells c t g):Sl m' l v:=by rcases h with h|⟨b,o,c,H,g,h1,h2,h3,h4⟩;exact .inl h;exact .inr ⟨b,o,c,H,g,h1,F _ _ _ _ h2 Mq,h3,λi x hi=>aL.aX (h4 i x hi) λb c t g hb ht=>F b c t g hb (DJ _ ht)⟩
def Sl.ak{α:Type}[aL α]{m m':M}{l:List α}{v:O}(h:Sl m l v)(he:Ext m m'):Sl m' l v:=h.aX λ_ _ _ _ F _=>he.cells F
def Sl.form{α:Type}[aL α]{m:M}{l:List α}{v:O}(h:Sl m l v):∃a c,v=.slice a l.length c:=by rcases h with⟨rfl,rfl⟩|⟨b,o,c,F,g,rfl,_⟩;simp_all;grind
theorem Sl.one{α:Type}[aL α]{m:M}{l:List α}{v:O}(h:Sl m l v):one v:=by obtain⟨a,c,rfl⟩:=h.form;rfl
def Sl.nil{α:Type}[aL α]{m:M}:Sl m ([]:List α) Z9:=.inl ⟨rfl,rfl⟩
def Sl.cells{α:Type}[aL α]{m:M}{l:List α}{v:O}(h:Sl m l v):D.cells v=[v]:=by obtain⟨a,c,rfl⟩:=h.form;rfl
def qs(E:Env)(T t:TypeId)(α:Type)[aL α]:Prop:=
 ∃F H,E.ty.get T=some F/\(∃e,F.d=.slice e)/\F.es=aL.sz α/\E.ty.get t=some H/\H.d.agg=aL.agg α/\H.size=aL.sz α
section
variable {E:Env} {m:M} {T t:TypeId} {α:Type} [aL α] {l:List α} {v:O}
def Sl.len(h:Sl m l v)(F:qs E T t α):aR E m .len [T] [v]=some (I l.length,m):=by have⟨ti,te,H,⟨e,h2⟩,_⟩:=F;obtain⟨a,c,rfl⟩:=h.form;simp only[aR,qS,H,h2,F4]
theorem Sl.index(h:Sl m l v)(hT:qs E T t α){k:IntKind}{i:Nat}{x:α}(hi:l[i]?=some x):
  ∃p cs,aD E T v (.int k i)=some p/\aC E m t p=some (aL.val α cs)/\aL.rep m x cs:=by have⟨ti,te,h1,⟨e,h2⟩,h3,h4,h5,h6⟩:=hT;have F:=(Nr.1 hi).1;rcases h with⟨_,rfl⟩|⟨b,o,c,bc,g,rfl,hb,hlen,H⟩;grind;have hr:=H i x hi;have b0:=aL.pos (α:=α);refine⟨Ω b (o+i*aL.sz α),_,?_,?_,hr⟩;have hc:0<=(i:Int)/\(i:Int)< (l.length:Int)/\0<ti.es:=⟨Z,Z,Z⟩;simp only[aD,h1,h2];rw[UG hc,bs rfl,h3];rfl;have hle:o+i*aL.sz α+aL.sz α<=bc.length:=(by have:(i+1)*aL.sz α<=l.length*aL.sz α:=MO _ F;grind);simp only[aC,loadVar,h4];unfold aL.val;cases ha:aL.agg α with|true=>rw[h5,ha,h6];rw[aI hb hle];rfl|false=>rw[aG hb];have d0:=aL.len hr;have hs:=aL.one ha;rw[List.headD_eq_head?_getD,List.head?_take,List.head?_drop,ND Z];grind
end
def wF{E:Env}{t:TypeId}{b o:Nat}(F:E.ty.get t=some ti)(h:m.get b=.cells cs e g)(hs:(cells x).length=ti.size)(H:o+(cells x).length<=cs.length)(h1:(cells x).all one):
  bh E m t (Ω b o) x=some (m.set b (.cells (cs.take o++(cells x++cs.drop (o+(cells x).length))) e g),b):=by have:Nat.beq (cells x).length ti.size:=dg;simp only[bh,storeVar,F,this,gc,oZ h H h1]
def bS{E:Env}{t:TypeId}{b o:Nat}{P:M->Nat->Prop}(F:E.ty.get t=some ti)(h:m.get b=.cells cs e g)(H:(cells x).length=ti.size)(hl:o+(cells x).length<=cs.length)(h1:(cells x).all one)
  (hP:∀m1,m1.n=m.n->m1.get b=.cells (cs.take o++(cells x++cs.drop (o+(cells x).length))) e g->(∀c,c≠b->m1.get c=m.get c)->P m1 b):dh (bh E m t (Ω b o) x) P:=by rw[wF F h H hl h1,an];exact hP _ rfl (M.get_set_same (M.aM h)) λc hc=>M.dY hc
def Sl.iI{E:Env}{T t:TypeId}{α:Type}[aL α]{l:List α}{v:O}(h:Sl m l v)(hT:qs E T t α){k:IntKind}{i:Nat}{x:α}(hi:l[i]?=some x):
  ∃b o F g cs,aD E T v (.int k i)=some (Ω b o)/\m.get b=.cells F (aL.ty α) g/\aL.rep m x cs/\o+aL.sz α<=F.length/\∀j,j<aL.sz α->F[o+j]?=cs[j]?:=by have⟨ti,te,h1,⟨e,h2⟩,h3,h4,h5,h6⟩:=hT;have H:=(Nr.1 hi).1;rcases h with⟨_,rfl⟩|⟨b,o,c,F,g,rfl,hb,hlen,b0⟩;grind;have hr:=b0 i x hi;have d0:=aL.pos (α:=α);refine⟨b,o+i*aL.sz α,F,g,_,?_,hb,hr,?_,λj hj=>?_⟩;have hc:0<=(i:Int)/\(i:Int)< (l.length:Int)/\0<ti.es:=⟨Z,Z,Z⟩;simp only[aD,h1,h2];rw[UG hc,bs rfl,h3];rfl;have:(i+1)*aL.sz α<=l.length*aL.sz α:=MO _ H;grind;grind
def aj{E:Env}{t:TypeId}{b:Nat}{P:M->Nat->Prop}(F:E.ty.get t=some ti)(h:m.get b=.cells cs e g)(H:(cells x).length=ti.size)(hl:(cells x).length=cs.length)(h1:(cells x).all one)
  (hP:∀m1,m1.n=m.n->m1.get b=.cells (cells x) e g->(∀c,c≠b->m1.get c=m.get c)->P m1 b):dh (bh E m t (Ω b 0) x) P:=by
 refine bS F h H Z h1 λm1 hn hg hk=>hP m1 hn ?_ hk;grind
