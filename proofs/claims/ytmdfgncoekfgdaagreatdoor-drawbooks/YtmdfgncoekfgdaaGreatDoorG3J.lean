/- A region that draws its order: the order of its operations. -/
import Derived.Test.YtmdfgncoekfgdaaGreatDoorG2J
import Derived.RangeFuncRecord
import Derived.Scope
import Derived.RecoverIn
import Derived.RangeFuncNested
namespace Go.D
open Go
inductive Reach (ops:Array Oper):Nat->Nat->Prop where
 |one {j:Nat} {o:Oper} {e:Edge} (ho:ops[j]?=some o) (he:e∈o.after) (hb:Region.binds .any e=true):Reach ops e.on j
 |step {i j:Nat} {o:Oper} {e:Edge} (ho:ops[j]?=some o) (he:e∈o.after) (hb:Region.binds .any e=true) (h:Reach ops i e.on):Reach ops i j
theorem oF{acc:Array Nat}{i:Nat}:∀(l:List Edge) (s:Nat),(l.foldl (fun s e=>if Region.binds .any e then s |||2 ^ e.on |||acc.getD e.on 0 else s) s).testBit i=true->
  s.testBit i=true\/∃e∈l,Region.binds .any e=true/\(i=e.on\/(acc.getD e.on 0).testBit i=true)
 |[],s,h=> .inl h
 |e::l,s,h=>by
  rw[List.foldl_cons]at h
  rcases oF l _ h with h1 |⟨e',h1,h2,h3⟩
  ·by_cases hb:Region.binds .any e=true
   ·rw[if_pos hb]at h1
    simp only[Nat.testBit_or,Bool.or_eq_true]at h1
    rcases h1 with(h1 |h1) |h1
    ·exact .inl h1
    ·rw[Nat.testBit_two_pow]at h1
     exact .inr ⟨e,List.mem_cons_self,hb,.inl (by simpa using(of_decide_eq_true h1).symm)⟩
    ·exact .inr ⟨e,List.mem_cons_self,hb,.inr h1⟩
   ·rw[if_neg hb]at h1
    exact .inl h1
  ·exact .inr ⟨e',List.mem_cons_of_mem _ h1,h2,h3⟩
theorem qZ(ops:Array Oper):∀(l pre:List Oper) (acc:Array Nat),ops.toList=pre++l->acc.size=pre.length->(∀i j,(acc.getD j 0).testBit i=true->Reach ops i j)->
  ∀i j,((l.foldl (fun acc o=>acc.push (o.after.foldl (fun s e=>if Region.binds .any e then s |||2 ^ e.on |||acc.getD e.on 0 else s) 0)) acc).getD j 0).testBit i=true->Reach ops i j
 |[],pre,acc,_,_,h,i,j,hh=>h i j hh
 |o::l,pre,acc,hp,hs,h,i,j,hh=>by
  rw[List.foldl_cons]at hh
  refine qZ ops l (pre++ [o]) _ (by simp[hp]) (by simp[hs]) ?_ i j hh
  intro i j hij
  have ho:ops[pre.length]?=some o:=by
   rw[<-Array.getElem?_toList,hp,List.getElem?_append_right (Nat.le_refl _)]
   simp
  rcases Nat.lt_trichotomy j acc.size with hj |hj |hj
  ·refine h i j ?_
   rw[Array.getD_eq_getD_getElem?,Array.getElem?_push_lt hj]at hij
   rw[Array.getD_eq_getD_getElem?]
   simpa[hj]using hij
  ·subst hj
   rw[Array.getD_eq_getD_getElem?,Array.getElem?_push_size]at hij
   simp only[Option.getD_some]at hij
   rw[<-Array.foldl_toList]at hij
   rcases oF o.after.toList 0 hij with h1 |⟨e,h1,h2,h3⟩
   ·simp at h1
   ·rw[hs]
    rcases h3 with rfl |h3
    ·exact .one ho (by simpa using h1) h2
    ·exact .step ho (by simpa using h1) h2 (h _ _ h3)
  ·rw[Array.getD_eq_getD_getElem?,Array.getElem?_eq_none (by simp;omega)]at hij
   simp at hij
theorem gw{ops:Array Oper}{i j:Nat}(h:((Region.before ops).getD j 0).testBit i=true):Reach ops i j:=by
 unfold Region.before at h
 rw[<-Array.foldl_toList]at h
 exact qZ ops ops.toList [] #[] (by simp) rfl (by intro i j h;simp at h) i j h
def xH(ops:Array Oper)(L:Nat->Prop):Prop:=∀j o,ops[j]?=some o->L j->∀e∈o.after,Region.binds .any e=true->L e.on
theorem Reach.listed{ops:Array Oper}{L:Nat->Prop}(hc:xH ops L){i j:Nat}(h:Reach ops i j):(∀o,ops[j]?=some o->∀e∈o.after,Region.binds .any e=true->L e.on)->L i:=by
 induction h with
 |one ho he hb=>exact fun h=>h _ ho _ he hb
 |step ho he hb _ ih=>exact fun h=>ih fun o' ho' e' he' hb'=>hc _ o' ho' (h _ ho _ he hb) e' he' hb'
theorem Reach.gK{ops:Array Oper}{L:Nat->Prop}(hc:xH ops L){i j:Nat}(h:Reach ops i j)(hj:L j):L i:=h.listed hc fun o ho e he hb=>hc j o ho hj e he hb
theorem Reach.lt{ops:Array Oper}(hl:∀j o,ops[j]?=some o->∀e∈o.after,Region.binds .any e=true->e.on < j){i j:Nat}(h:Reach ops i j):i < j:=by
 induction h with
 |one ho he hb=>exact hl _ _ ho _ he hb
 |step ho he hb _ ih=>exact Nat.lt_trans ih (hl _ _ ho _ he hb)
structure Dc(ops:Array Oper):Prop where
 lt:∀j o,ops[j]?=some o->∀e∈o.after,Region.binds .any e=true->e.on < j
 apart:∀i j o' o,ops[i]?=some o'->ops[j]?=some o->i < j->Reach ops i j\/((∀d,o.dst=some d->d∉hZ ops o')/\∀d,o'.dst=some d->d∉hZ ops o)
theorem wi{ops:Array Oper}(h:sS ops=true):Dc ops:=by
 unfold sS at h
 have key:∀j o,ops[j]?=some o->_:=fun j o ho=>List.all_eq_true.1 h (o,j) (by rw[List.mem_zipIdx_iff_getElem?];simpa using ho)
 simp only[Bool.and_eq_true]at key
 refine⟨fun j o ho e he hb=>?_,fun i j o' o hi hj hij=>?_⟩
 ·have:=List.all_eq_true.1 (key j o ho).1 e (by simpa using he)
  rw[hb]at this
  simp only[Bool.not_true,Bool.false_or]at this
  rw[dQ]at this
  simpa using this
 ·have:=List.all_eq_true.1 (key j o hj).2 (o',i) (by rw[List.mem_zipIdx_iff_getElem?];simpa using hi)
  dsimp only at this
  rw[dQ]at this
  simp only[hij,decide_true,Bool.not_true,Bool.false_or,Bool.or_eq_true,Bool.and_eq_true]at this
  rcases this with h1 |⟨h1,h2⟩
  ·exact .inl (gw h1)
  ·refine .inr ⟨fun d hd=>?_,fun d hd=>?_⟩
   ·rw[hd]at h1;simpa using h1
   ·rw[hd]at h2;simpa using h2
theorem kh{ops:Array Oper}{j:Nat}(h:dC ops j=true):∀i o,ops[i]?=some o->i=j\/ed o.op=true\/Reach ops i j\/Reach ops j i:=by
 intro i o ho
 unfold dC at h
 have:=List.all_eq_true.1 h (o,i) (by rw[List.mem_zipIdx_iff_getElem?];simpa using ho)
 simp only[Bool.or_eq_true,beq_iff_eq]at this
 rcases this with((h1 |h1) |h1) |h1
 ·exact .inl h1
 ·exact .inr (.inl h1)
 ·exact .inr (.inr (.inl (gw h1)))
 ·exact .inr (.inr (.inr (gw h1)))
section
variable {E:Env} {P:Program} {σ:Sg} {m m':M} {w:World}
theorem yP{op:Op}{call:aF}{T:Tr Value}{v:Value}(hp:ed op=true)(h:cJ op E call T m=some (v,m')):m'=m:=by
 cases op <;>simp[ed]at hp <;>simp only[cJ]at h
 case move=>cases h;rfl
 case assign=>cases h;rfl
 case pick=>unfold nP at h;split at h <;>cases h;rfl
 case build=>unfold oX at h;split at h <;>cases h;rfl
 case nilCheck=>unfold fI at h;split at h <;>cases h <;>rfl
 case binOp=>unfold yX at h;split at h <;>cases h;rfl
 case unOp=>unfold Hv at h;split at h <;>cases h;rfl
 case makeFunc=>unfold gJ at h;split at h <;>cases h;rfl
 case fieldAddr=>unfold im at h;split at h <;>cases h;rfl
 case field=>unfold oW at h;split at h <;>cases h;rfl
 case indexAddr=>unfold il at h;split at h <;>cases h;rfl
 case index=>unfold oV at h;split at h <;>cases h;rfl
 case extract=>
  unfold jg at h
  split at h
  ·split at h <;>cases h;rfl
  ·cases h
theorem AD(hE:E.OK P){call:aF}{T:Tr Value}{a:Act}{o:Oper}{v:Value}(hp:ed o.op=true)(h:cJ o.op E call T m=some (v,m'))
  (hT:∀x∈o.op.operands.toList,aJ σ (ev T x) (a.eval x)):∃v',(execOp a.eval o).run P w=.ok (.value v') w/\aJ σ v v':=by
 have val:∀{s:Sem Value} {v':Value},s.run P w=.ok v' w->(do let x<-s;pure (Next.value x):Sem Next).run P w=.ok (.value v') w:=by
  intro s v' hs
  rw[Sem.run_bind,hs];rfl
 unfold execOp
 cases ho:o.op with
 |move x=>
  rw[ho]at h hT
  cases h
  exact⟨_,rfl,hT x (by simp[Op.operands])⟩
 |assign x=>
  rw[ho]at h hT
  cases h
  exact⟨_,rfl,hT x (by simp[Op.operands])⟩
 |pick c x y=>
  rw[ho]at h hT
  dsimp only
  simp only[cJ,nP]at h
  split at h
  ·rename_i t hc
   simp only[Option.some.injEq,Prod.mk.injEq]at h
   obtain⟨rfl,rfl⟩:=h
   have h1:=hT c (by simp[Op.operands])
   rw[hc]at h1
   rw[h1.bool]
   refine⟨_,rfl,?_⟩
   cases t
   ·exact hT y (by simp[Op.operands])
   ·exact hT x (by simp[Op.operands])
  ·cases h
 |build t ps=>
  rw[ho]at h hT
  dsimp only
  simp only[cJ,oX]at h
  split at h
  ·rename_i z hz
   cases h
   obtain⟨v',h1,h2⟩:=qW (w:=w) hE (T:=ev T) (A:=a.eval) (fun p hp=>hT p.2 (by simp only[Op.operands];exact List.mem_map_of_mem hp)) hz
   exact⟨_,val h1,h2⟩
  ·cases h
 |nilCheck x=>
  rw[ho]at h hT
  dsimp only
  have h1:=hT x (by simp[Op.operands])
  simp only[cJ,fI]at h
  split at h
  ·rename_i ad hx
   cases h
   rw[hx]at h1
   have h2:=h1
   obtain⟨i,hi,_,he⟩:=h1.dO
   rw[he]at h2⊢
   exact⟨_,rfl,h2⟩
  ·rename_i g a1 b1 hx
   cases h
   rw[hx]at h1
   have h2:=h1
   obtain⟨a',b',he,_⟩:=h1.tD
   rw[he]at h2⊢
   exact⟨_,rfl,h2⟩
  ·cases h
 |binOp op t x y yt=>
  rw[ho]at h hT
  dsimp only
  simp only[cJ,yX]at h
  split at h
  ·rename_i z hz
   cases h
   obtain⟨q1,q2⟩:=vv (w:=w) hE hz (hT x (by simp[Op.operands])) (hT y (by simp[Op.operands])) x y
   exact⟨_,val q1,.flat _ q2⟩
  ·cases h
 |unOp op t x=>
  rw[ho]at h hT
  dsimp only
  simp only[cJ,Hv]at h
  split at h
  ·rename_i z hz
   cases h
   obtain⟨q1,q2⟩:=xS (P:=P) (w:=w) hz (hT x (by simp[Op.operands]))
   exact⟨_,val q1,.flat _ q2⟩
  ·cases h
 |makeFunc f x y=>
  rw[ho]at h hT
  dsimp only
  simp only[cJ,gJ]at h
  split at h
  ·rename_i g
   cases h
   have e1:aT σ (x.toList.map (ev T)) (x.toList.map a.eval):=jm _ (fun o hx=>hT o (by simp[Op.operands];exact .inl (by simpa using hx)))
   have e2:aT σ (y.toList.map (ev T)) (y.toList.map a.eval):=jm _ (fun o hx=>hT o (by simp[Op.operands];exact .inr (by simpa using hx)))
   refine⟨_,rfl,?_⟩
   refine .func g _ _ _ _ (by simp) (by simp) (fun j u u' p q=>e1.2 j u u' (by simpa using p) (by simpa using q)) (fun j u u' p q=>e2.2 j u u' (by simpa using p) (by simpa using q))
  ·cases h
 |fieldAddr s x f=>
  rw[ho]at h hT
  dsimp only
  simp only[cJ,im]at h
  split at h
  ·rename_i z hz
   cases h
   obtain⟨v',q1,q2⟩:=lB (w:=w) hE hz (hT x (by simp[Op.operands]))
   exact⟨_,val q1,q2⟩
  ·cases h
 |field t x f=>
  rw[ho]at h hT
  dsimp only
  simp only[cJ,oW]at h
  split at h
  ·rename_i z hz
   cases h
   obtain⟨v',q1,q2⟩:=qS (w:=w) hE hz (hT x (by simp[Op.operands]))
   exact⟨_,val q1,q2⟩
  ·cases h
 |indexAddr t x y=>
  rw[ho]at h hT
  dsimp only
  simp only[cJ,il]at h
  split at h
  ·rename_i z hz
   cases h
   obtain⟨v',q1,q2⟩:=lA (w:=w) hE hz (hT x (by simp[Op.operands])) (hT y (by simp[Op.operands]))
   exact⟨_,val q1,q2⟩
  ·cases h
 |index t x y=>
  rw[ho]at h hT
  dsimp only
  simp only[cJ,oV]at h
  split at h
  ·rename_i z hz
   cases h
   obtain⟨v',q1,q2⟩:=qO (w:=w) hE hz (hT x (by simp[Op.operands])) (hT y (by simp[Op.operands]))
   exact⟨_,val q1,q2⟩
  ·cases h
 |extract x i=>
  rw[ho]at h hT
  dsimp only
  simp only[cJ,jg]at h
  split at h
  ·rename_i vs hx
   split at h
   ·rename_i z hz
    cases h
    have h1:=hT x (by simp[Op.operands])
    rw[hx]at h1
    obtain⟨vs',he,hl⟩:=h1.pU
    obtain⟨u',hu,hr⟩:=hl.get hz
    refine⟨u',val ?_,hr⟩
    rw[he]
    have:vs'[i]?=some u':=by simpa using hu
    simp[Instr.extract,this]
   ·cases h
  ·cases h
 |_=>rw[ho]at hp;simp[ed]at hp
def DStep(E:Env)(call:aF)(ops:Array Oper)(fr:Fr)(o:Oper)(j:Nat)(fr':Fr):Prop:=
 (cg ops fr.T o=false/\fr'={fr with T:=put fr.T o.dst undef})\/
 (cg ops fr.T o=true/\∃v m,cJ o.op E call fr.T {fr.m with low:=fr.m.n}=some (v,m)/\(fr.m.n<=m.low\/dC ops j=true\/sE ops j fr.m fr.T o.op=true)/\
  fr'={T:=put fr.T o.dst v,m:={m with low:=min fr.m.low m.low}})
theorem tO{call:aF}{ops:Array Oper}:∀(l:List Oper) (j:Nat) (fr fr':Fr),eY E call ops l j fr=some fr'->
  ∃tr:Nat->Fr,tr j=fr/\tr (j+l.length)=fr'/\∀i o,l[i]?=some o->DStep E call ops (tr (j+i)) o (j+i) (tr (j+i+1))
 |[],j,fr,fr',h=>by
  simp only[vr,Option.some.injEq]at h
  subst h
  exact⟨fun _=>fr,rfl,rfl,fun i o h=>by simp at h⟩
 |o::l,j,fr,fr',h=>by
  have key:∀fr1,DStep E call ops fr o j fr1->eY E call ops l (j+1) fr1=some fr'->
    ∃tr:Nat->Fr,tr j=fr/\tr (j+(o::l).length)=fr'/\∀i o',(o::l)[i]?=some o'->DStep E call ops (tr (j+i)) o' (j+i) (tr (j+i+1)):=by
   intro fr1 h1 h2
   obtain⟨tr,t1,t2,t3⟩:=tO l (j+1) fr1 fr' h2
   refine⟨fun k=>if k=j then fr else tr k,by simp,?_,?_⟩
   ·simp only[List.length_cons]
    rw[if_neg (by omega),<-t2]
    congr 1;omega
   ·intro i o' hi
    cases i with
    |zero=>
     simp only[List.getElem?_cons_zero,Option.some.injEq]at hi
     subst hi
     simp only[Nat.add_zero,if_true]
     rw[if_neg (by omega),t1]
     exact h1
    |succ i=>
     have:=t3 i o' (by simpa using hi)
     simp only
     rw[if_neg (by omega),if_neg (by omega)]
     have e:j+1+i=j+(i+1):=by omega
     rw[e]at this
     exact this
  rw[eX]at h
  cases hw:cg ops fr.T o with
  |false=>
   rw[hw]at h
   exact key _ (.inl ⟨hw,rfl⟩) h
  |true=>
   rw[hw]at h
   simp only[cond_true]at h
   cases ho:cJ o.op E call fr.T {fr.m with low:=fr.m.n}with
   |none=>rw[ho]at h;cases h
   |some p=>
    obtain⟨v,m⟩:=p
    rw[ho]at h
    simp only at h
    cases hb:(Nat.ble fr.m.n m.low ||(dC ops j ||sE ops j fr.m fr.T o.op))with
    |false=>rw[hb]at h;simp at h
    |true=>
     rw[hb]at h
     simp only[cond_true]at h
     refine key _ (.inr ⟨hw,v,m,ho,?_,rfl⟩) h
     simp only[Bool.or_eq_true]at hb
     exact hb.imp Nat.le_of_ble_eq_true id
end
end Go.D
namespace Go.D
open Go
def Sg.cut(σ:Sg)(n:Nat):Sg:=fun b=>if b < n then σ b else none
theorem Sg.cn{σ:Sg}{n b:Nat}{i:BI}:(σ.cut n) b=some i↔b < n/\σ b=some i:=by
 unfold Sg.cut
 by_cases h:b < n <;>simp[h]
theorem Sg.wT{σ τ:Sg}{n k:Nat}(h:σ.le τ)(hn:n<=k):(σ.cut n).le (τ.cut k):=by
 intro b i hb
 rw[Sg.cn]at hb⊢
 exact⟨by omega,h b i hb.2⟩
noncomputable def M.kill(m:M)(l:List Nat):M:={m with st:=l.foldl (fun t b=>t.set b .dead) m.st}
theorem CH:∀(l:List Nat) (t:Tr Ob) (b:Nat),((l.foldl (fun t b=>t.set b Ob.dead) t).get b).getD .dead=if b∈l then .dead else(t.get b).getD .dead
 |[],t,b=>by simp
 |x::l,t,b=>by
  rw[List.foldl_cons,CH l,Tr.bH]
  by_cases h1:b∈l
  ·simp[h1]
  ·by_cases h2:b=x
   ·subst h2;simp
   ·simp[h1,h2]
theorem M.eU(m:M)(l:List Nat)(b:Nat):(m.kill l).get b=if b∈l then .dead else m.get b:=by
 rw[M.dP,M.dP]
 show(if b < m.n then((l.foldl (fun t b=>t.set b Ob.dead) m.st).get b).getD .dead else .dead)=_
 rw[CH]
 by_cases h1:b < m.n <;>by_cases h2:b∈l <;>simp[h1,h2]
theorem M.tq(m:M):m.kill []=m:=rfl
theorem vP{E:Env}{call:aF}{T:Tr Value}{m0 m m1:M}{c:Call}{b:Nat}{v:Value}(hst:eI m0 T (.call c)=some b)(h:cJ (.call c) E call T m=some (v,m1)):
  ∃f x a,c.callee=.value f/\c.args.toList=[x]/\ev T f=.func (.func uk) #[] #[]/\ev T x=.pointer (some a)/\ny m0 a=some b/\call (.func uk) [.pointer (some a)] m=some (v,m1):=by
 unfold eI at hst
 dsimp only at hst
 split at hst
 ·rename_i f x hf hx
  split at hst
  ·rename_i g first captured a hg hax
   rw[cond_eq_ite]at hst
   split at hst
   ·rename_i hc
    simp only[Bool.and_eq_true]at hc
    obtain⟨⟨h1,h2⟩,h3⟩:=hc
    obtain rfl:=Nat.eq_of_beq_eq_true h1
    have e2:first= #[]:=by simpa using h2
    have e3:captured= #[]:=by simpa using h3
    subst e2
    subst e3
    refine⟨f,x,a,hf,hx,hg,hax,hst,?_⟩
    simp only[cJ,kR,hf,hg,hx,List.map_cons,List.map_nil,hax]at h
    simpa using h
   ·cases hst
  ·cases hst
 ·cases hst
theorem DR{E:Env}{P:Program}{call:aF}(cD:cB P call){T:Tr Value}{m0 m m1:M}{o:Op}{b:Nat}{v:Value}(hm0:∀a,ny m0 a=ny m a)(hst:eI m0 T o=some b)(h:cJ o E call T m=some (v,m1))(hb:b < m.n):m1.n=m.n/\∀c,c≠b->m1.get c=m.get c:=by
 cases o with
 |store t a x=>
  unfold eI at hst
  dsimp only at hst
  split at hst
  ·rename_i ad hev
   cases hst
   simp only[cJ,kQ,hev]at h
   split at h
   ·rename_i m2 hsv
    cases h
    unfold storeVar at hsv
    split at hsv
    ·cases hq:Nat.beq (cells (ev T x)).length _ with
     |false=>rw[hq]at hsv;cases hsv
     |true=>
      rw[hq]at hsv
      simp only[cond_true]at hsv
      unfold storeCells at hsv
      split at hsv
      ·cases hq2:(ad.spot.isNone && Nat.ble (ad.off+(cells (ev T x)).length) _ && (cells (ev T x)).all one)with
       |false=>rw[hq2]at hsv;cases hsv
       |true=>
        rw[hq2]at hsv
        cases hsv
        exact⟨rfl,fun c hc=>by rw[M.bH _ _ _ _ hb,if_neg hc]⟩
      ·cases hsv
    ·cases hsv
   ·cases h
  ·cases hst
 |call c=>
  obtain⟨f,x,a,_,_,_,_,hbuf,hcl⟩:=vP hst h
  rw[hm0]at hbuf
  obtain⟨_,rfl,_⟩:=cD.FD a m v m1 b hcl hbuf
  exact⟨rfl,fun c hc=>by rw[M.bH _ _ _ _ hb,if_neg hc]⟩
 |_=>cases hst
section
variable {E:Env} {P:Program} {call:aF} {ops:Array Oper} {nt:Nat} {tr:Nat->Fr}
structure Ctx(E:Env)(P:Program)(call:aF)(ops:Array Oper)(nt:Nat)(tr:Nat->Fr):Prop where
 hE:E.OK P
 cD:cB P call
 ord:Dc ops
 ok:∀o∈ops.toList,fK nt P.globals.size o=true
 step:∀j o,ops[j]?=some o->DStep E call ops (tr j) o j (tr (j+1))
 ghost:∀j,j<=ops.size->∃σ a w,dB P σ (tr j).m w/\cY σ (tr j).T a nt
theorem dB.low{σ:Sg}{m:M}{w:World}(h:dB P σ m w)(x:Nat):dB P σ {m with low:=x} w:=⟨h.mV,h.obj,h.lt,h.inj,h.iG⟩
theorem vg(hE:E.OK P)(cD:cB P call)(hok:∀o∈ops.toList,fK nt P.globals.size o=true)
  (hstep:∀j o,ops[j]?=some o->DStep E call ops (tr j) o j (tr (j+1))) {σ:Sg} {a:Act} {w:World} (hs:dB P σ (tr 0).m w) (hf:cY σ (tr 0).T a nt):
  ∀j,j<=ops.size->∃σ a w,dB P σ (tr j).m w/\cY σ (tr j).T a nt
 |0,_=>⟨σ,a,w,hs,hf⟩
 |j+1,hj=>by
  obtain⟨σ1,a1,w1,h1,h2⟩:=vg hE cD hok hstep hs hf j (by omega)
  have ho:ops[j]?=some ops[j]:=by simp[show j < ops.size by omega]
  have hokj:=hok ops[j] (by simp)
  rcases hstep j _ ho with⟨_,h⟩ |⟨_,v,m,hop,_,h⟩
  ·rw[h]
   exact⟨σ1,a1.put ops[j].dst undef,w1,h1,h2.put (ee hokj) aJ.undef⟩
  ·rw[h]
   obtain⟨σ',w',v',hv,he⟩:=(oU hE cD (h1.low (tr j).m.n) hop (a:=a1) (fun x hx=>h2.AI h1 (fJ hokj x hx))).1
   exact⟨σ',a1.put ops[j].dst v',w',he.nG.low _,(h2.mono he.ext).put (ee hokj) hv⟩
def Wr(E:Env)(call:aF)(ops:Array Oper)(tr:Nat->Fr)(j:Nat):Prop:=
 ∃o v m,ops[j]?=some o/\cg ops (tr j).T o=true/\cJ o.op E call (tr j).T {(tr j).m with low:=(tr j).m.n}=some (v,m)/\¬(tr j).m.n<=m.low
def Kc(E:Env)(call:aF)(ops:Array Oper)(tr:Nat->Fr)(j:Nat):Prop:=Wr E call ops tr j/\dC ops j=true
def rW(E:Env)(call:aF)(ops:Array Oper)(tr:Nat->Fr)(j b:Nat):Prop:=
 Wr E call ops tr j/\dC ops j=false/\∃o,ops[j]?=some o/\eI (tr j).m (tr j).T o.op=some b/\kd ops j b (tr j).T=true
theorem Ctx.wr(c:Ctx E P call ops nt tr){j:Nat}(h:Wr E call ops tr j):Kc E call ops tr j\/∃b,rW E call ops tr j b:=by
 cases hb:dC ops j with
 |true=>exact .inl ⟨h,hb⟩
 |false=>
  refine .inr ?_
  obtain⟨o,v,m,ho,hw,hop,hn⟩:=id h
  rcases c.step j o ho with⟨h0,_⟩ |⟨_,v',m',hop',hq,_⟩
  ·rw[hw]at h0;cases h0
  ·rw[hop]at hop'
   cases hop'
   rcases hq with hq |hq |hq
   ·exact absurd hq hn
   ·rw[hb]at hq;cases hq
   ·unfold sE at hq
    split at hq
    ·rename_i b hst
     exact⟨b,h,hb,o,ho,hst,hq⟩
    ·cases hq
theorem Wr.lt{j:Nat}(h:Wr E call ops tr j):j < ops.size:=by
 obtain⟨o,_,_,ho,_⟩:=h
 exact(Array.getElem?_eq_some_iff.1 ho).1
theorem rW.js{j b b':Nat}(h:rW E call ops tr j b)(h':rW E call ops tr j b'):b'=b:=by
 obtain⟨_,_,o,ho,hs,_⟩:=h
 obtain⟨_,_,o',ho',hs',_⟩:=h'
 rw[ho]at ho'
 cases ho'
 rw[hs]at hs'
 cases hs'
 rfl
theorem Ctx.MY(c:Ctx E P call ops nt tr){j b:Nat}(h:rW E call ops tr j b):b < (tr j).m.n:=by
 obtain⟨⟨o,v,m,ho,hw,hop,hn⟩,_,o',ho',hst,_⟩:=h
 rw[ho]at ho'
 cases ho'
 cases hoo:o.op with
 |store t a x=>
  rw[hoo]at hst hop
  unfold eI at hst
  dsimp only at hst
  split at hst
  ·rename_i ad hev
   cases hst
   simp only[cJ,kQ,hev]at hop
   split at hop
   ·rename_i m2 hsv
    refine Classical.byContradiction fun hlt=>?_
    have hd:({(tr j).m with low:=(tr j).m.n}:M).get ad.block=.dead:=by
     rw[M.dP,if_neg hlt]
    unfold storeVar at hsv
    split at hsv
    ·cases hq:Nat.beq (cells (ev (tr j).T x)).length _ with
     |false=>rw[hq]at hsv;cases hsv
     |true=>
      rw[hq]at hsv
      simp only[cond_true]at hsv
      unfold storeCells at hsv
      rw[hd]at hsv
      cases hsv
    ·cases hsv
   ·cases hop
  ·cases hst
 |call cc=>
  rw[hoo]at hst hop
  obtain⟨f,x,a,_,_,_,_,hbuf,hcl⟩:=vP hst hop
  obtain⟨hlive,_⟩:=c.cD.FD a _ v m b hcl hbuf
  refine Classical.byContradiction fun hlt=>hlive ?_
  rw[M.dP,if_neg hlt]
 |_=>rw[hoo]at hst;cases hst
theorem Ctx.fact(c:Ctx E P call ops nt tr){j:Nat}{o:Oper}(ho:ops[j]?=some o):(tr j).m.n<=(tr (j+1)).m.n/\(tr (j+1)).m.low<=(tr j).m.low/\
  (∀b,b < (tr (j+1)).m.low->b < (tr j).m.n->(tr (j+1)).m.get b=(tr j).m.get b)/\
  (¬Kc E call ops tr j->∀b,b < (tr j).m.n->¬rW E call ops tr j b->(tr (j+1)).m.get b=(tr j).m.get b):=by
 have hlt:j < ops.size:=(Array.getElem?_eq_some_iff.1 ho).1
 have hokj:=c.ok o (by simpa using Array.mem_of_getElem? ho)
 rcases c.step j o ho with⟨_,h⟩ |⟨hw,v,m,hop,hb,h⟩
 ·rw[h]
  exact⟨Nat.le_refl _,Nat.le_refl _,fun _ _ _=>rfl,fun _ _ _ _=>rfl⟩
 ·obtain⟨σ1,a1,w1,h1,h2⟩:=c.ghost j (by omega)
  obtain⟨σ',w',v',hv,he⟩:=(oU c.hE c.cD (h1.low (tr j).m.n) hop (a:=a1) (fun x hx=>h2.AI h1 (fJ hokj x hx))).1
  have hn:=he.FE
  have ha:=he.abs
  rw[h]
  refine⟨hn,Nat.min_le_left _ _,fun b hb hbn=>ha b (by simp only at hb;omega) hbn,fun hnb b hbn hnp=>?_⟩
  by_cases hwr:(tr j).m.n<=m.low
  ·exact ha b (by omega) hbn
  ·have hW:Wr E call ops tr j:=⟨o,v,m,ho,hw,hop,hwr⟩
   rcases c.wr hW with hB |⟨b',hP⟩
   ·exact absurd hB hnb
   ·have hb':=c.MY hP
    obtain⟨_,_,o',ho',hst,_⟩:=id hP
    rw[ho]at ho'
    cases ho'
    have hfin:=(DR (m0:=(tr j).m) (m:={(tr j).m with low:=(tr j).m.n}) c.cD (fun _=>rfl) hst hop hb').2 b fun e=>hnp (e ▸ hP)
    exact hfin
theorem Ctx.mS(c:Ctx E P call ops nt tr){j:Nat}{o:Oper}(ho:ops[j]?=some o)(hp:ed o.op=true):(tr (j+1)).m.n=(tr j).m.n/\¬Wr E call ops tr j:=by
 constructor
 ·rcases c.step j o ho with⟨_,h⟩ |⟨hw,v,m,hop,hb,h⟩
  ·rw[h]
  ·rw[h,yP hp hop]
 ·rintro⟨o',v,m,ho',_,hop,hn⟩
  rw[ho]at ho'
  cases ho'
  rw[yP hp hop]at hn
  exact hn (Nat.le_refl _)
theorem Ctx.Z8(c:Ctx E P call ops nt tr){j:Nat}(h:Kc E call ops tr j):dC ops j=true/\j < ops.size:=⟨h.2,h.1.lt⟩
theorem vA{j:Nat}(h:j < ops.size):∃o,ops[j]?=some o:=⟨ops[j],by simp[h]⟩
theorem Ctx.mono(c:Ctx E P call ops nt tr){i:Nat}:∀k,i<=k->k<=ops.size->(tr i).m.n<=(tr k).m.n/\(tr k).m.low<=(tr i).m.low
 |0,h,_=>by
  obtain rfl:i=0:=by omega
  exact⟨Nat.le_refl _,Nat.le_refl _⟩
 |k+1,h,hk=>by
  by_cases hik:i=k+1
  ·subst hik;exact⟨Nat.le_refl _,Nat.le_refl _⟩
  ·obtain⟨h1,h2⟩:=c.mono (i:=i) k (by omega) (by omega)
   obtain⟨o,ho⟩:=vA (ops:=ops) (show k < ops.size by omega)
   obtain⟨h3,h4,_⟩:=c.fact ho
   omega
theorem Ctx.kJ(c:Ctx E P call ops nt tr){i:Nat}:∀k,i<=k->k<=ops.size->(∀b,i<=b->b < k->¬Kc E call ops tr b)->∀x,x < (tr i).m.n->(∀p,i<=p->p < k->¬rW E call ops tr p x)->(tr k).m.get x=(tr i).m.get x
 |0,h,_,_,x,_,_=>by
  obtain rfl:i=0:=by omega
  rfl
 |k+1,h,hk,hb,x,hx,hp=>by
  by_cases hik:i=k+1
  ·subst hik;rfl
  ·obtain⟨o,ho⟩:=vA (ops:=ops) (show k < ops.size by omega)
   have h1:=(c.mono k (show i<=k by omega) (by omega)).1
   rw[(c.fact ho).2.2.2 (hb k (show i<=k by omega) (Nat.lt_succ_self k)) x (Nat.lt_of_lt_of_le hx h1) (hp k (by omega) (Nat.lt_succ_self k))]
   exact c.kJ k (by omega) (by omega) (fun b h1 h2=>hb b h1 (by omega)) x hx (fun p h1 h2=>hp p h1 (by omega))
theorem Ctx.abs(c:Ctx E P call ops nt tr):∀k,k<=ops.size->∀x,x < (tr k).m.low->x < (tr 0).m.n->(tr k).m.get x=(tr 0).m.get x
 |0,_,_,_,_=>rfl
 |k+1,hk,x,hx,hn=>by
  obtain⟨o,ho⟩:=vA (ops:=ops) (show k < ops.size by omega)
  have h1:=(c.mono (i:=0) k (by omega) (by omega)).1
  obtain⟨_,h2,h3,_⟩:=c.fact ho
  rw[h3 x hx (by omega)]
  exact c.abs k (by omega) x (by omega) hn
theorem Hh(T:Tr Value){dst:Option Tmp}{t:Tmp}(h:dst≠some t)(v:Value):gR (put T dst v) t=gR T t:=by
 cases dst with
 |none=>rfl
 |some d=>
  rw[BB,if_neg (fun e=>h (by rw[e]))]
theorem Ctx.mX(c:Ctx E P call ops nt tr){i t:Nat}:∀k,i<=k->k<=ops.size->(∀j o,i<=j->j < k->ops[j]?=some o->o.dst≠some t)->gR (tr k).T t=gR (tr i).T t
 |0,h,_,_=>by
  obtain rfl:i=0:=by omega
  rfl
 |k+1,h,hk,hb=>by
  by_cases hik:i=k+1
  ·subst hik;rfl
  ·obtain⟨o,ho⟩:=vA (ops:=ops) (show k < ops.size by omega)
   have hne:=hb k o (by omega) (by omega) ho
   have ih:=c.mX k (by omega) (by omega) (fun j o h1 h2=>hb j o h1 (by omega))
   rw[<-ih]
   rcases c.step k o ho with⟨_,h⟩ |⟨_,v,m,_,_,h⟩
   ·rw[h];exact Hh _ hne _
   ·rw[h];exact Hh _ hne _
structure Inv(E:Env)(P:Program)(call:aF)(ops:Array Oper)(nt:Nat)(tr:Nat->Fr)(σ0:Sg)(w0:World)(ds:List Deferred)(L:Nat->Prop)(σ:Sg)(a:Act)(w:World):Prop where
 lt:∀i,L i->i < ops.size
 closed:xH ops L
 MT:a.tmps.size=nt
 defs:a.defers=ds
 tmp:∀t,t < nt->∃k,k<=ops.size/\aJ (σ.cut (tr k).m.n) (gR (tr k).T t) (a.eval (.tmp t))/\(∀i o,L i->ops[i]?=some o->o.dst=some t->i < k)/\(k=0\/∃o,L (k-1)/\ops[k-1]?=some o/\o.dst=some t)
 win:∀k l,k<=ops.size->(∀b,Kc E call ops tr b->(b < k↔L b))->(∀p b,rW E call ops tr p b->(p < k↔L p)\/b∈l)->dB P (σ.cut (tr k).m.n) ((tr k).m.kill l) w
 FD:∀p b,L p->rW E call ops tr p b->∃i,σ b=some i
 mV:∀b i,σ b=some i->b < (tr 0).m.n\/∃j,L j/\(tr j).m.n<=b/\b < (tr (j+1)).m.n
 base:σ0.le σ
 new:∀b i,σ b=some i->σ0 b=none->(tr 0).m.n<=b/\(w0.heap.size<=i.bX\/∃b0 i0,σ0 b0=some i0/\i0.bX=i.bX/\(tr ops.size).m.low<=b0)
 hle:w0.heap.size<=w.heap.size
 heap:∀B,B < w0.heap.size->(∀b i,σ0 b=some i->i.bX=B->b < (tr ops.size).m.low)->w.heap[B]?=w0.heap[B]?
 os:w.os=w0.os
 tape:w.tape=w0.tape
 output:w.output=w0.output
 iG:∀g,g < P.globals.size->g < (tr 0).m.n/\σ0 g=some ⟨g,none⟩
variable {σ0 σ:Sg} {w0 w:World} {ds:List Deferred} {L:Nat->Prop} {a:Act}
theorem Inv.names(c:Ctx E P call ops nt tr)(h:Inv E P call ops nt tr σ0 w0 ds L σ a w){j:Nat}{o:Oper}(hj:¬L j)(ho:ops[j]?=some o)(hed:∀e∈o.after,Region.binds .any e=true->L e.on)
  {t:Nat} (ht:t < nt) (hn:t∈hZ ops o):aJ (σ.cut (tr j).m.n) (gR (tr j).T t) (a.eval (.tmp t)):=by
 have hjl:j < ops.size:=(Array.getElem?_eq_some_iff.1 ho).1
 obtain⟨k,hk,hv,hw,hlast⟩:=h.tmp t ht
 have hkj:k<=j:=by
  rcases hlast with rfl |⟨o',hL,ho',hd⟩
  ·omega
  ·refine Classical.byContradiction fun hc=>?_
   have hne:k-1≠j:=fun e=>hj (e ▸ hL)
   rcases c.ord.apart j (k-1) o o' ho ho' (by omega)with hr |⟨h1,_⟩
   ·exact hj (hr.gK h.closed hL)
   ·exact h1 t hd hn
 have hT:gR (tr j).T t=gR (tr k).T t:=c.mX j hkj (by omega) fun i oi h1 h2 hoi hd=>by
  rcases c.ord.apart i j oi o hoi ho h2 with hr |⟨_,h3⟩
  ·have:=hr.listed h.closed (fun o' ho'=>by rw[ho]at ho';cases ho';exact hed)
   have:=hw i oi this hoi hd
   omega
  ·exact h3 t hd hn
 rw[hT]
 exact hv.mono (Sg.wT (fun _ _ x=>x) (c.mono j hkj (by omega)).1)
theorem Inv.zd(c:Ctx E P call ops nt tr)(h:Inv E P call ops nt tr σ0 w0 ds L σ a w){j:Nat}{o:Oper}(hj:¬L j)(ho:ops[j]?=some o){v v':Value}(hT:(tr (j+1)).T=put (tr j).T o.dst v)
  {σ':Sg} (hle:σ.le σ') (hv:aJ (σ'.cut (tr (j+1)).m.n) v v'):∀t,t < nt->∃k,k<=ops.size/\aJ (σ'.cut (tr k).m.n) (gR (tr k).T t) ((a.put o.dst v').eval (.tmp t))/\
   (∀i o',(i=j\/L i)->ops[i]?=some o'->o'.dst=some t->i < k)/\(k=0\/∃o',(k-1=j\/L (k-1))/\ops[k-1]?=some o'/\o'.dst=some t):=by
 intro t ht
 have hjl:j < ops.size:=(Array.getElem?_eq_some_iff.1 ho).1
 by_cases hd:o.dst=some t
 ·refine⟨j+1,by omega,?_,?_,.inr ⟨o,.inl rfl,ho,hd⟩⟩
  ·rw[hT,hd,BB,if_pos rfl]
   have:(a.put (some t) v').eval (.tmp t)=v':=by simp[Act.put,Act.eval,h.MT,ht]
   rw[this];exact hv
  ·rintro i o' (rfl |hL) ho' hd'
   ·omega
   ·refine Classical.byContradiction fun hc=>?_
    rcases c.ord.apart j i o o' ho ho' (by omega)with hr |⟨h1,_⟩
    ·exact hj (hr.gK h.closed hL)
    ·exact h1 t hd' (by unfold hZ;rw[hd];simp)
 ·obtain⟨k,hk,hv,hw,hlast⟩:=h.tmp t ht
  refine⟨k,hk,?_,?_,hlast.imp id (fun⟨o',x,y,z⟩=>⟨o',.inr x,y,z⟩)⟩
  ·rw[Act.eval_put (fun d hd' he=>by cases he;exact hd hd')]
   exact hv.mono (Sg.wT hle (Nat.le_refl _))
  ·rintro i o' (rfl |hL) ho' hd'
   ·rw[ho]at ho';cases ho';exact absurd hd' hd
   ·exact hw i o' hL ho' hd'
end
end Go.D
namespace Go.D
open Go
section
variable {E:Env} {P:Program} {call:aF} {ops:Array Oper} {nt:Nat} {tr:Nat->Fr} {σ0 σ:Sg} {w0 w:World} {ds:List Deferred} {L:Nat->Prop} {a:Act}
theorem put_defers(a:Act)(dst:Option Tmp)(v:Value):(a.put dst v).defers=a.defers:=by cases dst <;>rfl
theorem yN(a:Act)(dst:Option Tmp)(v:Value):(a.put dst v).tmps.size=a.tmps.size:=by cases dst <;>simp[Act.put]
theorem Inv.qU(h:Inv E P call ops nt tr σ0 w0 ds L σ a w){j:Nat}{o:Oper}(ho:ops[j]?=some o)(hed:∀e∈o.after,Region.binds .any e=true->L e.on):xH ops (fun i=>i=j\/L i):=by
 rintro i o' ho' (rfl |hL) e he hb
 ·rw[ho]at ho';cases ho'
  exact .inr (hed e he hb)
 ·exact .inr (h.closed i o' ho' hL e he hb)
theorem Inv.same(c:Ctx E P call ops nt tr)(h:Inv E P call ops nt tr σ0 w0 ds L σ a w){j:Nat}{o:Oper}(hj:¬L j)(ho:ops[j]?=some o)(hed:∀e∈o.after,Region.binds .any e=true->L e.on)
  {v v':Value} (hT:(tr (j+1)).T=put (tr j).T o.dst v) (hb:¬Wr E call ops tr j) (hv:aJ (σ.cut (tr (j+1)).m.n) v v'):
  Inv E P call ops nt tr σ0 w0 ds (fun i=>i=j\/L i) σ (a.put o.dst v') w where
 lt:=by
  rintro i (rfl |hL)
  ·exact(Array.getElem?_eq_some_iff.1 ho).1
  ·exact h.lt i hL
 closed:=h.qU ho hed
 MT:=by rw[yN];exact h.MT
 defs:=by rw[put_defers];exact h.defs
 tmp:=h.zd c hj ho hT (fun _ _ x=>x) hv
 win:=fun k l hk hw hp=>h.win k l hk (fun b hb'=>(hw b hb').trans ⟨fun x=>x.resolve_left (fun e=>hb (e ▸ hb'.1)),.inr⟩)
  (fun p b hp'=>(hp p b hp').imp (fun x=>x.trans ⟨fun x=>x.resolve_left (fun e=>hb (e ▸ hp'.1)),.inr⟩) id)
 FD:=by
  rintro p b (rfl |hL) hp
  ·exact absurd hp.1 hb
  ·exact h.FD p b hL hp
 mV:=fun b i hb=>(h.mV b i hb).imp id fun⟨q,x,y⟩=>⟨q,.inr x,y⟩
 base:=h.base
 new:=h.new
 hle:=h.hle
 heap:=h.heap
 os:=h.os
 tape:=h.tape
 output:=h.output
 iG:=h.iG
theorem Inv.FJ(c:Ctx E P call ops nt tr)(h:Inv E P call ops nt tr σ0 w0 ds L σ a w){j:Nat}{o:Oper}(hj:¬L j)(ho:ops[j]?=some o)(hed:∀e∈o.after,Region.binds .any e=true->L e.on)
  (hp:ed o.op=false):∀b,Kc E call ops tr b->(b < j↔L b):=by
 intro b hb
 have hbb:=(c.Z8 hb).1
 rcases kh hbb j o ho with rfl |h1 |h1 |h1
 ·exact⟨fun x=>absurd x (Nat.lt_irrefl _),fun x=>absurd x hj⟩
 ·rw[hp]at h1;cases h1
 ·have:=h1.lt c.ord.lt
  exact⟨fun x=>by omega,fun x=>absurd (h1.gK h.closed x) hj⟩
 ·exact⟨fun _=>h1.listed h.closed (fun o' ho'=>by rw[ho]at ho';cases ho';exact hed),fun _=>h1.lt c.ord.lt⟩
theorem qg{ops:Array Oper}{p b i:Nat}{T:Tr Value}{o:Oper}(h:kd ops p b T=true)(ho:ops[i]?=some o)(hp:ed o.op=false):
  i=p\/Reach ops i p\/Reach ops p i\/(i < p/\((∃t,o.op=.alloc t)\/(∃t x,o.op=.box t x)\/(∃t s,o.op=.load t (.tmp s)/\(∀k q,i<=k->k < p->ops[k]?=some q->q.dst≠some s)/\
   (∀g w d,o.guard=some (g,w)->(ops[g]?).bind (·.dst)=some d->∀k q,i<=k->k < p->ops[k]?=some q->q.dst≠some d)/\(cg ops T o=false\/∃ad,gR T s=.pointer (some ad)/\ad.block≠b))\/
   kT o.op=true\/∃s,lenOf o.op=some s/\(∀k q,i<=k->k < p->ops[k]?=some q->q.dst≠some s)/\∀r,gR T s≠.map r)):=by
 unfold kd at h
 have h:=List.all_eq_true.1 h (o,i) (by rw[List.mem_zipIdx_iff_getElem?];simpa using ho)
 have same:∀t,(ops.toList.zipIdx.all fun(q,k)=> !(Nat.ble i k && Nat.blt k p && q.dst==some t))=true->∀k q,i<=k->k < p->ops[k]?=some q->q.dst≠some t:=by
  intro t hs k q h1 h2 hq e
  have hs:=List.all_eq_true.1 hs (q,k) (by rw[List.mem_zipIdx_iff_getElem?];simpa using hq)
  dsimp only at hs
  rw[dQ]at hs
  simp[Nat.ble_eq_true_of_le h1,h2,e]at hs
 dsimp only at h
 simp only[Bool.or_eq_true,beq_iff_eq,Bool.and_eq_true,hp]at h
 rcases h with(((h |h) |h) |h) |⟨h1,h2⟩
 ·exact .inl h
 ·cases h
 ·exact .inr (.inl (gw h))
 ·exact .inr (.inr (.inl (gw h)))
 ·rw[dQ]at h1
  refine .inr (.inr (.inr ⟨by simpa using h1,?_⟩))
  split at h2
  ·exact .inl ⟨_,by assumption⟩
  ·exact .inr (.inl ⟨_,_,by assumption⟩)
  ·rename_i t s hop
   simp only[Bool.and_eq_true,Bool.or_eq_true,Bool.not_eq_true']at h2
   obtain⟨⟨h3,h4⟩,h5⟩:=h2
   refine .inr (.inr (.inl ⟨t,s,hop,same s h3,?_,?_⟩))
   ·intro g w d hg hd
    rw[hg]at h4
    simp only[Array.getElem?_toList,hd]at h4
    exact same d h4
   ·rcases h5 with h5 |h5
    ·exact .inl h5
    ·split at h5
     ·rename_i ad had
      exact .inr ⟨ad,had,by simpa using h5⟩
     ·cases h5
  ·rcases Bool.or_eq_true _ _ |>.mp h2 with h2 |h2
   ·exact .inr (.inr (.inr (.inl h2)))
   ·split at h2
    ·rename_i t ht
     obtain⟨h3,h4⟩:=Bool.and_eq_true _ _ |>.mp h2
     refine .inr (.inr (.inr (.inr ⟨t,ht,same t h3,fun r hr=>?_⟩)))
     rw[hr]at h4
     cases h4
    ·cases h2
theorem rW.ok{p b:Nat}(h:rW E call ops tr p b):kd ops p b (tr p).T=true:=by
 obtain⟨_,_,_,_,_,hk⟩:=h
 exact hk
theorem Wr.op{j:Nat}(c:Ctx E P call ops nt tr)(h:Wr E call ops tr j):∃o,ops[j]?=some o/\ed o.op=false:=by
 obtain⟨o,v,m,ho,hw,hop,hn⟩:=id h
 refine⟨o,ho,?_⟩
 cases hp:ed o.op with
 |false=>rfl
 |true=>exact absurd h (c.mS ho hp).2
theorem Inv.Kh(c:Ctx E P call ops nt tr)(h:Inv E P call ops nt tr σ0 w0 ds L σ a w){j:Nat}{o:Oper}(hj:¬L j)(ho:ops[j]?=some o)(hed:∀e∈o.after,Region.binds .any e=true->L e.on)
  (hp:ed o.op=false):∃l:List Nat,(∀p b,rW E call ops tr p b->(p < j↔L p)\/b∈l)/\∀b∈l,∃p,L p/\rW E call ops tr p b/\j < p/\kd ops p b (tr p).T=true/\¬Reach ops j p/\¬Reach ops p j:=by
 have key:∀n,∃l:List Nat,(∀p b,p < n->rW E call ops tr p b->(p < j↔L p)\/b∈l)/\∀b∈l,∃p,L p/\rW E call ops tr p b/\j < p/\kd ops p b (tr p).T=true/\¬Reach ops j p/\¬Reach ops p j:=by
  intro n
  induction n with
  |zero=>exact⟨[],fun p b hpn=>by omega,fun b hb=>by cases hb⟩
  |succ n ih=>
   obtain⟨l,h1,h2⟩:=ih
   by_cases hx:∃b,rW E call ops tr n b/\¬(n < j↔L n)
   ·obtain⟨b,hb,hne⟩:=hx
    refine⟨b::l,fun p b' hpn hb'=>?_,fun b' hb'=>?_⟩
    ·by_cases hpn':p=n
     ·subst hpn'
      rw[hb.js hb']
      exact .inr List.mem_cons_self
     ·exact(h1 p b' (by omega) hb').imp id (List.mem_cons_of_mem _)
    ·rcases List.mem_cons.1 hb' with rfl |hb'
     ·have hok:kd ops n b' (tr n).T=true:=by obtain⟨_,_,_,_,_,hk⟩:=id hb;exact hk
      rcases qg hok ho hp with rfl |hr |hr |⟨hlt,_⟩
      ·exact absurd ⟨fun x=>absurd x (Nat.lt_irrefl _),fun x=>absurd x hj⟩ hne
      ·exfalso
       have:=hr.lt c.ord.lt
       exact hne ⟨fun x=>by omega,fun x=>absurd (hr.gK h.closed x) hj⟩
      ·exfalso
       have:=hr.lt c.ord.lt
       exact hne ⟨fun _=>hr.listed h.closed (fun o' ho'=>by rw[ho]at ho';cases ho';exact hed),fun _=>this⟩
      ·have hL:L n:=Classical.byContradiction fun hc=>hne ⟨fun x=>by omega,fun x=>absurd x hc⟩
       refine⟨n,hL,hb,hlt,hok,fun hr=>hj (hr.gK h.closed hL),fun hr=>?_⟩
       have:=hr.lt c.ord.lt
       omega
     ·exact h2 b' hb'
   ·refine⟨l,fun p b' hpn hb'=>?_,h2⟩
    by_cases hpn':p=n
    ·subst hpn'
     exact .inl (Classical.byContradiction fun hc=>hx ⟨b',hb',hc⟩)
    ·exact h1 p b' (by omega) hb'
 obtain⟨l,h1,h2⟩:=key ops.size
 exact⟨l,fun p b hb=>h1 p b hb.1.lt hb,h2⟩
theorem Inv.effect(c:Ctx E P call ops nt tr)(h:Inv E P call ops nt tr σ0 w0 ds L σ a w){j:Nat}{o:Oper}(hj:¬L j)(ho:ops[j]?=some o)(hed:∀e∈o.after,Region.binds .any e=true->L e.on)
  (hp:ed o.op=false) {v v':Value} {m mk:M} {lk:List Nat} {τ:Sg} {w':World} (hkn:mk.n=m.n) (hkl:mk.low=m.low) (hkg:∀b,b∉lk\/(tr j).m.n<=b->mk.get b=m.get b)
  (hlk:∀p b,rW E call ops tr p b->(p < j↔L p)\/b∈lk)
  (hev:Ev P (σ.cut (tr j).m.n) {(tr j).m.kill lk with low:=(tr j).m.n} w τ mk w') (hv:aJ τ v v')
  (hfr:tr (j+1)={T:=put (tr j).T o.dst v,m:={m with low:=min (tr j).m.low m.low}}) (hq:((tr j).m.n<=m.low/\¬Wr E call ops tr j)\/(Wr E call ops tr j/\lk=[]))
  (hoth:∀b,rW E call ops tr j b->(tr j).m.get b≠.dead/\∃i,σ b=some i/\∀B,B≠i.bX->w'.heap[B]?=w.heap[B]?):
  ∃σ',Inv E P call ops nt tr σ0 w0 ds (fun i=>i=j\/L i) σ' (a.put o.dst v') w':=by
 have hjl:j < ops.size:=(Array.getElem?_eq_some_iff.1 ho).1
 have hn1:(tr (j+1)).m.n=m.n:=by rw[hfr]
 have hg1:∀b,(tr (j+1)).m.get b=m.get b:=by intro b;rw[hfr];rfl
 have hlow1:(tr (j+1)).m.low<=m.low:=by rw[hfr];exact Nat.min_le_right _ _
 have hN:=(c.mono (i:=j+1) ops.size (by omega) (Nat.le_refl _)).2
 have hnle:(tr j).m.n<=m.n:=by have:=hev.FE;rw[hkn]at this;exact this
 have hfree:∀b i,σ b=some i->¬((tr j).m.n<=b/\b < m.n):=by
  rintro b i hb ⟨h1,h2⟩
  rcases h.mV b i hb with h3 |⟨q,hLq,h3,h4⟩
  ·have:=(c.mono (i:=0) j (by omega) (by omega)).1
   omega
  ·have hql:=h.lt q hLq
   rcases Nat.lt_trichotomy q j with hqj |rfl |hqj
   ·have:=(c.mono (i:=q+1) j (by omega) (by omega)).1
    omega
   ·exact hj hLq
   ·have:=(c.mono (i:=j+1) q (by omega) (by omega)).1
    omega
 have hτ:∀b i,τ b=some i->b < (tr j).m.n->σ b=some i:=by
  intro b i hb hbn
  cases hs:(σ.cut (tr j).m.n) b with
  |some i'=>
   have:=hev.ext b i' hs
   rw[hb]at this;cases this
   exact(Sg.cn.1 hs).2
  |none=>
   have h0:=(hev.new b i hb hs).1
   have h0:(tr j).m.n<=b:=h0
   omega
 have hτn:∀b i,τ b=some i->b < m.n:=fun b i hb=>by have:=hev.nG.mV b i hb;omega
 let σ':Sg:=fun b=>if(tr j).m.n<=b/\b < m.n then τ b else σ b
 have hle:σ.le σ':=by
  intro b i hb
  show(if(tr j).m.n<=b/\b < m.n then τ b else σ b)=some i
  rw[if_neg (hfree b i hb)]
  exact hb
 have hτle:∀k,m.n<=k->τ.le (σ'.cut k):=by
  intro k hk b i hb
  have hbn:=hτn b i hb
  rw[Sg.cn]
  refine⟨by omega,?_⟩
  show(if(tr j).m.n<=b/\b < m.n then τ b else σ b)=some i
  by_cases hbj:(tr j).m.n<=b
  ·rw[if_pos ⟨hbj,hbn⟩];exact hb
  ·rw[if_neg (fun x=>hbj x.1)]
   exact hτ b i hb (by omega)
 have hσ':∀b i,σ' b=some i->(((tr j).m.n<=b/\b < m.n)/\τ b=some i)\/(¬((tr j).m.n<=b/\b < m.n)/\σ b=some i):=by
  intro b i hb
  have hb:(if(tr j).m.n<=b/\b < m.n then τ b else σ b)=some i:=hb
  by_cases hc:(tr j).m.n<=b/\b < m.n
  ·rw[if_pos hc]at hb;exact .inl ⟨hc,hb⟩
  ·rw[if_neg hc]at hb;exact .inr ⟨hc,hb⟩
 have hwj:=h.FJ c hj ho hed hp
 have hs:=hev.nG
 refine⟨σ',?_⟩
 constructor
 ·rintro i (rfl |hL)
  ·exact hjl
  ·exact h.lt i hL
 ·exact h.qU ho hed
 ·rw[yN];exact h.MT
 ·rw[put_defers];exact h.defs
 ·exact h.zd c hj ho (by rw[hfr]) hle (hv.mono (by rw[hn1];exact hτle _ (Nat.le_refl _)))
 ·
  intro k l hk hw hpw
  by_cases hwr:Wr E call ops tr j
  ·
   obtain rfl:lk=[]:=(hq.resolve_left fun x=>x.2 hwr).2
   have hkg':∀b,mk.get b=m.get b:=fun b=>hkg b (.inl (by simp))
   have hpj:∀p b,rW E call ops tr p b->(p < j↔L p):=fun p b hb=>(hlk p b hb).resolve_right (by simp)
   have hall:∀b i,σ b=some i->b < (tr j).m.n:=by
    intro b i hb
    rcases h.mV b i hb with h3 |⟨q,hLq,h3,h4⟩
    ·have:=(c.mono (i:=0) j (by omega) (by omega)).1
     omega
    ·have hql:=h.lt q hLq
     obtain⟨oq,hoq⟩:=vA (ops:=ops) hql
     have before:Reach ops q j->b < (tr j).m.n:=fun h5=>by
      have:=h5.lt c.ord.lt
      have:=(c.mono (i:=q+1) j (by omega) (by omega)).1
      omega
     cases hpq:ed oq.op with
     |true=>have:=(c.mS hoq hpq).1;omega
     |false=>
      rcases c.wr hwr with hbar |⟨b0,hprv⟩
      ·rcases kh hbar.2 q oq hoq with rfl |h5 |h5 |h5
       ·exact absurd hLq hj
       ·rw[hpq]at h5;cases h5
       ·exact before h5
       ·exact absurd (h5.gK h.closed hLq) hj
      ·rcases qg (rW.ok hprv) hoq hpq with rfl |h5 |h5 |⟨h5,_⟩
       ·exact absurd hLq hj
       ·exact before h5
       ·exact absurd (h5.gK h.closed hLq) hj
       ·have:=(c.mono (i:=q+1) j (by omega) (by omega)).1
        omega
   by_cases hjk:j < k
   ·have hnob:∀b,j+1<=b->b < k->¬Kc E call ops tr b:=by
     intro b h1 h2 h3
     rcases(hw b h3).1 h2 with rfl |hL
     ·omega
     ·have:=(hwj b h3).2 hL
      omega
    have hnop:∀p x,j+1<=p->p < k->rW E call ops tr p x->x∈l:=by
     intro p x h1 h2 h3
     rcases hpw p x h3 with h4 |h4
     ·rcases h4.1 h2 with rfl |hL
      ·omega
      ·have:=(hpj p x h3).2 hL
       omega
     ·exact h4
    have hmk:=(c.mono (i:=j+1) k (by omega) hk).1
    have heq:∀b i,(σ'.cut (tr k).m.n) b=some i->τ b=some i:=by
     intro b i hb
     rw[Sg.cn]at hb
     rcases hσ' b i hb.2 with⟨_,h1⟩ |⟨_,h1⟩
     ·exact h1
     ·exact hev.ext b i (Sg.cn.2 ⟨hall b i h1,h1⟩)
    have hgk:∀b i,τ b=some i->b∉l->(tr k).m.get b=mk.get b:=by
     intro b i hb hbl
     rw[c.kJ k (show j+1<=k by omega) hk hnob b (by rw[hn1];exact hτn b i hb) (fun p h1 h2 h3=>hbl (hnop p b h1 h2 h3)),hg1,hkg']
    refine⟨fun b i hb=>(Sg.cn.1 hb).1,fun b i hb=>?_,fun b i hb=>hs.lt b i (heq b i hb),fun b b' i i' hb hb' hd hd'=>?_,fun g hg=>hτle _ (by omega) g _ (hs.iG g hg)⟩
    ·rw[M.eU]
     by_cases hbl:b∈l
     ·rw[if_pos hbl];trivial
     ·rw[if_neg hbl,hgk b i (heq b i hb) hbl]
      exact(hs.obj b i (heq b i hb)).bw (hτle _ (by omega)) rfl
    ·rw[M.eU]at hd hd'
     by_cases hbl:b∈l
     ·rw[if_pos hbl]at hd;exact absurd rfl hd
     by_cases hbl':b'∈l
     ·rw[if_pos hbl']at hd';exact absurd rfl hd'
     rw[if_neg hbl,hgk b i (heq b i hb) hbl]at hd
     rw[if_neg hbl',hgk b' i' (heq b' i' hb') hbl']at hd'
     exact hs.inj b b' i i' (heq b i hb) (heq b' i' hb') hd hd'
   ·
    have hnbar:¬Kc E call ops tr j:=fun hb=>hjk ((hw j hb).2 (.inl rfl))
    obtain⟨b0,hprv⟩:=(c.wr hwr).resolve_left hnbar
    have hb0l:b0∈l:=(hpw j b0 hprv).resolve_left fun x=>hjk (x.2 (.inl rfl))
    obtain⟨hd0,i0,hi0,hot⟩:=hoth b0 hprv
    have hwk:∀b,Kc E call ops tr b->(b < k↔L b):=fun b hb=>(hw b hb).trans ⟨fun x=>x.resolve_left (fun e=>hnbar (e ▸ hb)),.inr⟩
    have hpk:∀p b,rW E call ops tr p b->(p < k↔L p)\/b∈l:=by
     intro p b hb
     by_cases hpj':p=j
     ·subst hpj'
      rw[hprv.js hb]
      exact .inr hb0l
     ·exact(hpw p b hb).imp (fun x=>x.trans ⟨fun y=>y.resolve_left hpj',.inr⟩) id
    have hA:=h.win k l hk hwk hpk
    have hJ:=h.win j [] (by omega) hwj (fun p b hb=> .inl (hpj p b hb))
    have hmk:=(c.mono (i:=k) j (by omega) (by omega)).1
    have hgkj:∀b,b < (tr k).m.n->b∉l->(tr j).m.get b=(tr k).m.get b:=by
     intro b hb hbl
     refine c.kJ j (by omega) (by omega) (fun q h1 h2 h3=>?_) b hb (fun p h1 h2 h3=>hbl ?_)
     ·have h4:=(hwj q h3).1 h2
      have:=(hwk q h3).2 h4
      omega
     ·rcases hpk p b h3 with h4 |h4
      ·have h5:=(hpj p b h3).1 h2
       have:=h4.2 h5
       omega
      ·exact h4
    have hcut:(σ.cut (tr k).m.n).le (σ'.cut (tr k).m.n):=Sg.wT hle (Nat.le_refl _)
    have hback:∀b i,(σ'.cut (tr k).m.n) b=some i->(σ.cut (tr k).m.n) b=some i:=by
     intro b i hb
     rw[Sg.cn]at hb⊢
     rcases hσ' b i hb.2 with⟨h1,_⟩ |⟨_,h2⟩
     ·omega
     ·exact⟨hb.1,h2⟩
    have hne:∀b i,(σ.cut (tr k).m.n) b=some i->b∉l->(tr k).m.get b≠.dead->i.bX≠i0.bX:=by
     intro b i hb hbl hd he
     have hb2:=Sg.cn.1 hb
     have hlt:b < (tr j).m.n:=by omega
     have:=hJ.inj b b0 i i0 (Sg.cn.2 ⟨hlt,hb2.2⟩) (Sg.cn.2 ⟨hall b0 i0 hi0,hi0⟩) (by rw[M.tq,hgkj b hb2.1 hbl];exact hd) (by rw[M.tq];exact hd0) he
     exact hbl (this ▸ hb0l)
    refine⟨fun b i hb=>(Sg.cn.1 hb).1,fun b i hb=>?_,fun b i hb=>?_,fun b b' i i' hb hb' hd hd' he=>hA.inj b b' i i' (hback b i hb) (hback b' i' hb') hd hd' he,fun g hg=>hcut g _ (hA.iG g hg)⟩
    ·have hb':=hback b i hb
     have ho':=hA.obj b i hb'
     rw[M.eU]at ho'⊢
     by_cases hbl:b∈l
     ·rw[if_pos hbl];trivial
     ·rw[if_neg hbl]at ho'⊢
      by_cases hd:(tr k).m.get b=.dead
      ·rw[hd];trivial
      ·exact ho'.bw hcut (hot _ (hne b i hb' hbl hd))
    ·have:=hA.lt b i (hback b i hb)
     have:=hev.hle
     omega
  ·
   have hq':(tr j).m.n<=m.low:=(hq.resolve_right (fun x=>hwr x.1)).1
   have hwk:∀b,Kc E call ops tr b->(b < k↔L b):=fun b hb=>(hw b hb).trans ⟨fun x=>x.resolve_left (fun e=>hwr (e ▸ hb.1)),.inr⟩
   have hpk:∀p b,rW E call ops tr p b->(p < k↔L p)\/b∈l:=fun p b hb=>(hpw p b hb).imp (fun x=>x.trans ⟨fun y=>y.resolve_left (fun e=>hwr (e ▸ hb.1)),.inr⟩) id
   have hA:=h.win k l hk hwk hpk
   have hkeep:∀B,B < w.heap.size->w'.heap[B]?=w.heap[B]?:=fun B hB=>hev.heap B hB fun b i hb _=>by
    have:=(Sg.cn.1 hb).1
    omega
   have hcut:(σ.cut (tr k).m.n).le (σ'.cut (tr k).m.n):=Sg.wT hle (Nat.le_refl _)
   have hcase:∀b i,(σ'.cut (tr k).m.n) b=some i->(((tr j).m.n<=b/\b < m.n)/\τ b=some i/\j < k)\/(σ.cut (tr k).m.n) b=some i:=by
    intro b i hb
    rw[Sg.cn]at hb
    rcases hσ' b i hb.2 with⟨h1,h2⟩ |⟨_,h2⟩
    ·refine .inl ⟨h1,h2,?_⟩
     refine Classical.byContradiction fun hc=>?_
     have:=(c.mono (i:=k) j (by omega) (by omega)).1
     omega
    ·exact .inr (Sg.cn.2 ⟨hb.1,h2⟩)
   have hgk:j < k->∀b,(tr j).m.n<=b->b < m.n->b∉l->(tr k).m.get b=mk.get b:=by
    intro hjk b hb1 hb hbl
    rw[c.kJ k (show j+1<=k by omega) hk (fun b h1 h2 h3=>by
     have:=(hwj b h3).2 ((hwk b h3).1 h2)
     omega) b (by rw[hn1];exact hb) (fun p h1 h2 h3=>by
      rcases hpk p b h3 with h4 |h4
      ·obtain⟨i,hi⟩:=h.FD p b (h4.1 h2) h3
       exact hfree b i hi ⟨hb1,hb⟩
      ·exact hbl h4),hg1,hkg b (.inr hb1)]
   have newblk:∀b i,(tr j).m.n<=b->τ b=some i->w.heap.size<=i.bX:=by
    intro b i h1 h2
    have hnone:(σ.cut (tr j).m.n) b=none:=by
     cases hx:(σ.cut (tr j).m.n) b with
     |none=>rfl
     |some i'=>have:=(Sg.cn.1 hx).1;omega
    rcases(hev.new b i h2 hnone).2 with h3 |⟨b0,i0,h3,_,h5⟩
    ·exact h3
    ·have:=(Sg.cn.1 h3).1
     omega
   refine⟨fun b i hb=>(Sg.cn.1 hb).1,fun b i hb=>?_,fun b i hb=>?_,fun b b' i i' hb hb' hd hd' he=>?_,fun g hg=>hcut g _ (hA.iG g hg)⟩
   ·rcases hcase b i hb with⟨h1,h2,hjk⟩ |h1
    ·rw[M.eU]
     by_cases hbl:b∈l
     ·rw[if_pos hbl];trivial
     ·rw[if_neg hbl,hgk hjk b h1.1 h1.2 hbl]
      have hmk:=(c.mono (i:=j+1) k (by omega) hk).1
      exact(hs.obj b i h2).bw (hτle _ (by omega)) rfl
    ·exact(hA.obj b i h1).bw hcut (hkeep _ (hA.lt b i h1))
   ·rcases hcase b i hb with⟨_,h2,_⟩ |h1
    ·exact hs.lt b i h2
    ·have:=hA.lt b i h1
     have:=hev.hle
     omega
   ·rcases hcase b i hb with⟨h1,h2,hjk⟩ |h1 <;>rcases hcase b' i' hb' with⟨h1',h2',hjk'⟩ |h1'
    ·rw[M.eU]at hd hd'
     by_cases hbl:b∈l
     ·rw[if_pos hbl]at hd;exact absurd rfl hd
     by_cases hbl':b'∈l
     ·rw[if_pos hbl']at hd';exact absurd rfl hd'
     rw[if_neg hbl,hgk hjk b h1.1 h1.2 hbl]at hd
     rw[if_neg hbl',hgk hjk b' h1'.1 h1'.2 hbl']at hd'
     exact hs.inj b b' i i' h2 h2' hd hd' he
    ·have:=newblk b i h1.1 h2
     have:=hA.lt b' i' h1'
     omega
    ·have:=newblk b' i' h1'.1 h2'
     have:=hA.lt b i h1
     omega
    ·exact hA.inj b b' i i' h1 h1' hd hd' he
 ·
  rintro p b (rfl |hL) hb
  ·obtain⟨_,i,hi,_⟩:=hoth b hb
   exact⟨i,hle b i hi⟩
  ·obtain⟨i,hi⟩:=h.FD p b hL hb
   exact⟨i,hle b i hi⟩
 ·intro b i hb
  rcases hσ' b i hb with⟨h1,_⟩ |⟨_,h1⟩
  ·exact .inr ⟨j,.inl rfl,h1.1,by rw[hn1];exact h1.2⟩
  ·exact(h.mV b i h1).imp id fun⟨q,x,y⟩=>⟨q,.inr x,y⟩
 ·exact fun b i hb=>hle b i (h.base b i hb)
 ·intro b i hb h0
  rcases hσ' b i hb with⟨h1,h2⟩ |⟨_,h2⟩
  ·have hnone:(σ.cut (tr j).m.n) b=none:=by
    cases hx:(σ.cut (tr j).m.n) b with
    |none=>rfl
    |some i'=>have:=(Sg.cn.1 hx).1;omega
   have hn0:=(c.mono (i:=0) j (by omega) (by omega)).1
   refine⟨by omega,?_⟩
   have hh:=h.hle
   rcases(hev.new b i h2 hnone).2 with h3 |⟨b0,i0,h3,h4,h5⟩
   ·exact .inl (by omega)
   ·have h3:=(Sg.cn.1 h3).2
    cases hb0:σ0 b0 with
    |some i1=>
     have:=h.base b0 i1 hb0
     rw[h3]at this;cases this
     exact .inr ⟨b0,i0,hb0,h4,by omega⟩
    |none=>
     rcases(h.new b0 i0 h3 hb0).2 with h6 |⟨b1,i1,h6,h7,h8⟩
     ·exact .inl (by omega)
     ·exact .inr ⟨b1,i1,h6,by omega,h8⟩
  ·exact h.new b i h2 h0
 ·have:=h.hle
  have:=hev.hle
  omega
 ·intro B hB hc
  have hh:=h.hle
  rw[<-h.heap B hB hc]
  refine hev.heap B (by omega) fun b i hb he=>?_
  have hb:=(Sg.cn.1 hb).2
  cases hb0:σ0 b with
  |some i1=>
   have:=h.base b i1 hb0
   rw[hb]at this;cases this
   have:=hc b i hb0 he
   omega
  |none=>
   rcases(h.new b i hb hb0).2 with h6 |⟨b1,i1,h6,h7,h8⟩
   ·omega
   ·have:=hc b1 i1 h6 (by omega)
    omega
 ·exact hev.os.trans h.os
 ·exact hev.tape.trans h.tape
 ·exact hev.output.trans h.output
 ·exact h.iG
end
end Go.D
namespace Go.D
open Go
theorem Sg.wU{σ:Sg}{n:Nat}(h:∀b i,σ b=some i->b < n):σ.cut n=σ:=by
 funext b
 unfold Sg.cut
 by_cases hb:b < n
 ·rw[if_pos hb]
 ·rw[if_neg hb]
  cases hs:σ b with
  |none=>rfl
  |some i=>exact absurd (h b i hs) hb
def FP(l:Array Bool):Nat->Nat
 |0=>0
 |k+1=>FP l k+(if l.getD k false=true then 0 else 1)
theorem xQ{l:Array Bool}:∀{k:Nat},FP l k=0->∀i,i < k->l.getD i false=true
 |k+1,h,i,hi=>by
  unfold FP at h
  by_cases hk:l.getD k false=true
  ·by_cases hik:i=k
   ·subst hik;exact hk
   ·exact xQ (k:=k) (by omega) i (by omega)
  ·rw[if_neg hk]at h;omega
theorem zB(l:Array Bool){j:Nat}(hj:j < l.size)(i:Nat):(l.setIfInBounds j true).getD i false=true↔i=j\/l.getD i false=true:=by
 rw[Array.getD_eq_getD_getElem?,Array.getD_eq_getD_getElem?,Array.getElem?_setIfInBounds]
 by_cases h:j=i
 ·subst h;simp[hj]
 ·simp[h,Ne.symm h]
theorem BS{l:Array Bool}{j:Nat}(hj:j < l.size)(hn:¬l.getD j false=true):∀k,FP (l.setIfInBounds j true) k+(if j < k then 1 else 0)=FP l k
 |0=>by simp[FP]
 |k+1=>by
  have ih:=BS hj hn k
  have hs:=zB l hj k
  unfold FP
  by_cases hkj:k=j
  ·subst hkj
   rw[if_pos (hs.2 (.inl rfl)),if_neg hn,if_pos (by omega)]
   rw[if_neg (by omega)]at ih
   omega
  ·by_cases hk:l.getD k false=true
   ·rw[if_pos (hs.2 (.inr hk)),if_pos hk]
    by_cases hjk:j < k
    ·rw[if_pos hjk]at ih;rw[if_pos (by omega)];omega
    ·rw[if_neg hjk]at ih;rw[if_neg (by omega)];omega
   ·rw[if_neg (fun x=>(hs.1 x).elim hkj hk),if_neg hk]
    by_cases hjk:j < k
    ·rw[if_pos hjk]at ih;rw[if_pos (by omega)];omega
    ·rw[if_neg hjk]at ih;rw[if_neg (by omega)];omega
theorem qq(l:Array Bool)(i:Nat)(h:i < l.size):l.getD i true=l.getD i false:=by
 simp[Array.getD_eq_getD_getElem?,h]
theorem Il(l:Array Bool)(i:Nat)(h:¬i < l.size):l.getD i true=true:=by
 simp[Array.getD_eq_getD_getElem?,h]
theorem zn{E:Env}{m m':M}{t:TypeId}{ad:Addr}(h:m'.get ad.block=m.get ad.block):loadVar E m' t ad=loadVar E m t ad:=by
 unfold loadVar D.loadCells D.cellAt
 rw[h]
theorem HG{E:Env}{m m1:M}{b:Builtin}{ts:List TypeId}{args:List Value}{v:Value}(hb:b=.min\/b=.max)(h:aq E m b ts args=some (v,m1)):m1=m/\∀m2,aq E m2 b ts args=some (v,m2):=by
 rcases hb with rfl |rfl
 ·have h:(cV (fun x y=>if y < x then y else x) args).map (·,m)=some (v,m1):=h
  cases hl:cV (fun x y=>if y < x then y else x) args with
  |none=>rw[hl]at h;cases h
  |some w=>rw[hl]at h;cases h;exact⟨rfl,fun m2=>by show(cV (fun x y=>if y < x then y else x) args).map (·,m2)=_;rw[hl];rfl⟩
 ·have h:(cV (fun x y=>if y >x then y else x) args).map (·,m)=some (v,m1):=h
  cases hl:cV (fun x y=>if y >x then y else x) args with
  |none=>rw[hl]at h;cases h
  |some w=>rw[hl]at h;cases h;exact⟨rfl,fun m2=>by show(cV (fun x y=>if y >x then y else x) args).map (·,m2)=_;rw[hl];rfl⟩
theorem HW{E:Env}{m m1:M}{ts:List TypeId}{x v:Value}(hx:∀r,x≠.map r)(h:aq E m .len ts [x]=some (v,m1)):m1=m/\∀m2,aq E m2 .len ts [x]=some (v,m2):=by
 match ts,h with
 |[],h=>cases h
 |t::_::_,h=>cases h
 |[t],h=>
  have h:(nV E m t x).map (·,m)=some (v,m1):=h
  have e:∀m2,nV E m2 t x=nV E m t x:=by
   intro m2
   unfold nV
   cases E.ty.get t with
   |none=>rfl
   |some ti=>
    dsimp only
    cases hd:ti.d <;>cases x <;>first |rfl |exact absurd rfl (hx _)
  cases hl:nV E m t x with
  |none=>rw[hl]at h;cases h
  |some w=>rw[hl]at h;cases h;exact⟨rfl,fun m2=>by show(nV E m2 t x).map (·,m2)=_;rw[e,hl];rfl⟩
theorem KS{E:Env}{call:aF}{T:Tr Value}{m m1:M}{o:Op}{v:Value}{lk:List Nat}{x:Nat}(h:cJ o E call T {m with low:=x}=some (v,m1))
  (hk:∀b∈lk,(∃t,o=.alloc t)\/(∃t y,o=.box t y)\/(∃t s ad,o=.load t (.tmp s)/\gR T s=.pointer (some ad)/\ad.block≠b)\/kT o=true\/∃s,lenOf o=some s/\∀r,gR T s≠.map r):
  ∃mk,cJ o E call T {m.kill lk with low:=x}=some (v,mk)/\mk.n=m1.n/\mk.low=m1.low/\∀b,b∉lk\/m.n<=b->mk.get b=m1.get b:=by
 cases lk with
 |nil=>exact⟨m1,h,rfl,rfl,fun _ _=>rfl⟩
 |cons b0 r=>
  have hpush:∀(o:Ob) b,b∉b0::r\/m.n<=b->(({m.kill (b0::r)with low:=x}:M).push o).get b=(({m with low:=x}:M).push o).get b:=by
   intro o b hb
   rw[M.eC,M.eC]
   show(if b=m.n then o else(m.kill (b0::r)).get b)=if b=m.n then o else m.get b
   rw[M.eU]
   by_cases h1:b=m.n
   ·simp[h1]
   ·rw[if_neg h1,if_neg h1]
    rcases hb with hb |hb
    ·rw[if_neg hb]
    ·have:m.get b=.dead:=by rw[M.dP,if_neg (by omega)]
     rw[this]
     split <;>rfl
  have hkeep:∀b,b∉b0::r\/m.n<=b->({m.kill (b0::r)with low:=x}:M).get b=({m with low:=x}:M).get b:=by
   intro b hb
   show(m.kill (b0::r)).get b=m.get b
   rw[M.eU]
   rcases hb with hb |hb
   ·rw[if_neg hb]
   ·have:m.get b=.dead:=by rw[M.dP,if_neg (by omega)]
    rw[this]
    split <;>rfl
  rcases hk b0 List.mem_cons_self with⟨t,rfl⟩ |⟨t,y,rfl⟩ |⟨t,s,ad,rfl,hs,_⟩ |hmm |⟨s,hls,hnm⟩
  ·simp only[cJ,oY]at h⊢
   cases hz:ig E t with
   |none=>rw[hz]at h;cases h
   |some z=>
    rw[hz]at h
    cases h
    exact⟨_,rfl,rfl,rfl,hpush _⟩
  ·simp only[cJ,Hw]at h⊢
   cases h
   exact⟨_,rfl,rfl,rfl,hpush _⟩
  ·have hn:ad.block∉b0::r:=by
    intro hm
    rcases hk _ hm with⟨t',h'⟩ |⟨t',y,h'⟩ |⟨t',s',ad',h',hs',hne⟩ |h' |⟨_,h',_⟩
    ·cases h'
    ·cases h'
    ·cases h'
     rw[hs]at hs'
     cases hs'
     exact hne rfl
    ·cases h'
    ·cases h'
   have hev:ev T (.tmp s)=.pointer (some ad):=hs
   simp only[cJ,sQ,hev]at h⊢
   have hl:loadVar E {m.kill (b0::r)with low:=x} t ad=loadVar E {m with low:=x} t ad:=zn (by
    show(m.kill (b0::r)).get ad.block=m.get ad.block
    rw[M.eU,if_neg hn])
   rw[hl]
   cases hz:loadVar E {m with low:=x} t ad with
   |none=>rw[hz]at h;cases h
   |some z=>
    rw[hz]at h
    cases h
    refine⟨_,rfl,rfl,rfl,fun b hb=>?_⟩
    show(m.kill (b0::r)).get b=m.get b
    rw[M.eU]
    rcases hb with hb |hb
    ·rw[if_neg hb]
    ·have:m.get b=.dead:=by rw[M.dP,if_neg (by omega)]
     rw[this]
     split <;>rfl
  ·obtain⟨c,rfl⟩:∃c,o=.call c:=by
    cases o <;>first |exact⟨_,rfl⟩ |cases hmm
   have hb:c.callee=.builtin .min\/c.callee=.builtin .max:=by
    unfold kT at hmm
    dsimp only at hmm
    split at hmm
    ·exact .inl (by assumption)
    ·exact .inr (by assumption)
    ·cases hmm
   obtain⟨bb,hbb,hc⟩:∃bb,(bb=.min\/bb=.max)/\c.callee=.builtin bb:=by
    rcases hb with hb |hb
    ·exact⟨_,.inl rfl,hb⟩
    ·exact⟨_,.inr rfl,hb⟩
   simp only[cJ,kR,hc]at h⊢
   obtain⟨rfl,hw⟩:=HG hbb h
   exact⟨_,hw _,rfl,rfl,hkeep⟩
  ·obtain⟨c,rfl⟩:∃c,o=.call c:=by
    cases o <;>first |exact⟨_,rfl⟩ |cases hls
   unfold lenOf at hls
   dsimp only at hls
   split at hls
   ·rename_i hc
    split at hls
    ·rename_i t ha
     cases hls
     simp only[cJ,kR,hc,ha]at h⊢
     obtain⟨rfl,hw⟩:=HW (x:=gR T s) hnm h
     exact⟨_,hw _,rfl,rfl,hkeep⟩
    ·cases hls
   ·cases hls
theorem vH{ops:Array Oper}{T T':Tr Value}{o:Oper}(h:∀g w d,o.guard=some (g,w)->(ops[g]?).bind (·.dst)=some d->gR T' d=gR T d):cg ops T' o=cg ops T o:=by
 unfold cg
 cases hg:o.guard with
 |none=>rfl
 |some p=>
  obtain⟨g,w⟩:=p
  dsimp only
  simp only[Array.getElem?_toList]
  cases hd:(ops[g]?).bind (·.dst)with
  |none=>rfl
  |some d=>dsimp only;rw[h g w d hg hd]
theorem uq{E:Env}{m m':M}{t:TypeId}{ad:Addr}{v:Value}(h:storeVar E m t ad v=some m'):m.get ad.block≠.dead:=by
 intro hd
 unfold storeVar at h
 split at h
 ·cases hq:Nat.beq (cells v).length _ with
  |false=>rw[hq]at h;cases h
  |true=>
   rw[hq]at h
   simp only[cond_true]at h
   unfold D.storeCells at h
   rw[hd]at h
   cases h
 ·cases h
section
variable {E:Env} {P:Program} {call:aF} {ops:Array Oper} {nt:Nat} {tr:Nat->Fr} {σ0 σ:Sg} {w0 w:World} {ds:List Deferred} {L:Nat->Prop} {a:Act} {ro:Option Nat} {n:Nat} {Q:Exit->Act->World->Prop}
theorem Inv.step(c:Ctx E P call ops nt tr)(h:Inv E P call ops nt tr σ0 w0 ds L σ a w){j:Nat}{o:Oper}(hj:¬L j)(ho:ops[j]?=some o)(hed:∀e∈o.after,Region.binds .any e=true->L e.on)
  {K:Act->World->Prop} (hK:∀σ' a' w',Inv E P call ops nt tr σ0 w0 ds (fun i=>i=j\/L i) σ' a' w'->K a' w'):wpOpIn (dG ro) n P ops Q j K a w:=by
 have hjl:j < ops.size:=(Array.getElem?_eq_some_iff.1 ho).1
 have hokj:=c.ok o (by simpa using Array.mem_of_getElem? ho)
 have hnames:∀t,t < nt->t∈hZ ops o->aJ (σ.cut (tr j).m.n) (gR (tr j).T t) (a.eval (.tmp t)):=fun t ht hn=>h.names c hj ho hed ht hn
 have hw:cg ops (tr j).T o=Region.wanted o (yielded ops a.tmps):=by
  refine oE (σ:=σ.cut (tr j).m.n) fun q want d hg hd=>?_
  have hd0:=hd
  simp only[Option.bind_eq_some_iff]at hd
  obtain⟨o',ho',hd'⟩:=hd
  have hlt:=ee (c.ok o' (by simpa using Array.mem_of_getElem? ho')) d hd'
  refine⟨by rw[h.MT];exact hlt,hnames d hlt ?_⟩
  unfold hZ
  rw[hg]
  simp only[hd0]
  simp
 unfold wpOpIn
 rw[ho]
 dsimp only
 rw[<-hw]
 rcases c.step j o ho with⟨hwd,hfr⟩ |⟨hwd,v,m,hop,hb,hfr⟩
 ·rw[hwd,if_neg (by simp)]
  refine⟨fun _ _=>trivial,hK σ _ w (h.same c hj ho hed (v:=undef) (by rw[hfr]) ?_ aJ.undef)⟩
  rintro⟨o',v,m,ho',hw',_⟩
  rw[ho]at ho';cases ho'
  rw[hwd]at hw';cases hw'
 ·rw[hwd,if_pos rfl]
  refine⟨fun _ _=>trivial,?_⟩
  rw[Oper.semAt_eq _ _ _ (fun c hc=>by rw[hc]at hop;simp[cJ]at hop)]
  cases hp:ed o.op with
  |true=>
   have hopnd:∀x∈o.op.operands.toList,aJ (σ.cut (tr j).m.n) (ev (tr j).T x) (a.eval x):=by
    intro x hx
    have hox:=fJ hokj x hx
    cases x with
    |tmp t=>exact hnames t (nS hox) (by unfold hZ;simp only[List.mem_append];exact .inr (.inl (List.mem_filterMap.2 ⟨.tmp t,hx,rfl⟩)))
    |const v=>exact .ir hox
    |global g=>
     have hg:g < P.globals.size:=by
      have h:Nat.blt g P.globals.size=true:=hox
      rw[dQ]at h;simpa using h
     obtain⟨h1,h2⟩:=h.iG g hg
     have h3:=(c.mono (i:=0) j (by omega) (by omega)).1
     exact .ptr ⟨g,0,none⟩ ⟨g,none⟩ (Sg.cn.2 ⟨by dsimp only;omega,h.base g _ h2⟩) rfl
    |func f=>exact .flat _ rfl
   obtain⟨v',hr,hv⟩:=AD (w:=w) c.hE hp hop hopnd
   rw[hr]
   refine hK σ _ w (h.same c hj ho hed (v:=v) (by rw[hfr]) (c.mS ho hp).2 ?_)
   rw[(c.mS ho hp).1]
   exact hv
  |false=>
   obtain⟨lk,hlk1,hlk2⟩:=h.Kh c hj ho hed hp
   have hsim:=h.win j lk (by omega) (h.FJ c hj ho hed hp) hlk1
   have hopnd:∀x∈o.op.operands.toList,aJ (σ.cut (tr j).m.n) (ev (tr j).T x) (a.eval x):=by
    intro x hx
    have hox:=fJ hokj x hx
    exact zL hsim (fun t ht=>by
     subst ht
     exact hnames t (nS hox) (by unfold hZ;simp only[List.mem_append];exact .inr (.inl (List.mem_filterMap.2 ⟨.tmp t,hx,rfl⟩)))) hox
   have hkind:∀b∈lk,(∃t,o.op=.alloc t)\/(∃t y,o.op=.box t y)\/(∃t s ad,o.op=.load t (.tmp s)/\gR (tr j).T s=.pointer (some ad)/\ad.block≠b)\/kT o.op=true\/∃s,lenOf o.op=some s/\∀r,gR (tr j).T s≠.map r:=by
    intro b hb
    obtain⟨p,hL,hprv,hjp,hok,hr1,hr2⟩:=hlk2 b hb
    have hps:=hprv.1.lt
    rcases qg hok ho hp with rfl |hr |hr |⟨_,h4⟩
    ·omega
    ·exact absurd hr hr1
    ·exact absurd hr hr2
    ·rcases h4 with h4 |h4 |⟨t,s,h4,h5,h6,h7⟩ |h4 |⟨s,h4,h5,h6⟩
     ·exact .inl h4
     ·exact .inr (.inl h4)
     rotate_left
     ·exact .inr (.inr (.inr (.inl h4)))
     ·have hT:gR (tr p).T s=gR (tr j).T s:=c.mX p (by omega) (by omega) fun q oq h1 h2 hq=>h5 q oq h1 h2 hq
      exact .inr (.inr (.inr (.inr ⟨s,h4,fun r=>by rw[<-hT];exact h6 r⟩)))
     ·refine .inr (.inr (.inl ⟨t,s,?_⟩))
      have hT:gR (tr p).T s=gR (tr j).T s:=c.mX p (by omega) (by omega) fun q oq h1 h2 hq=>h5 q oq h1 h2 hq
      have hW:cg ops (tr p).T o=cg ops (tr j).T o:=vH fun g w d hg hd=>c.mX p (by omega) (by omega) fun q oq h1 h2 hq=>h6 g w d hg hd q oq h1 h2 hq
      rcases h7 with h7 |⟨ad,h7,h8⟩
      ·rw[hW,hwd]at h7;cases h7
      ·exact⟨ad,h4,by rw[<-hT];exact h7,h8⟩
   by_cases hpv:∃b0,rW E call ops tr j b0
   ·obtain⟨b0,hb0⟩:=hpv
    obtain⟨_,_,o',ho',hst,_⟩:=id hb0
    rw[ho]at ho'
    cases ho'
    cases hoo:o.op with
    |store t x y=>
     rw[hoo]at hst
     unfold eI at hst
     dsimp only at hst
     split at hst
     ·rename_i ad hev
      cases hst
      obtain rfl:lk=[]:=by
       refine List.eq_nil_iff_forall_not_mem.2 fun b hb=>?_
       rcases hkind b hb with⟨_,h'⟩ |⟨_,_,h'⟩ |⟨_,_,_,h',_⟩ |h' |⟨_,h',_⟩ <;>rw[hoo]at h' <;>cases h'
      rw[hoo]at hop hopnd
      simp only[cJ,kQ,hev]at hop
      split at hop
      ·rename_i m2 hz
       cases hop
       have hx:=hopnd x (by simp[Op.operands])
       rw[hev]at hx
       obtain⟨i,hi,_,he⟩:=hx.dO
       obtain⟨w',q1,q2,_,q4⟩:=lH c.hE (hsim.low (tr j).m.n) hi (hopnd y (by simp[Op.operands])) hz
       have hr:(Instr.storeAt t (a.eval x) (a.eval y)).run P w=.ok () w':=by
        rw[he]
        simpa[Instr.storeAt,Instr.sureAddr]using q1
       have hwr:Wr E call ops tr j:=hb0.1
       obtain⟨σ',hI⟩:=h.effect c (v':=undef) (mk:=m) (lk:=[]) hj ho hed hp rfl rfl (fun _ _=>rfl) hlk1 q2 aJ.undef hfr (.inr ⟨hwr,rfl⟩) (fun b hb=>by
        have:=hb0.js hb
        subst this
        exact⟨fun hd=>uq hz hd,i,(Sg.cn.1 hi).2,q4⟩)
       unfold execOp
       rw[hoo]
       simp only[Sem.run_bind,hr,Result.andThen_ok,Sem.run_pure]
       exact hK σ' _ w' hI
      ·cases hop
     ·cases hst
    |call cc=>
     rw[hoo]at hst hop hopnd
     obtain⟨f,x,ad,hcf,hcx,hef,hex,hbuf,hcl⟩:=vP hst hop
     obtain rfl:lk=[]:=by
      refine List.eq_nil_iff_forall_not_mem.2 fun b hb=>?_
      rcases hkind b hb with⟨_,h'⟩ |⟨_,_,h'⟩ |⟨_,_,_,h',_⟩ |h' |⟨_,h',_⟩ <;>rw[hoo]at h'
      ·cases h'
      ·cases h'
      ·cases h'
      ·simp[kT,hcf]at h'
      ·simp[lenOf,hcf]at h'
     obtain⟨hlive,hm1,hrun⟩:=c.cD.FD ad _ v m b0 hcl hbuf
     have hvx:=hopnd x (by simp[Op.operands,Call.operands];exact .inr (by rw[<-Array.mem_toList_iff,hcx];simp))
     rw[hex]at hvx
     have hvf:=hopnd f (by simp[Op.operands,Call.operands,hcf])
     rw[hef]at hvf
     have hfe:a.eval f=.func (.func uk) #[] #[]:=by
      exact hvf.aK rfl
     obtain⟨i,hi,hci,hent⟩:=hrun _ w #[a.eval x] ((hsim.low (tr j).m.n)) (.cons hvx .nil)
     have hwr:Wr E call ops tr j:=hb0.1
     unfold execOp
     rw[hoo]
     have hma:cc.args.map a.eval= #[a.eval x]:=by
      apply Array.ext'
      simp[hcx]
     simp only[resolve,hcf,hfe,Deferred.ofValue,Sem.run_bind,Sem.run_pure,Result.andThen_ok,invoke,hma,Array.empty_append,Array.append_empty,hent]
     refine Bd hci ro n o a K Q fun e w' he=>?_
     obtain⟨⟨v',σ1,rfl,hv,hev⟩,hoth⟩:=he
     obtain⟨σ',hI⟩:=h.effect c (v':=v') (mk:=m) (lk:=[]) hj ho hed hp rfl rfl (fun _ _=>rfl) hlk1 hev hv hfr (.inr ⟨hwr,rfl⟩) (fun b hb=>by
      have:=hb0.js hb
      subst this
      exact⟨hlive,i,(Sg.cn.1 hi).2,hoth⟩)
     exact⟨v',rfl,hK σ' _ w' hI⟩
    |_=>rw[hoo]at hst;cases hst
   ·obtain⟨mk,hopk,hkn,hkl,hkg⟩:=KS hop hkind
    refine(oU c.hE c.cD (hsim.low (tr j).m.n) hopk hopnd).2 ro n o a K Q fun τ w' v' hv he=>?_
    obtain⟨σ',hI⟩:=h.effect c hj ho hed hp hkn hkl hkg hlk1 he hv hfr (by
     by_cases hq:(tr j).m.n<=m.low
     ·refine .inl ⟨hq,?_⟩
      rintro⟨o',v',m',ho',_,hop',hn⟩
      rw[ho]at ho'
      cases ho'
      rw[hop]at hop'
      cases hop'
      exact hn hq
     ·have hwr:Wr E call ops tr j:=⟨o,v,m,ho,hwd,hop,hq⟩
      have hbar:dC ops j=true:=((c.wr hwr).resolve_right hpv).2
      refine .inr ⟨hwr,List.eq_nil_iff_forall_not_mem.2 fun b hb=>?_⟩
      obtain⟨p,hL,hprv,hjp,hok,hr1,hr2⟩:=hlk2 b hb
      obtain⟨op,hop',hpp⟩:=Wr.op c hprv.1
      rcases kh hbar p op hop' with rfl |h1 |h1 |h1
      ·omega
      ·rw[hpp]at h1;cases h1
      ·exact hr2 h1
      ·exact hr1 h1) (fun b hb=>absurd ⟨b,hb⟩ hpv)
    exact hK σ' _ w' hI
theorem Fy(c:Ctx E P call ops nt tr)(hQ:∀σ a w,Inv E P call ops nt tr σ0 w0 ds (fun i=>i < ops.size) σ a w->Q .normal a w):
  ∀(fuel:Nat) (listed:Array Bool) (σ:Sg) (a:Act) (w:World),listed.size=ops.size->FP listed ops.size<=fuel->Inv E P call ops nt tr σ0 w0 ds (fun i=>listed.getD i false=true) σ a w->
   wpAnyIn (dG ro) n P .any ops Q fuel listed a w:=by
 have fin:∀(listed:Array Bool) (σ:Sg) (a:Act) (w:World),listed.size=ops.size->(∀i,i < ops.size->listed.getD i false=true)->Inv E P call ops nt tr σ0 w0 ds (fun i=>listed.getD i false=true) σ a w->Q .normal a w:=by
  intro listed σ a w hsz hall h
  have:(fun i=>listed.getD i false=true)=(fun i=>i < ops.size):=by
   funext i
   exact propext ⟨fun hi=>h.lt i hi,hall i⟩
  rw[this]at h
  exact hQ σ a w h
 have noready:∀(listed:Array Bool),listed.size=ops.size->(∀i,i < ops.size->listed.getD i false=true)->Region.ready .any ops listed=[]:=by
  intro listed hsz hall
  refine List.eq_nil_iff_forall_not_mem.2 fun j hj=>?_
  have h1:=(mem_ready.1 hj).1
  by_cases hjs:j < listed.size
  ·rw[qq _ _ hjs,hall j (by omega)]at h1;cases h1
  ·rw[Il _ _ hjs]at h1;cases h1
 have ready_all:∀(listed:Array Bool),listed.size=ops.size->Region.ready .any ops listed=[]->∀i,i < ops.size->listed.getD i false=true:=by
  intro listed hsz hr i
  induction i using Nat.strongRecOn with
  |_ i ih=>
   intro hi
   refine Classical.byContradiction fun hn=>?_
   obtain⟨o,ho⟩:=vA (ops:=ops) hi
   have:i∈Region.ready .any ops listed:=mem_ready.2 ⟨by rw[qq _ _ (by omega)];simpa using hn,o,ho,fun e he hb=>by
    have:=c.ord.lt i o ho e he hb
    exact ih e.on this (by omega)⟩
   rw[hr]at this
   cases this
 intro fuel
 induction fuel with
 |zero=>
  intro listed σ a w hsz hu h
  have hall:=fun i hi=>xQ (l:=listed) (k:=ops.size) (by omega) i hi
  exact⟨noready listed hsz hall,fin listed σ a w hsz hall h⟩
 |succ fuel ih=>
  intro listed σ a w hsz hu h
  refine⟨fun hr=>fin listed σ a w hsz (ready_all listed hsz hr) h,fun j hj=>?_⟩
  obtain⟨h1,o,ho,hed⟩:=mem_ready.1 hj
  have hjl:j < ops.size:=(Array.getElem?_eq_some_iff.1 ho).1
  have hnj:¬listed.getD j false=true:=by
   rw[qq _ _ (by omega)]at h1
   rw[h1];simp
  refine h.step c hnj ho hed fun σ' a' w' hI=>?_
  refine ih _ σ' a' w' (by simpa using hsz) ?_ ?_
  ·have:=BS (l:=listed) (j:=j) (by omega) hnj ops.size
   rw[if_pos hjl]at this
   omega
  ·have:(fun i=>(listed.setIfInBounds j true).getD i false=true)=(fun i=>i=j\/listed.getD i false=true):=by
    funext i
    exact propext (zB listed (by omega) i)
   rw[this]
   exact hI
theorem Bf(hE:E.OK P)(cD:cB P call)(hok:∀o∈ops.toList,fK nt P.globals.size o=true)(hd:sS ops=true){fr fr':Fr}(h:eY E call ops ops.toList 0 fr=some fr')
  (hf:cY σ fr.T a nt) (hs:dB P σ fr.m w) (k:∀σ' a' w',cY σ' fr'.T a' nt->a'.defers=a.defers->Ev P σ fr.m w σ' fr'.m w'->Q .normal a' w'):
  wpAnyIn (dG ro) n P .any ops Q ops.size (Array.replicate ops.size false) a w:=by
 obtain⟨tr,t0,tN,tstep⟩:=tO ops.toList 0 fr fr' h
 have hst:∀j o,ops[j]?=some o->DStep E call ops (tr j) o j (tr (j+1)):=by
  intro j o ho
  have:=tstep j o (by simpa using ho)
  simpa using this
 subst t0
 have tN:tr ops.size=fr':=by rw[<-tN];simp
 subst tN
 have c:Ctx E P call ops nt tr:=⟨hE,cD,wi hd,hok,hst,vg hE cD hok hst hs hf⟩
 refine Fy (σ0:=σ) (w0:=w) (ds:=a.defers) c ?_ ops.size _ σ a w (by simp) ?_ ?_
 ·intro σ' a' w' hI
  have hall:∀b i,σ' b=some i->b < (tr ops.size).m.n:=by
   intro b i hb
   rcases hI.mV b i hb with h1 |⟨q,hq,_,h2⟩
   ·have:=(c.mono (i:=0) ops.size (by omega) (Nat.le_refl _)).1
    omega
   ·have:=(c.mono (i:=q+1) ops.size (by omega) (Nat.le_refl _)).1
    omega
  have hsim:=hI.win ops.size [] (Nat.le_refl _) (fun b hb=>Iff.rfl) (fun p b hb=> .inl Iff.rfl)
  rw[Sg.wU hall,M.tq]at hsim
  refine k σ' a' w' ⟨hI.MT,fun t ht=>?_⟩ hI.defs ⟨hI.base,hsim,(c.mono (i:=0) ops.size (by omega) (Nat.le_refl _)).2,(c.mono (i:=0) ops.size (by omega) (Nat.le_refl _)).1,hI.hle,hI.new,fun b hb hn=>c.abs ops.size (Nat.le_refl _) b hb hn,hI.heap,hI.os,hI.tape,hI.output⟩
  obtain⟨q,hq,hv,hw,_⟩:=hI.tmp t ht
  have hT:gR (tr ops.size).T t=gR (tr q).T t:=c.mX ops.size hq (Nat.le_refl _) fun i o h1 h2 ho hdst=>by
   have:=hw i o h2 ho hdst
   omega
  rw[hT]
  refine hv.mono fun b i hb=>(Sg.cn.1 hb).2
 ·have:∀k,FP (Array.replicate ops.size false) k<=k:=by
   intro k
   induction k with
   |zero=>simp[FP]
   |succ k ih=>
    unfold FP
    split <;>omega
  exact this _
 ·have hL:∀i,¬(Array.replicate ops.size false).getD i false=true:=by
   intro i
   simp[Array.getD_eq_getD_getElem?,Array.getElem?_replicate]
   split <;>simp
  have hcut:σ.cut (tr 0).m.n=σ:=Sg.wU hs.mV
  exact{
   lt:=fun i hi=>absurd hi (hL i)
   closed:=fun j o ho hj=>absurd hj (hL j)
   MT:=hf.1
   defs:=rfl
   tmp:=fun t ht=>⟨0,by omega,by rw[hcut];exact hf.2 t ht,fun i o hi=>absurd hi (hL i),.inl rfl⟩
   win:=fun k l hk hw hpw=>by
    have hcutk:σ.cut (tr k).m.n=σ:=Sg.wU fun b i hb=>by
     have:=hs.mV b i hb
     have:=(c.mono (i:=0) k (by omega) hk).1
     omega
    rw[hcutk]
    have hget:∀b,b < (tr 0).m.n->b∉l->(tr k).m.get b=(tr 0).m.get b:=fun b hb hbl=>c.kJ (i:=0) k (by omega) hk (fun b _ h2 h3=>hL b ((hw b h3).1 h2)) b hb
     (fun p _ h2 h3=>(hpw p b h3).elim (fun x=>hL p (x.1 h2)) hbl)
    have hmono:=(c.mono (i:=0) k (by omega) hk).1
    refine⟨fun b i hb=>?_,fun b i hb=>?_,hs.lt,fun b b' i i' hb hb' h1 h2=>?_,hs.iG⟩
    ·have:=hs.mV b i hb
     show b < (tr k).m.n
     omega
    ·rw[M.eU]
     by_cases hbl:b∈l
     ·rw[if_pos hbl];trivial
     ·rw[if_neg hbl,hget b (hs.mV b i hb) hbl];exact hs.obj b i hb
    ·rw[M.eU]at h1 h2
     by_cases hbl:b∈l
     ·rw[if_pos hbl]at h1;exact absurd rfl h1
     by_cases hbl':b'∈l
     ·rw[if_pos hbl']at h2;exact absurd rfl h2
     rw[if_neg hbl,hget b (hs.mV b i hb) hbl]at h1
     rw[if_neg hbl',hget b' (hs.mV b' i' hb') hbl']at h2
     exact hs.inj b b' i i' hb hb' h1 h2
   FD:=fun p b hp=>absurd hp (hL p)
   mV:=fun b i hb=> .inl (hs.mV b i hb)
   base:=fun _ _ x=>x
   new:=fun b i hb h0=>by rw[hb]at h0;cases h0
   hle:=Nat.le_refl _
   heap:=fun _ _ _=>rfl
   os:=rfl
   tape:=rfl
   output:=rfl
   iG:=fun g hg=>⟨hs.mV g _ (hs.iG g hg),hs.iG g hg⟩}
end
end Go.D
namespace Go.D
open Go
section
variable {E:Env} {P:Program} {call:aF} {nt:Nat} {σ:Sg} {w:World} {a:Act} {ro:Option Nat} {k:Nat}
def Ex.to:Ex->Exit
 |.normal=> .normal
 |.exit id=> .exit id
 |.ret=> .ret
def kc(base:Nat)(σ:Sg)(w:World):List Deferred->Prop
 |[]=>True
 |d::ds=>(∃r,d.target=.collected r/\base<=r/\w.heap[r]?=some (.deferred (some []))/\(∀b i,σ b=some i->i.bX≠r)/\∀d'∈ds,d'.target≠.collected r)/\kc base σ w ds
theorem kc.ev{base:Nat}{σ':Sg}{m m':M}{w':World}(he:Ev P σ m w σ' m' w'):∀{ds:List Deferred},kc base σ w ds->kc base σ' w' ds
 |[],_=>trivial
 |d::ds,h=>by
  obtain⟨⟨r,h1,h2,h3,h4,h5⟩,h6⟩:=h
  have hr:r < w.heap.size:=(Array.getElem?_eq_some_iff.1 h3).1
  refine⟨⟨r,h1,h2,?_,?_,h5⟩,h6.ev he⟩
  ·rw[he.heap r hr (fun b i hb e=>absurd e (h4 b i hb))]
   exact h3
  ·intro b i hb e
   cases hs:σ b with
   |some i'=>
    have:=he.ext b i' hs
    rw[hb]at this;cases this
    exact h4 b i hs e
   |none=>
    rcases(he.new b i hb hs).2 with h |⟨b0,i0,h,h',_⟩
    ·omega
    ·exact h4 b0 i0 h (h'.trans e)
theorem kc.lt{base:Nat}:∀{ds:List Deferred},kc base σ w ds->∀d∈ds,∃r,d.target=.collected r/\r < w.heap.size
 |d::ds,h,d',hd=>by
  obtain⟨⟨r,h1,_,h3,_,_⟩,h6⟩:=h
  rcases List.mem_cons.1 hd with rfl |hd
  ·exact⟨r,h1,(Array.getElem?_eq_some_iff.1 h3).1⟩
  ·exact h6.lt d' hd
def xG(base:Nat)(σ:Sg)(w:World)(tl ds:List Deferred):Prop:=∃ms,ds=ms++tl/\kc base σ w ms
theorem xG.ev{base:Nat}{tl ds:List Deferred}{σ':Sg}{m m':M}{w':World}(he:Ev P σ m w σ' m' w')(h:xG base σ w tl ds):xG base σ' w' tl ds:=by
 obtain⟨ms,h1,h2⟩:=h
 exact⟨ms,h1,h2.ev he⟩
theorem Aj{F:Fence}{n:Nat}{c:Code}{Q:Exit->Act->World->Prop}(h:c.wpIn F n P (Exit.noGoto Q) a w):(Code.scope c).wpIn F n P Q a w:=by
 intro b k cs hro hb hr
 have h1:step P (lone (b.atR a (.code (.scope c)::k)) cs w)=.next (lone (b.atR a (.code c::.inScope c::k)) cs w):=step_lone_go (by simp[stepG,stepG.exec,Frame.atR])
 have i1:(lone (b.atR a (.code (.scope c)::k)) cs w).fenced P F:=fenced_calm hb hr rfl
 obtain⟨e,a₁,w₁,hq,harr⟩:=h b (.inScope c::k) cs hro hb hr
 have h2:step P (lone (b.atR a₁ (.inScope c::k)) cs w₁)=.next (lone (b.atR a₁ k) cs w₁):=step_lone_go (by simp[stepG,stepG.exec,Frame.atR])
 have i2:(lone (b.atR a₁ (.inScope c::k)) cs w₁).fenced P F:=fenced_calm hb hr rfl
 cases e with
 |normal=>exact⟨.normal,a₁,w₁,hq,StepsIn.head i1 h1 (StepsIn.trans harr (.one i2 h2))⟩
 |exit id=>exact⟨.exit id,a₁,w₁,hq,.of_steps (.one i1 h1) ⟨fun k' hk=>harr.1 k' (by simp[exitTo,hk]),fun hr' hk=>harr.2 hr' (by simp[exitTo,hk])⟩⟩
 |goto l=>exact hq.elim
 |ret=>exact⟨_,a₁,w₁,hq,.of_steps (.one i1 h1) harr⟩
 |panic ch=>exact⟨_,a₁,w₁,hq,.of_steps (.one i1 h1) harr⟩
 |outgrown=>exact⟨_,a₁,w₁,hq,.of_steps (.one i1 h1) harr⟩
theorem Ev.extra{m:M}(hs:dB P σ m w)(o:Obj):Ev P σ m w σ m (w.alloc o):=by
 have hk:∀B,B < w.heap.size->(w.alloc o).heap[B]?=w.heap[B]?:=fun B hB=>heap_alloc_old w o hB
 refine⟨fun _ _ x=>x,⟨hs.mV,fun b i hb=>(hs.obj b i hb).bw (fun _ _ x=>x) (hk _ (hs.lt b i hb)),fun b i hb=>?_,hs.inj,hs.iG⟩,Nat.le_refl _,Nat.le_refl _,by simp,fun b i x y=>(by rw[x]at y;cases y),fun _ _ _=>rfl,fun B hB _=>hk B hB,rfl,rfl,rfl⟩
 have:=hs.lt b i hb
 simp
 omega
def LH(ro:Option Nat)(σ:Sg)(m:M):Prop:=ro=none\/∃l i r,ro=some i.bX/\σ l=some i/\m.get l=.loop r
theorem LH.next{ro:Option Nat}{σ':Sg}{m m':M}(h:LH ro σ m)(he:σ.le σ')(hk:LK m m'):LH ro σ' m':=by
 rcases h with h |⟨l,i,r,h1,h2,h3⟩
 ·exact .inl h
 ·obtain⟨r',h4⟩:=hk l r h3
  exact .inr ⟨l,i,r',h1,he _ _ h2,h4⟩
def OV(P:Program)(nt:Nat)(c:Code)(fr:Fr)(e:Ex)(fr':Fr):Prop:=
 ∀(ro:Option Nat) (k base:Nat) (σ:Sg) (a:Act) (w:World) (Q:Exit->Act->World->Prop) (tl:List Deferred),LH ro σ fr.m->cY σ fr.T a nt->dB P σ fr.m w->xG base σ w tl a.defers->base<=w.heap.size->
  (∀σ' a' w',cY σ' fr'.T a' nt->xG base σ' w' tl a'.defers->(ke c=true->a'.defers=a.defers)->Ev P σ fr.m w σ' fr'.m w'->Q e.to a' w')->c.wpIn (dG ro) k P Q a w
noncomputable def least(p:Nat->Prop):Nat:=by
 classical
 exact if h:∃j,p j/\∀i,i < j->¬p i then Classical.choose h else 0
theorem tk{p:Nat->Prop}{j:Nat}(h:p j):p (least p)/\least p<=j:=by
 have ex:∃j,p j/\∀i,i < j->¬p i:=by
  induction j using Nat.strongRecOn with
  |_ j ih=>
   by_cases hc:∃i,i < j/\p i
   ·obtain⟨i,h1,h2⟩:=hc
    exact ih i h1 h2
   ·exact⟨j,h,fun i hi hp=>hc ⟨i,hi,hp⟩⟩
 have hs:=Classical.choose_spec ex
 have he:least p=Classical.choose ex:=by
  unfold least
  rw[dif_pos ex]
 rw[he]
 refine⟨hs.1,?_⟩
 refine Classical.byContradiction fun hc=>?_
 exact hs.2 j (by omega) h
theorem AP{c:Code}{body:Fr->Option (Ex×Fr)}(hkp:∀fr e fr',body fr=some (e,fr')->LK fr.m fr'.m)(hb:∀fr e fr',body fr=some (e,fr')->OV P nt c fr e fr'){n:Nat}{fr:Fr}{e:Ex}{fr':Fr}(h:iv body n fr=some (e,fr')):
  OV P nt (.loop c) fr e fr':=by
 intro ro k base σ a w Q tl hro hf hs hd hba hQ
 let I:Nat->Act->World->Prop:=fun j a' w'=>∃fr1 σ1,iv body j fr1=some (e,fr')/\cY σ1 fr1.T a' nt/\xG base σ1 w' tl a'.defers/\(ke c=true->a'.defers=a.defers)/\LK fr.m fr1.m/\Ev P σ fr.m w σ1 fr1.m w'
 refine wpIn_loop (fun a' w'=>∃j,I j a' w') (fun a' w'=>least fun j=>I j a' w') ⟨n,fr,σ,h,hf,hd,fun _=>rfl,LK.refl,Ev.refl hs⟩ fun a1 w1 ⟨j,hI⟩=>?_
 obtain⟨⟨fr1,σ1,hl,hf1,hd1,hq1,hk1,he1⟩,_⟩:=tk (p:=fun j=>I j a1 w1) hI
 generalize hq:(least fun j=>I j a1 w1)=q at hl
 cases q with
 |zero=>simp[iv]at hl
 |succ q=>
  unfold iv at hl
  cases hbd:body fr1 with
  |none=>rw[hbd]at hl;cases hl
  |some p=>
   obtain⟨e2,fr2⟩:=p
   rw[hbd]at hl
   refine hb fr1 e2 fr2 hbd ro k base σ1 a1 w1 _ tl (hro.next he1.ext hk1) hf1 he1.nG hd1 (Nat.le_trans hba he1.hle) fun σ2 a2 w2 hf2 hd2 hq2 he2=>?_
   have hq12:ke c=true->a2.defers=a.defers:=fun x=>(hq2 x).trans (hq1 x)
   cases e2 with
   |normal=>
    have hI2:I q a2 w2:=⟨fr2,σ2,hl,hf2,hd2,hq12,hk1.trans (hkp _ _ _ hbd),he1.trans he2⟩
    refine⟨⟨q,hI2⟩,?_⟩
    have:=(tk (p:=fun j=>I j a2 w2) hI2).2
    omega
   |exit id=>
    cases hl
    exact hQ σ2 a2 w2 hf2 hd2 hq12 (he1.trans he2)
   |ret=>
    cases hl
    exact hQ σ2 a2 w2 hf2 hd2 hq12 (he1.trans he2)
theorem gQ(hE:E.OK P)(cD:cB P call){n:Nat}:∀(c:Code) (fr:Fr) (e:Ex) (fr':Fr),cX nt P.globals.size c=true->bh E call n c fr=some (e,fr')->OV P nt c fr e fr':=by
 intro c
 induction c with
 |skip=>
  intro fr e fr' _ h ro k base σ a w Q tl hro hf hs hd hba hQ
  cases h
  exact wpIn_skip (hQ σ a w hf hd (fun _=>rfl) (Ev.refl hs))
 |label l=>
  intro fr e fr' _ h ro k base σ a w Q tl hro hf hs hd hba hQ
  cases h
  exact wpIn_label (hQ σ a w hf hd (fun _=>rfl) (Ev.refl hs))
 |region id ops d=>
  intro fr e fr' hok h ro k base σ a w Q tl hro hf hs hde hba hQ
  unfold cX at hok
  simp only[Bool.and_eq_true]at hok
  have hops:∀o∈ops.toList,fK nt P.globals.size o=true:=List.all_eq_true.1 hok.1
  unfold bh at h
  simp only[Option.map_eq_some_iff,Prod.mk.injEq]at h
  obtain⟨fr1,h,rfl,rfl⟩:=h
  cases d with
  |false=>
   simp only[cond_false]at h
   exact wpIn_region_list (ql hE cD hops ops.toList hops fr fr1 h σ a w hf rfl hs fun σ' a' w' h1 h2 h3=>hQ σ' a' w' h1 (by rw[h2];exact hde.ev h3) (fun _=>h2) h3)
  |true=>
   simp only[cond_true]at h
   have hd:sS ops=true:=by simpa using hok.2
   have hw:Ev P σ fr.m w σ fr.m {w with drawn:=w.drawn+1}:=Ev.of_heap hs rfl rfl rfl rfl
   exact wpIn_region_any hE.mixed (Bf hE cD hops hd h hf hw.nG fun σ' a' w' h1 h2 h3=>hQ σ' a' w' h1 (by rw[h2];exact hde.ev (hw.trans h3)) (fun _=>h2) (hw.trans h3))
 |seq x y ihx ihy=>
  intro fr e fr' hok h ro k base σ a w Q tl hro hf hs hd hba hQ
  unfold cX at hok
  simp only[Bool.and_eq_true]at hok
  unfold bh at h
  refine wpIn_seq ?_
  cases hx:bh E call n x fr with
  |none=>rw[hx]at h;cases h
  |some p=>
   obtain⟨e1,fr1⟩:=p
   rw[hx]at h
   refine ihx fr e1 fr1 hok.1 hx ro k base σ a w _ tl hro hf hs hd hba fun σ1 a1 w1 hf1 hd1 hq1 he1=>?_
   have hn:ke (.seq x y)=true->ke x=true/\ke y=true:=fun hh=>by unfold ke at hh;simp only[Bool.and_eq_true]at hh;exact hh
   cases e1 with
   |normal=>exact ihy fr1 e fr' hok.2 h ro k base σ1 a1 w1 Q tl (hro.next he1.ext (ep cD.bw x _ _ _ hx)) hf1 he1.nG hd1 (Nat.le_trans hba he1.hle) fun σ2 a2 w2 hf2 hd2 hq2 he2=>hQ σ2 a2 w2 hf2 hd2 (fun x=>(hq2 (hn x).2).trans (hq1 (hn x).1)) (he1.trans he2)
   |exit id=>cases h;exact hQ σ1 a1 w1 hf1 hd1 (fun x=>hq1 (hn x).1) he1
   |ret=>cases h;exact hQ σ1 a1 w1 hf1 hd1 (fun x=>hq1 (hn x).1) he1
 |cond c x y ihx ihy=>
  intro fr e fr' hok h ro k base σ a w Q tl hro hf hs hd hba hQ
  unfold cX at hok
  simp only[Bool.and_eq_true]at hok
  unfold bh at h
  have hc:=hf.AI hs hok.1
  cases hv:ev fr.T c with
  |bool t=>
   rw[hv]at h hc
   refine wpIn_cond hc.bool ?_
   cases t with
   |true=>exact ihx fr e fr' hok.2.1 h ro k base σ a w Q tl hro hf hs hd hba fun σ' a' w' q1 q2 q3=>hQ σ' a' w' q1 q2 fun hh=>q3 (by unfold ke at hh;simp only[Bool.and_eq_true]at hh;exact hh.1)
   |false=>exact ihy fr e fr' hok.2.2 h ro k base σ a w Q tl hro hf hs hd hba fun σ' a' w' q1 q2 q3=>hQ σ' a' w' q1 q2 fun hh=>q3 (by unfold ke at hh;simp only[Bool.and_eq_true]at hh;exact hh.2)
  |_=>rw[hv]at h;cases h
 |block id c ih=>
  intro fr e fr' hok h ro k base σ a w Q tl hro hf hs hd hba hQ
  unfold cX at hok
  unfold bh at h
  refine wpIn_block ?_
  cases hc:bh E call n c fr with
  |none=>rw[hc]at h;cases h
  |some p=>
   obtain⟨e1,fr1⟩:=p
   rw[hc]at h
   refine ih fr e1 fr1 hok hc ro k base σ a w _ tl hro hf hs hd hba fun σ1 a1 w1 hf1 hd1 hq1 he1=>?_
   have hq1:ke (.block id c)=true->a1.defers=a.defers:=fun hh=>hq1 (by unfold ke at hh;exact hh)
   cases e1 with
   |normal=>cases h;exact hQ σ1 a1 w1 hf1 hd1 hq1 he1
   |exit id'=>
    simp only at h
    simp only[Ex.to,Exit.inBlock]
    by_cases hid:id'=id
    ·subst hid
     simp only[Nat.beq_refl,cond_true,Option.some.injEq,Prod.mk.injEq]at h
     obtain⟨rfl,rfl⟩:=h
     rw[if_pos rfl]
     exact hQ σ1 a1 w1 hf1 hd1 hq1 he1
    ·rw[fL hid]at h
     simp only[cond_false,Option.some.injEq,Prod.mk.injEq]at h
     obtain⟨rfl,rfl⟩:=h
     rw[if_neg hid]
     exact hQ σ1 a1 w1 hf1 hd1 hq1 he1
   |ret=>cases h;exact hQ σ1 a1 w1 hf1 hd1 hq1 he1
 |loop c ih=>
  intro fr e fr' hok h
  unfold cX at hok
  unfold bh at h
  exact AP (c:=c) (fun fr e fr' hb=>ep cD.bw c fr e fr' hb) (fun fr e fr' hb=>ih fr e fr' hok hb) h
 |scope c ih=>
  intro fr e fr' hok h ro k base σ a w Q tl hro hf hs hd hba hQ
  unfold cX at hok
  unfold bh at h
  refine Aj (ih fr e fr' hok h ro k base σ a w _ tl hro hf hs hd hba fun σ' a' w' q1 q2 q3 q4=>?_)
  have:=hQ σ' a' w' q1 q2 (fun hh=>q3 (by unfold ke at hh;exact hh)) q4
  cases e <;>exact this
 |exit id=>
  intro fr e fr' _ h ro k base σ a w Q tl hro hf hs hd hba hQ
  cases h
  exact wpIn_exit (hQ σ a w hf hd (fun _=>rfl) (Ev.refl hs))
 |ret=>
  intro fr e fr' _ h ro k base σ a w Q tl hro hf hs hd hba hQ
  cases h
  exact wpIn_ret (hQ σ a w hf hd (fun _=>rfl) (Ev.refl hs))
 |rangeFunc g ps assign body _ _=>
  intro fr e fr' hok h ro k base σ a w Q tl hro hf hs hd hba hQ
  unfold cX at hok
  simp only[Bool.and_eq_true]at hok
  obtain⟨ok1,ok2,ok5,ok6⟩:=hok
  unfold bh at h
  have hg:=hf.AI hs ok1
  split at h
  ·rename_i f first captured hgv
   rw[hgv]at hg
   cases hc:call (.func f) (first.toList++(.func (.yield fr.m.n) #[] #[]::captured.toList)) (fr.m.push (.loop ⟨fr.T,ps,assign,body,.ready,none,E.G⟩))with
   |none=>rw[hc]at h;cases h
   |some p=>
    obtain⟨v,m⟩:=p
    rw[hc]at h
    simp only at h
    split at h
    ·rename_i r hr
     have hfin:r.st≠.busy/\e=r.oN.getD .normal/\fr'={fr with m:=m.set fr.m.n (.loop {r with st:=.exhausted})}:=by
      split at h
      ·cases h
      ·rename_i hb
       cases h
       exact⟨hb,rfl,rfl⟩
     obtain⟨hnb,rfl,rfl⟩:=hfin
     have hfv:∃first' captured',a.eval g=.func (.func f) first' captured'/\aT σ first.toList first'.toList/\aT σ captured.toList captured'.toList:=hg.tD
     obtain⟨first',captured',hev,hl1,hl2⟩:=hfv
     refine wpIn_rangeFunc fun fn _=>?_
     obtain⟨wa,mark,D,henter,hea,hmark⟩:∃(wa:World) (mark:List Deferred) (D:Nat),
       (Instr.enterLoop fn a.tmps ps assign body (dG ro).round).run P w=.ok (wa.heap.size,mark) (wa.alloc (.loop {state:=.ready,pending:=none,fn,tmps:=a.tmps,params:=ps,assign,body,defers:=D}))/\
       Ev P σ fr.m w σ fr.m wa/\∀σ' m' W',Ev P σ fr.m wa σ' m' W'->xG base σ' W' tl (mark++a.defers):=by
      rcases hro with rfl |⟨l,i,r0,rfl,hl,hlr⟩
      ·refine⟨w.alloc (.deferred (some [])),[{target:=.collected w.heap.size,args:= #[]}],w.heap.size,?_,Ev.extra hs _,fun σ' m' W' hevx=>?_⟩
       ·have hsz:(w.alloc (.deferred (some []))).heap.size=w.heap.size+1:=by simp
        rw[hsz]
        exact run_enterLoop_outer fn a.tmps ps assign body
       ·obtain⟨ms,hms,hd⟩:=hd
        refine⟨[{target:=.collected w.heap.size,args:= #[]}]++ms,by rw[hms,List.append_assoc],?_⟩
        have h0:kc base σ (w.alloc (.deferred (some []))) ([{target:=.collected w.heap.size,args:= #[]}]++ms):=by
         refine⟨⟨w.heap.size,rfl,hba,heap_alloc_new w _,fun b i hb=>?_,fun d' hd' e=>?_⟩,hd.ev (Ev.extra hs _)⟩
         ·have:=hs.lt b i hb;omega
         ·obtain⟨r2,h1,h2⟩:=hd.lt d' hd'
          rw[e]at h1
          cases h1
          omega
        exact h0.ev hevx
      ·have ho:=hs.obj _ _ hl
       rw[hlr]at ho
       obtain⟨_,r0',_,hr0,_⟩:=ho
       exact⟨w,[],r0'.defers,run_enterLoop_inner hr0 fn a.tmps ps assign body,Ev.refl hs,fun σ' m' W' hevx=>hd.ev hevx⟩
     let rec0:Loop:={state:=.ready,pending:=none,fn,tmps:=a.tmps,params:=ps,assign,body,defers:=D}
     let w1:=wa.alloc (.loop rec0)
     have heb:Ev P σ fr.m wa (σ.add fr.m.n ⟨wa.heap.size,none⟩) (fr.m.push (.loop ⟨fr.T,ps,assign,body,.ready,none,E.G⟩)) w1:=by
      refine Ev.mL hea.nG ⟨rfl,rec0,nt,heap_alloc_new wa _,rfl,rfl,rfl,rfl,rfl,hf.1,fun t ht=>?_,?_,?_,?_,by simp⟩
      ·exact(hf.2 t ht).mono (Sg.qo hea.nG.jh)
      ·rw[hE.G];exact ok5
      ·rw[hE.G];exact ok6
      ·intro p hp
       have:=List.all_eq_true.1 ok2 p hp
       rw[dQ]at this
       simpa using this
     have hab:=hea.trans heb
     have hyield:aJ (σ.add fr.m.n ⟨wa.heap.size,none⟩) (.func (.yield fr.m.n) #[] #[]) (.func (.yield wa.heap.size) #[] #[]):=
      .yield fr.m.n ⟨wa.heap.size,none⟩ (Sg.add_same _ _)
     have hle:=hab.ext
     obtain⟨hcalls,hrun⟩:=cD.func f _ _ v m hc _ w1 (first'++ #[.func (.yield wa.heap.size) #[] #[]]++captured') heb.nG (by
      simp only[Array.toList_append,List.append_assoc,List.singleton_append]
      exact(hl1.mono hle).append (aT.cons hyield (hl2.mono hle)))
     refine⟨wa.heap.size,mark,w1,{target:=.fn (.func f) captured',args:=first'++ #[.func (.yield wa.heap.size) #[] #[]]},w1,f,_,w1,
      henter,?_,fun _ _=>trivial,hrun,fun hh=>by simp[dG,Fence.wide]at hh,?_⟩
     ·have hm:Array.map a.eval #[Operand.const (Value.func (Fn.yield wa.heap.size) #[] #[])]= #[Value.func (Fn.yield wa.heap.size) #[] #[]]:=by simp[Act.eval]
      simp only[resolve,hev,Deferred.ofValue,Sem.run_pure,hm]
     ·have hc2:CallsIn (dG ro) (k-1) P f (first'++ #[.func (.yield wa.heap.size) #[] #[]]++captured') w1 (cy P (σ.add fr.m.n ⟨wa.heap.size,none⟩) (fr.m.push (.loop ⟨fr.T,ps,assign,body,.ready,none,E.G⟩)) w1 v m):=
       ⟨trivial,fun cs _=>hcalls.2 cs (room_wide _)⟩
      refine hc2.mono fun e w3 he=>?_
      obtain⟨v',σ2,rfl,_,hec⟩:=he
      have hl2':σ2 fr.m.n=some ⟨wa.heap.size,none⟩:=hec.ext _ _ (Sg.add_same _ _)
      have ho:=hec.nG.obj _ _ hl2'
      rw[hr]at ho
      obtain⟨hgr,r',nt',q1,q2,q3,q4,q5,q6,q7,q8,q9,Pd,q13,q14⟩:=ho
      have q1:w3.heap[wa.heap.size]?=some (.loop r'):=q1
      have hw4:Ev P σ2 m w3 σ2 (m.set fr.m.n (.loop {r with st:=.exhausted})) (w3.putObj wa.heap.size (.loop {r' with state:=.exhausted})):=by
       have hlt:wa.heap.size < w3.heap.size:=(Array.getElem?_eq_some_iff.1 q1).1
       refine Ev.write hec.nG hl2' (by rw[hr];simp) ⟨rfl,{r' with state:=.exhausted},nt',?_,rfl,q3,q4,q5,q6,q7,q8,q9,Pd,q13,q14⟩ ?_ (by simp) rfl rfl rfl
       ·show(w3.putObj wa.heap.size _).heap[wa.heap.size]?=_
        exact World.putObj_heap_same hlt
       ·intro B hB
        exact World.putObj_heap_other fun e=>hB e
      have htot:=(hab.trans hec).trans hw4
      have hdef:=hmark _ _ _ ((heb.trans hec).trans hw4)
      refine⟨r'.pending,_,run_endLoop q1 (by rw[q2];exact hnb),?_⟩
      have hQ':=hQ σ2 {a with defers:=mark++a.defers} _ ⟨hf.1,fun t ht=>(hf.2 t ht).mono htot.ext⟩ hdef (fun hh=>by simp[ke]at hh) htot
      generalize w3.putObj wa.heap.size (.loop {r' with state:=.exhausted})=W4 at hQ'⊢
      rw[q3]
      cases hp:r.oN with
      |none=>rw[hp]at hQ';exact hQ'
      |some e=>
       rw[hp]at hQ'
       cases e with
       |normal=>exact absurd hp q14
       |exit id=>exact wpIn_exit hQ'
       |ret=>exact wpIn_ret hQ'
    ·cases h
  ·cases h
 |_=>intro fr e fr' _ h;simp[bh]at h
end
end Go.D
