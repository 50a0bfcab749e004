/- One operation: D's and the model's. -/
import Derived.Test.YtmdfgncoekfgdaaGreatDoorG0J
import Derived.TacticsIn
import Derived.RangeFuncRecord
import Derived.Scope
import Derived.RecoverIn
import Derived.RangeFuncNested
namespace Go.D
open Go
def dO(ro:Option Nat):Fence:={Fence.wide with round:=ro}
section
variable {E:Env} {P:Program} {σ:Sg} {m m':M} {w:World}
def dv(P:Program)(σ:Sg)(m:M)(w:World)(r:Result Next)(v:Value)(m':M):Prop:=
 (∃σ' w' v',aJ σ' v v'/\Ev P σ m w σ' m' w')/\
 ∀(ro:Option Nat) (n:Nat) (o:Oper) (a:Act) (next:Act->World->Prop) (Q:Exit->Act->World->Prop),
  (∀σ' w' v',aJ σ' v v'->Ev P σ m w σ' m' w'->next (a.put o.dst v') w')->o.uponIn (dO ro) n P a next Q r
def cC(P:Program)(σ:Sg)(m:M)(w:World)(v:Value)(m':M):Ending->World->Prop:=fun e w'=>∃v' σ',e=.returned v'/\aJ σ' v v'/\Ev P σ m w σ' m' w'
structure cQ(P:Program)(call:aF):Prop where
 func:∀f args m v m',call (.func f) args m=some (v,m')->∀σ w (args':Array Value),dN P σ m w->aU σ args args'.toList->
  CallsIn Fence.wide 0 P f args' w (cC P σ m w v m')/\(callFunc f args').run P w=.ok (.enter f args') w
 yield:∀l args m v m',call (.yield l) args m=some (v,m')->∀σ w i (args':Array Value),dN P σ m w->σ l=some i->aU σ args args'.toList->dv P σ m w ((Instr.yield i.cG args').run P w) v m'
 bt:iF call
 EF:∀a m v m' b,call (.func tI) [.pointer (some a)] m=some (v,m')->ma m a=some b->m.get b≠.dead/\m'=m.set b .dead/\∀σ w (args':Array Value),dN P σ m w->aU σ [.pointer (some a)] args'.toList->
  ∃i,σ b=some i/\CallsIn Fence.wide 0 P tI args' w (fun e w'=>cC P σ m w v m' e w'/\∀B,B≠i.cG->w'.heap[B]?=w.heap[B]?)/\(callFunc tI args').run P w=.ok (.enter tI args') w
theorem dv.enter{f:FuncId}{args:Array Value}{v:Value}(h:CallsIn Fence.wide 0 P f args w (cC P σ m w v m')):dv P σ m w (.ok (.enter f args) w) v m':=by
 refine⟨?_,fun ro n o a next Q hk=>?_⟩
 ·obtain⟨e,w',fr,⟨v',σ',_,hv,he⟩,_⟩:=h.2 [] (room_wide _)
  exact⟨σ',w',v',hv,he⟩
 ·refine⟨fun hh=>by simp[dO,Fence.wide]at hh,?_⟩
  have h2:CallsIn (dO ro) (n-1) P f args w (cC P σ m w v m'):=⟨trivial,fun cs _=>h.2 cs (room_wide _)⟩
  refine h2.mono fun e w' he=>?_
  obtain⟨v',σ',rfl,hv,hev⟩:=he
  exact hk σ' w' v' hv hev
theorem AE{Q0:Ending->World->Prop}{f:FuncId}{args:Array Value}(h:CallsIn Fence.wide 0 P f args w Q0)(ro:Option Nat)(n:Nat)(o:Oper)(a:Act)(next:Act->World->Prop)(Q:Exit->Act->World->Prop)
  (hk:∀e w',Q0 e w'->∃v',e=.returned v'/\next (a.put o.dst v') w'):o.uponIn (dO ro) n P a next Q (.ok (.enter f args) w):=by
 refine⟨fun hh=>by simp[dO,Fence.wide]at hh,?_⟩
 have h2:CallsIn (dO ro) (n-1) P f args w Q0:=⟨trivial,fun cs _=>h.2 cs (room_wide _)⟩
 refine h2.mono fun e w' he=>?_
 obtain⟨v',rfl,hn⟩:=hk e w' he
 exact hn
theorem cQ.op{call:aF}(hc:cQ P call)(f:FuncId)(args:List Value)(m:M)(v:Value)(m':M)(h:call (.func f) args m=some (v,m'))(σ:Sg)(w:World)(args':Array Value)(hs:dN P σ m w)(hl:aU σ args args'.toList):dv P σ m w ((callFunc f args').run P w) v m':=by
 obtain⟨h1,h2⟩:=hc.func f args m v m' h σ w args' hs hl
 rw[h2]
 exact .enter h1
theorem dv.value{v v':Value}{σ':Sg}{w':World}(hv:aJ σ' v v')(he:Ev P σ m w σ' m' w'):dv P σ m w (.ok (.value v') w') v m':=
 ⟨⟨σ',w',v',hv,he⟩,fun _ _ _ _ _ _ h=>h σ' w' v' hv he⟩
theorem dv.skip{σ':Sg}{w':World}(he:Ev P σ m w σ' m' w'):dv P σ m w (.ok .skip w') undef m':=
 ⟨⟨σ',w',undef,aJ.undef,he⟩,fun _ _ _ _ _ _ h=>h σ' w' undef aJ.undef he⟩
theorem tC.op{s:Sem Value}{v:Value}(h:tC P σ m w s v m'):dv P σ m w ((do let x<-s;Pure.pure (Next.value x):Sem Next).run P w) v m':=by
 obtain⟨σ',w',v',h1,h2,h3⟩:=h
 rw[Sem.run_bind,h1]
 exact .value h2 h3
theorem dv.same(hs:dN P σ m w){s:Sem Value}{v v':Value}(h:s.run P w=.ok v' w)(hv:aJ σ v v'):dv P σ m w ((do let x<-s;pure (Next.value x):Sem Next).run P w) v m:=
 (tC.pure hs h hv).op
def dp(σ:Sg)(T:Tr Value)(a:Act)(nt:Nat):Prop:=a.tmps.size=nt/\∀t,t < nt->aJ σ (gk T t) (a.eval (.tmp t))
theorem dp.mono{τ:Sg}{T:Tr Value}{a:Act}{nt:Nat}(h:dp σ T a nt)(hle:σ.le τ):dp τ T a nt:=⟨h.1,fun t ht=>(h.2 t ht).mono hle⟩
theorem Bc(T:Tr Value)(d:Tmp)(v:Value)(t:Nat):gk (put T (some d) v) t=if t=d then v else gk T t:=by
 unfold gk D.put
 rw[Tr.bL]
 by_cases h:t=d <;>simp[h]
theorem dp.put{T:Tr Value}{a:Act}{nt:Nat}{v v':Value}{dst:Option Tmp}(h:dp σ T a nt)(hd:∀d,dst=some d->d < nt)(hv:aJ σ v v'):dp σ (put T dst v) (a.put dst v') nt:=by
 cases dst with
 |none=>exact h
 |some d=>
  have hdn:=hd d rfl
  refine⟨by simp[Act.put,h.1],fun t ht=>?_⟩
  rw[Bc]
  by_cases hdt:t=d
  ·subst hdt
   have:(a.put (some t) v').eval (.tmp t)=v':=by simp[Act.put,Act.eval,h.1,hdn]
   rw[if_pos rfl,this];exact hv
  ·rw[if_neg hdt,Act.eval_put (fun e he=>by cases he;simpa using hdt)]
   exact h.2 t ht
theorem za{nt:Nat}{T:Tr Value}{a:Act}{x:Operand}(hs:dN P σ m w)(hT:∀t,x=.tmp t->aJ σ (gk T t) (a.eval (.tmp t)))(hx:nD nt P.globals.size x=true):aJ σ (ev T x) (a.eval x):=by
 cases x with
 |tmp t=>exact hT t rfl
 |const v=>exact .eb hx
 |global g=>
  have hg:g < P.globals.size:=by
   have h:Nat.blt g P.globals.size=true:=hx
   rw[dX]at h;simpa using h
  exact .ptr ⟨g,0,none⟩ ⟨g,none⟩ (hs.iy g hg) rfl
 |func f=>exact .flat _ rfl
theorem jg{T:Tr Value}{a:Act}(l:List Operand)(h:∀x∈l,aJ σ (ev T x) (a.eval x)):aU σ (l.map (ev T)) (l.map a.eval):=by
 refine⟨by simp,fun j u u' hu hu'=>?_⟩
 simp only[List.getElem?_map,Option.map_eq_some_iff]at hu hu'
 obtain⟨x,hx,rfl⟩:=hu
 obtain⟨y,hy,rfl⟩:=hu'
 rw[hx]at hy;cases hy
 exact h x (List.mem_of_getElem? hx)
theorem tv(hE:E.OK P)(hs:dN P σ m w){b:Builtin}{ts:Array TypeId}{ty:TypeId}{cs:Array Bool}{args args':List Value}{v:Value}(h:an E m b ts.toList args=some (v,m'))(hl:aU σ args args'):
  dv P σ m w ((Go.builtin b ts ty cs args'.toArray).run P w) v m':=by
 unfold an at h
 split at h
 ·rename_i t u s x hts
  obtain⟨s',l1,rfl,h1,hl1⟩:=hl.cases
  obtain⟨x',l2,rfl,h2,hl2⟩:=hl1.cases
  obtain rfl:=hl2.nil_eq
  have hts':ts= #[t,u]:=Array.ext' hts
  subst hts'
  exact(wB (ty:=ty) hE hs h h1 h2).op
 ·rename_i t rest d x hts
  obtain⟨s',l1,rfl,h1,hl1⟩:=hl.cases
  obtain⟨x',l2,rfl,h2,hl2⟩:=hl1.cases
  obtain rfl:=hl2.nil_eq
  have hts':ts[0]?=some t:=by rw[<-Array.getElem?_toList,hts];rfl
  exact(AL (ty:=ty) hE hs hts' h h1 h2).op
 ·rename_i t x hts
  obtain⟨x',l2,rfl,h2,hl2⟩:=hl.cases
  obtain rfl:=hl2.nil_eq
  have hts':ts= #[t]:=Array.ext' hts
  subst hts'
  exact(zi (ty:=ty) hE hs h h2).op
 ·rename_i t x hts
  obtain⟨x',l2,rfl,h2,hl2⟩:=hl.cases
  obtain rfl:=hl2.nil_eq
  have hts':ts= #[t]:=Array.ext' hts
  subst hts'
  simp only[Option.map_eq_some_iff,Prod.mk.injEq]at h
  obtain⟨v0,h,rfl,rfl⟩:=h
  obtain⟨q1,q2⟩:=Dx (ty:=ty) hE hs h h2
  exact dv.same hs q1 (.flat _ q2)
 ·simp only[Option.map_eq_some_iff,Prod.mk.injEq]at h
  obtain⟨v0,h,rfl,rfl⟩:=h
  obtain⟨x,rest,rfl,q1,q2⟩:=lP (P:=P) (w:=w) (op:=Builtin.min2) (fun k x k' y=>rfl) hl h
  exact dv.same hs (s:=Builtin.min_ ts ty (x::rest).toArray) (by simpa[Builtin.min_]using q1) (.flat _ q2)
 ·simp only[Option.map_eq_some_iff,Prod.mk.injEq]at h
  obtain⟨v0,h,rfl,rfl⟩:=h
  obtain⟨x,rest,rfl,q1,q2⟩:=lP (P:=P) (w:=w) (op:=Builtin.max2) (fun k x k' y=>rfl) hl h
  exact dv.same hs (s:=Builtin.max_ ts ty (x::rest).toArray) (by simpa[Builtin.max_]using q1) (.flat _ q2)
 ·rename_i t x hts
  obtain⟨x',l2,rfl,h2,hl2⟩:=hl.cases
  obtain rfl:=hl2.nil_eq
  have hts':ts= #[t]:=Array.ext' hts
  subst hts'
  split at h
  ·rename_i ti hti
   obtain⟨i,u,f⟩:=hE.jJ hti
   split at h
   ·rename_i e a n c hd
    rw[f.d]at hd
    obtain rfl:=cT hd
    cases hsl:lI m a with
    |true=>rw[hsl]at h;simp at h
    |false=>
     rw[hsl]at h
     simp only[cond_false,Option.some.injEq,Prod.mk.injEq]at h
     obtain⟨rfl,rfl⟩:=h
     obtain⟨bi,a',c',hbi,rfl,hcase⟩:=h2.dc
     have hgn:bi.gr=none:=by
      unfold lI at hsl
      split at hsl
      ·rename_i cs te hg
       obtain⟨_,_,_,_,hgr⟩:=hs.cells hbi hg
       exact hgr.1
      ·cases hsl
     have hcc:c'=c:=by
      rcases hcase with⟨_,_,⟨_,rfl⟩ |⟨k,sz,N,hk,_⟩⟩ |⟨_,_,k,sz,N,hk,_⟩
      ·rfl
      ·rw[hgn]at hk;cases hk
      ·rw[hgn]at hk;cases hk
     subst hcc
     exact dv.same hs (s:=Builtin.cap_ #[t] ty #[.slice (some a') n c']) (by simp[Builtin.cap_,run_underlying f.ed,goInt]) (.flat _ rfl)
   ·rename_i e n c hd
    rw[f.d]at hd
    obtain rfl:=cT hd
    cases h
    obtain⟨rfl,rfl,rfl⟩:=h2.dZ
    exact dv.same hs (s:=Builtin.cap_ #[t] ty #[.slice none 0 0]) (by simp[Builtin.cap_,run_underlying f.ed,goInt]) (.flat _ rfl)
   ·cases h
  ·cases h
 ·cases h
theorem sY.map{T:Tr Value}{a:Act}{x:Option Operand}(h:∀o,x=some o->aJ σ (ev T o) (a.eval o)):sY σ (x.map (ev T)) (x.map a.eval):=by
 cases x with
 |none=>trivial
 |some o=>exact h o rfl
theorem AU(hE:E.OK P){call:aF}(cN:cQ P call)(hs:dN P σ m w){T:Tr Value}{a:Act}{c:Call}{ty:TypeId}{v:Value}(h:kJ c E call T m=some (v,m'))
  (hT:∀x∈c.operands.toList,aJ σ (ev T x) (a.eval x)):dv P σ m w ((do let d<-resolve a.eval c ty;invoke d.target d.args:Sem Next).run P w) v m':=by
 unfold kJ at h
 have hargs:aU σ (c.args.toList.map (ev T)) (c.args.toList.map a.eval):=jg _ (fun x hx=>hT x (by simp[Call.operands];exact .inr (by simpa using hx)))
 have hma:c.args.map a.eval=(c.args.toList.map a.eval).toArray:=by apply Array.ext';simp
 unfold resolve
 split at h
 ·rename_i b hc
  rw[hc]
  simp only[Sem.run_bind,Sem.run_pure,Result.andThen_ok,invoke,hma]
  exact tv hE hs h hargs
 ·rename_i f hc
  rw[hc]
  have hf:aJ σ (ev T f) (a.eval f):=hT f (by simp[Call.operands,hc])
  split at h
  ·rename_i g first captured hg
   rw[hg]at hf
   obtain⟨fv,hfv⟩:∃x,a.eval f=x:=⟨_,rfl⟩
   rw[hfv]at hf
   cases hf with
   |flat _ hh=>
    cases g with
    |func g=>
     simp only[hfv,Deferred.ofValue,Sem.run_bind,Sem.run_pure,Result.andThen_ok,invoke]
     refine cN.op g _ m v m' h σ w _ hs ?_
     rw[hma]
     simp only[bP,Bool.and_eq_true,List.isEmpty_iff]at hh
     simp only[Array.toList_append,hh.1,hh.2,List.nil_append,List.append_nil]
     exact hargs
    |_=>simp[bP]at hh
   |func g _ _ first' captured' ha hb h1 h2=>
    simp only[hfv,Deferred.ofValue,Sem.run_bind,Sem.run_pure,Result.andThen_ok,invoke]
    refine cN.op g _ m v m' h σ w _ hs ?_
    rw[hma]
    simp only[Array.toList_append]
    have e1:aU σ first.toList first'.toList:=⟨by simpa using ha,fun j u u' x y=>h1 j u u' (by simpa using x) (by simpa using y)⟩
    have e2:aU σ captured.toList captured'.toList:=⟨by simpa using hb,fun j u u' x y=>h2 j u u' (by simpa using x) (by simpa using y)⟩
    rw[List.append_assoc]
    exact e1.append (hargs.append e2)
   |yield l i hl=>
    simp only[hfv,Deferred.ofValue,Sem.run_bind,Sem.run_pure,Result.andThen_ok,invoke]
    refine cN.yield l _ m v m' h σ w i _ hs hl ?_
    rw[hma]
    simp only[Array.toList_append,List.nil_append,List.append_nil]
    simpa using hargs
  ·cases h
 ·cases h
theorem oA(hE:E.OK P){call:aF}(cN:cQ P call)(hs:dN P σ m w){T:Tr Value}{a:Act}{o:Oper}{v:Value}(h:cS o.op E call T m=some (v,m'))
  (hT:∀x∈o.op.operands.toList,aJ σ (ev T x) (a.eval x)):dv P σ m w ((execOp a.eval o).run P w) v m':=by
 unfold execOp
 cases ho:o.op with
 |move x=>
  rw[ho]at h hT
  dsimp only
  cases h
  exact .value (hT x (by simp[Op.operands])) (Ev.refl hs)
 |assign x=>
  rw[ho]at h hT
  dsimp only
  cases h
  exact .value (hT x (by simp[Op.operands])) (Ev.refl hs)
 |pick c x y=>
  rw[ho]at h hT
  dsimp only
  simp only[cS,nz]at h
  split at h
  ·rename_i t hc
   simp only[Option.some.injEq,Prod.mk.injEq]at h
   obtain⟨rfl,rfl⟩:=h
   have h1:=hT c (by simp[Op.operands])
   rw[hc]at h1
   rw[h1.bool]
   simp only[asBool,Sem.run_bind,Sem.run_pure,Result.andThen_ok]
   refine .value ?_ (Ev.refl hs)
   cases t
   ·exact hT y (by simp[Op.operands])
   ·exact hT x (by simp[Op.operands])
  ·cases h
 |alloc t=>
  rw[ho]at h
  dsimp only
  simp only[cS,oE]at h
  split at h
  ·rename_i z hz
   cases h
   exact(zr hE hs hz).op
  ·cases h
 |box t x=>
  rw[ho]at h hT
  dsimp only
  cases h
  exact(Ew hs (hT x (by simp[Op.operands]))).op
 |build t ps=>
  rw[ho]at h hT
  dsimp only
  simp only[cS,oD]at h
  split at h
  ·rename_i z hz
   cases h
   obtain⟨v',h1,h2⟩:=qu (w:=w) hE (T:=ev T) (A:=a.eval) (fun p hp=>hT p.2 (by simp only[Op.operands];exact List.mem_map_of_mem hp)) hz
   exact dv.same hs h1 h2
  ·cases h
 |buildSlice t n ps=>
  rw[ho]at h hT
  dsimp only
  simp only[cS,kK]at h
  exact(qb hE hs (T:=ev T) (A:=a.eval) (fun p hp=>hT p.2 (by simp only[Op.operands];exact List.mem_map_of_mem hp)) h).op
 |load t x=>
  rw[ho]at h hT
  dsimp only
  simp only[cS,rU]at h
  split at h
  ·rename_i ad hx
   split at h
   ·rename_i z hz
    cases h
    have h1:=hT x (by simp[Op.operands])
    rw[hx]at h1
    obtain⟨i,hi,_,he⟩:=h1.dV
    obtain⟨v',q1,q2,_⟩:=mV (w:=w) hE hs hi hz
    refine dv.same hs (s:=Instr.loadAt t (a.eval x)) ?_ q2
    rw[he]
    simpa[Instr.loadAt,Instr.sureAddr]using q1
   ·cases h
  ·cases h
 |store t x y=>
  rw[ho]at h hT
  dsimp only
  simp only[cS,kI]at h
  split at h
  ·rename_i ad hx
   split at h
   ·rename_i m2 hz
    cases h
    have h1:=hT x (by simp[Op.operands])
    rw[hx]at h1
    obtain⟨i,hi,_,he⟩:=h1.dV
    obtain⟨w',q1,q2,_⟩:=lF hE hs hi (hT y (by simp[Op.operands])) hz
    have hr:(Instr.storeAt t (a.eval x) (a.eval y)).run P w=.ok () w':=by
     rw[he]
     simpa[Instr.storeAt,Instr.sureAddr]using q1
    simp only[Sem.run_bind,hr,Result.andThen_ok,Sem.run_pure]
    exact .skip q2
   ·cases h
  ·cases h
 |nilCheck x=>
  rw[ho]at h hT
  dsimp only
  have h1:=hT x (by simp[Op.operands])
  simp only[cS,fE]at h
  split at h
  ·rename_i ad hx
   cases h
   rw[hx]at h1
   have h2:=h1
   obtain⟨i,hi,_,he⟩:=h1.dV
   rw[he]at h2⊢
   exact .value h2 (Ev.refl hs)
  ·rename_i g a1 b1 hx
   cases h
   rw[hx]at h1
   have h2:=h1
   obtain⟨a',b',he,_⟩:=h1.sC
   rw[he]at h2⊢
   exact .value h2 (Ev.refl hs)
  ·cases h
 |binOp op t x y yt=>
  rw[ho]at h hT
  dsimp only
  simp only[cS,xY]at h
  split at h
  ·rename_i z hz
   cases h
   obtain⟨q1,q2⟩:=uD (w:=w) hE hz (hT x (by simp[Op.operands])) (hT y (by simp[Op.operands])) x y
   exact dv.same hs q1 (.flat _ q2)
  ·cases h
 |unOp op t x=>
  rw[ho]at h hT
  dsimp only
  simp only[cS,Gr]at h
  split at h
  ·rename_i z hz
   cases h
   obtain⟨q1,q2⟩:=wR (P:=P) (w:=w) hz (hT x (by simp[Op.operands]))
   exact dv.same hs q1 (.flat _ q2)
  ·cases h
 |convert s d x=>
  rw[ho]at h hT
  dsimp only
  simp only[cS,Ak]at h
  split at h
  ·rename_i z hz
   cases h
   obtain⟨q1,q2⟩:=HY (P:=P) (w:=w) hE hs hz (hT x (by simp[Op.operands]))
   exact dv.same hs q1 (.flat _ q2)
  ·cases h
 |makeFunc f x y=>
  rw[ho]at h hT
  dsimp only
  simp only[cS,gG]at h
  split at h
  ·rename_i g
   cases h
   have e1:aU σ (x.toList.map (ev T)) (x.toList.map a.eval):=jg _ (fun o hx=>hT o (by simp[Op.operands];exact .inl (by simpa using hx)))
   have e2:aU σ (y.toList.map (ev T)) (y.toList.map a.eval):=jg _ (fun o hx=>hT o (by simp[Op.operands];exact .inr (by simpa using hx)))
   refine dv.same hs (s:=Instr.makeFunc (.func g) (x.map a.eval) (y.map a.eval)) rfl ?_
   refine .func g _ _ _ _ (by simp) (by simp) (fun j u u' p q=>e1.2 j u u' (by simpa using p) (by simpa using q)) (fun j u u' p q=>e2.2 j u u' (by simpa using p) (by simpa using q))
  ·cases h
 |makeMap t r=>
  rw[ho]at h
  dsimp only
  simp only[cS,mw]at h
  split at h
  ·cases h
   exact(tp hs t).op
  ·cases h
 |makeSlice t l c=>
  rw[ho]at h hT
  dsimp only
  exact(qC hE hs (hT l (by simp[Op.operands])) (hT c (by simp[Op.operands])) h).op
 |slice t x lo hi mx=>
  rw[ho]at h hT
  dsimp only
  simp only[cS,uY]at h
  split at h
  ·rename_i z hz
   cases h
   obtain⟨v',q1,q2⟩:=wW (w:=w) hE hs hz (hT x (by simp[Op.operands])) (sY.map (a:=a) (fun o he=>hT o (by simp[Op.operands,he]))) (sY.map (a:=a) (fun o he=>hT o (by simp[Op.operands,he]))) (sY.map (a:=a) (fun o he=>hT o (by simp[Op.operands,he])))
   exact dv.same hs q1 q2
  ·cases h
 |fieldAddr s x f=>
  rw[ho]at h hT
  dsimp only
  simp only[cS,ic]at h
  split at h
  ·rename_i z hz
   cases h
   obtain⟨v',q1,q2⟩:=lq (w:=w) hE hz (hT x (by simp[Op.operands]))
   exact dv.same hs q1 q2
  ·cases h
 |field t x f=>
  rw[ho]at h hT
  dsimp only
  simp only[cS,oC]at h
  split at h
  ·rename_i z hz
   cases h
   obtain⟨v',q1,q2⟩:=qo (w:=w) hE hz (hT x (by simp[Op.operands]))
   exact dv.same hs q1 q2
  ·cases h
 |indexAddr t x y=>
  rw[ho]at h hT
  dsimp only
  simp only[cS,ib]at h
  split at h
  ·rename_i z hz
   cases h
   obtain⟨v',q1,q2⟩:=ll (w:=w) hE hz (hT x (by simp[Op.operands])) (hT y (by simp[Op.operands]))
   exact dv.same hs q1 q2
  ·cases h
 |index t x y=>
  rw[ho]at h hT
  dsimp only
  simp only[cS,oB]at h
  split at h
  ·rename_i z hz
   cases h
   obtain⟨v',q1,q2⟩:=ql (w:=w) hE hz (hT x (by simp[Op.operands])) (hT y (by simp[Op.operands]))
   exact dv.same hs q1 q2
  ·cases h
 |lookup t x y ok=>
  rw[ho]at h hT
  dsimp only
  simp only[cS,rT]at h
  split at h
  ·rename_i z hz
   cases h
   obtain⟨v',q1,q2⟩:=vw hE hs hz (hT x (by simp[Op.operands])) (hT y (by simp[Op.operands]))
   exact dv.same hs q1 q2
  ·cases h
 |mapUpdate t x k y=>
  rw[ho]at h hT
  dsimp only
  simp only[cS,eh]at h
  split at h
  ·rename_i m2 hz
   cases h
   obtain⟨w',q1,q2⟩:=lh hE hs hz (hT x (by simp[Op.operands])) (hT k (by simp[Op.operands])) (hT y (by simp[Op.operands]))
   simp only[Sem.run_bind,q1,Result.andThen_ok,Sem.run_pure]
   exact .skip q2
  ·cases h
 |insert t x k y=>
  rw[ho]at h hT
  dsimp only
  simp only[cS,eh]at h
  split at h
  ·rename_i m2 hz
   cases h
   obtain⟨w',q1,q2⟩:=lh hE hs hz (hT x (by simp[Op.operands])) (hT k (by simp[Op.operands])) (hT y (by simp[Op.operands]))
   simp only[Sem.run_bind,q1,Result.andThen_ok,Sem.run_pure]
   exact .skip q2
  ·cases h
 |extract x i=>
  rw[ho]at h hT
  dsimp only
  simp only[cS,ja]at h
  split at h
  ·rename_i vs hx
   split at h
   ·rename_i z hz
    cases h
    have h1:=hT x (by simp[Op.operands])
    rw[hx]at h1
    obtain⟨vs',he,hl⟩:=h1.py
    obtain⟨u',hu,hr⟩:=hl.get hz
    refine dv.same hs (s:=Instr.extract (a.eval x) i) (v':=u') ?_ hr
    rw[he]
    have:vs'[i]?=some u':=by simpa using hu
    simp[Instr.extract,this]
   ·cases h
  ·cases h
 |call c=>
  rw[ho]at h hT
  dsimp only
  exact AU hE cN hs h hT
 |mapEntry t x k=>
  rw[ho]at h hT
  dsimp only
  simp only[cS,nA]at h
  obtain⟨w',v',q1,q2,q3⟩:=rY hE hs h (hT x (by simp[Op.operands])) (hT k (by simp[Op.operands]))
  exact tC.op ⟨_,w',v',q1,q2,q3⟩
 |entryStore t x s y=>
  rw[ho]at h hT
  dsimp only
  simp only[cS,iO]at h
  split at h
  ·rename_i m2 hz
   cases h
   obtain⟨w',q1,q2⟩:=pW (t:=t) hs hz (hT x (by simp[Op.operands])) (hT s (by simp[Op.operands])) (hT y (by simp[Op.operands]))
   simp only[Sem.run_bind,q1,Result.andThen_ok,Sem.run_pure]
   exact .skip q2
  ·cases h
 |typeAssert x xt t ok=>
  rw[ho]at h hT
  dsimp only
  simp only[cS,lN]at h
  have h1:=hT x (by simp[Op.operands])
  split at h
  ·rename_i hx
   rw[hx]at h1
   rw[h1.aQ rfl]
   cases ok with
   |false=>cases h
   |true=>
    simp only[cond_true]at h
    split at h
    ·rename_i z hz
     cases h
     unfold fQ at hz
     cases hti:E.ty.get t with
     |none=>rw[hti]at hz;cases hz
     |some ti=>
      rw[hti]at hz
      simp only[Option.bind_some]at hz
      obtain⟨i,u,f⟩:=hE.jJ hti
      have hzr:=aJ.eH (σ:=σ) (hE.flat hti hz)
      have hzrun:=dq (w:=w) f.info (by rw[<-f.zero];exact hz)
      refine dv.same hs (s:=Instr.typeAssert .nilIface xt t true) (v':=.tuple #[z,.bool false]) ?_ (aU.cons hzr (aU.cons (.flat _ rfl) aU.nil)).tuple
      unfold Instr.typeAssert
      rw[Sem.run_bind,run_underlying f.ed,Result.andThen_ok]
      split <;>first |(rename_i h3;cases h3;done) |skip
      all_goals first |(simp only[if_true,Sem.run_bind,hzrun,Result.andThen_ok,Sem.run_pure];done) |(exfalso;simp_all;done)
    ·cases h
  ·rename_i t' cs hx
   cases hc:(ok && (Nat.beq t' t && cs.toList.isEmpty))with
   |false=>rw[hc]at h;cases h
   |true=>
    rw[hc,cond_true]at h
    simp only[Bool.and_eq_true,List.isEmpty_iff]at hc
    obtain⟨rfl,ht,hcs⟩:=hc
    obtain rfl:=Nat.eq_of_beq_eq_true ht
    have hcs':cs= #[]:=Array.eq_empty_of_size_eq_zero (by rw[<-Array.length_toList,hcs];rfl)
    subst hcs'
    rw[hx]at h1
    rw[h1.aQ rfl]
    split at h
    ·rename_i ti hti
     split at h
     ·rename_i fs hfs
      cases h
      obtain⟨i,u,f⟩:=hE.jJ hti
      obtain⟨gs,rfl,_⟩:=eS (f.d.symm.trans hfs)
      refine dv.same hs (s:=Instr.typeAssert (.iface t' (.agg #[])) xt t' true) (v':=.tuple #[.agg #[],.bool true]) ?_ (aU.cons (aJ.eb rfl) (aU.cons (.flat _ rfl) aU.nil)).tuple
      unfold Instr.typeAssert
      rw[Sem.run_bind,run_underlying f.ed,Result.andThen_ok]
      simp only[if_true]
      rfl
     ·cases h
    ·cases h
  ·cases h
 |_=>rw[ho]at h;simp[cS]at h
end
end Go.D
namespace Go.D
open Go
section
variable {E:Env} {P:Program} {σ:Sg} {m m':M} {w:World}
theorem aJ.IU{v:Value}{b:Bool}(h:aJ σ v (.bool b)):v=.bool b:=by
 cases h;rfl
theorem nY{ops:Array Oper}{T:Tr Value}{a:Act}{o:Oper}
  (hT:∀j want d,o.guard=some (j,want)->(ops[j]?).bind (·.dst)=some d->d < a.tmps.size/\aJ σ (gk T d) (a.eval (.tmp d))):
  bT ops T o=Region.wanted o (yielded ops a.tmps):=by
 unfold bT Region.wanted
 cases hg:o.guard with
 |none=>rfl
 |some p=>
  obtain⟨j,want⟩:=p
  dsimp only
  unfold yielded
  simp only[Array.getElem?_toList]
  cases hd:(ops[j]?).bind (·.dst)with
  |none=>rfl
  |some d=>
   obtain⟨h1,h2⟩:=hT j want d hg hd
   have he:a.tmps[d]?=some (a.eval (.tmp d)):=by simp[Act.eval,h1]
   simp only[Option.bind_some,he]
   generalize a.eval (.tmp d)=u at h2
   cases hv:gk T d with
   |bool b=>
    rw[hv]at h2
    rw[h2.bool]
    simp
   |_=>
    rw[hv]at h2
    cases u with
    |bool b=>have:=h2.IU;cases this
    |_=>simp
theorem eu{nt G:Nat}{o:Oper}(h:fG nt G o=true):∀d,o.dst=some d->d < nt:=by
 intro d hd
 unfold fG at h
 rw[hd]at h
 simp only[Bool.and_eq_true]at h
 have:=h.2
 rw[dX]at this
 simpa using this
theorem fF{nt G:Nat}{o:Oper}(h:fG nt G o=true):∀x∈o.op.operands.toList,nD nt G x=true:=by
 intro x hx
 unfold fG at h
 simp only[Bool.and_eq_true]at h
 exact List.all_eq_true.1 h.1 x hx
theorem nC{nt G t:Nat}(h:nD nt G (.tmp t)=true):t < nt:=by
 have h:Nat.blt t nt=true:=h
 rw[dX]at h;simpa using h
theorem dp.Aj{T:Tr Value}{a:Act}{nt:Nat}(h:dp σ T a nt)(hs:dN P σ m w){x:Operand}(hx:nD nt P.globals.size x=true):aJ σ (ev T x) (a.eval x):=
 za hs (fun t ht=>by subst ht;exact h.2 t (nC hx)) hx
theorem dp.wanted{ops:Array Oper}{T:Tr Value}{a:Act}{nt:Nat}(h:dp σ T a nt)(hok:∀o∈ops.toList,fG nt P.globals.size o=true)(o:Oper):bT ops T o=Region.wanted o (yielded ops a.tmps):=by
 refine nY (σ:=σ) fun j want d _ hd=>?_
 simp only[Option.bind_eq_some_iff]at hd
 obtain⟨o',ho',hd'⟩:=hd
 have hlt:=eu (hok o' (by simpa using Array.mem_of_getElem? ho')) d hd'
 exact⟨by rw[h.1];exact hlt,h.2 d hlt⟩
theorem pM(hE:E.OK P){call:aF}(cN:cQ P call){nt:Nat}{ops:Array Oper}(hok:∀o∈ops.toList,fG nt P.globals.size o=true){ro:Option Nat}{n:Nat}{Q:Exit->Act->World->Prop}{ds:List Deferred}:
  ∀(l:List Oper),(∀o∈l,fG nt P.globals.size o=true)->∀(fr fr':Fr),th E call ops l fr=some fr'->∀(σ:Sg) (a:Act) (w:World),dp σ fr.T a nt->a.defers=ds->dN P σ fr.m w->
   (∀σ' a' w',dp σ' fr'.T a' nt->a'.defers=ds->Ev P σ fr.m w σ' fr'.m w'->Q .normal a' w')->wpListIn (dO ro) n P ops Q l a w
 |[],_,fr,fr',h,σ,a,w,hf,hd,hs,k=>by
  simp only[xX,Option.some.injEq]at h
  subst h
  exact k σ a w hf hd (Ev.refl hs)
 |o::l,hl,fr,fr',h,σ,a,w,hf,hd,hs,k=>by
  rw[kj]at h
  have hw:=hf.wanted hok o
  have hdst:=eu (hl o List.mem_cons_self)
  have hl':=fun o ho=>hl o (List.mem_cons_of_mem _ ho)
  unfold wpListIn
  rw[<-hw]
  cases hwd:bT ops fr.T o with
  |false=>
   rw[hwd]at h
   simp only[cond_false]at h
   rw[if_neg (by simp)]
   refine⟨fun _ _=>trivial,?_⟩
   refine pM hE cN hok l hl' _ _ h σ (a.put o.dst undef) w (hf.put hdst aJ.undef) ?_ hs k
   rw[<-hd];cases o.dst <;>rfl
  |true=>
   rw[hwd]at h
   simp only[cond_true]at h
   rw[if_pos rfl]
   cases ho:cS o.op E call fr.T fr.m with
   |none=>rw[ho]at h;cases h
   |some p=>
    obtain⟨v,m1⟩:=p
    rw[ho]at h
    simp only at h
    refine⟨fun _ _=>trivial,?_⟩
    have hres:=oA hE cN hs ho (a:=a) (fun x hx=>hf.Aj hs (fF (hl o List.mem_cons_self) x hx))
    rw[Oper.semAt_eq _ _ _ (fun c hc=>by rw[hc]at ho;simp[cS]at ho)]
    refine hres.2 ro n o a _ Q fun σ' w' v' hv he=>?_
    refine pM hE cN hok l hl' _ _ h σ' (a.put o.dst v') w' ((hf.mono he.ext).put hdst hv) ?_ he.nW fun σ2 a2 w2 hf2 hd2 he2=>k σ2 a2 w2 hf2 hd2 (he.trans he2)
    rw[<-hd];cases o.dst <;>rfl
end
end Go.D
namespace Go.D
open Go
inductive Reach (ops:Array Oper):Nat->Nat->Prop where
 |one {j:Nat} {o:Oper} {e:Edge} (ho:ops[j]?=some o) (he:e∈o.after) (hb:Region.binds .any e=true):Reach ops e.on j
 |step {i j:Nat} {o:Oper} {e:Edge} (ho:ops[j]?=some o) (he:e∈o.after) (hb:Region.binds .any e=true) (h:Reach ops i e.on):Reach ops i j
theorem og{acc:Array Nat}{i:Nat}:∀(l:List Edge) (s:Nat),(l.foldl (fun s e=>if Region.binds .any e then s |||2 ^ e.on |||acc.getD e.on 0 else s) s).testBit i=true->
  s.testBit i=true\/∃e∈l,Region.binds .any e=true/\(i=e.on\/(acc.getD e.on 0).testBit i=true)
 |[],s,h=> .inl h
 |e::l,s,h=>by
  rw[List.foldl_cons]at h
  rcases og l _ h with h1 |⟨e',h1,h2,h3⟩
  ·by_cases hb:Region.binds .any e=true
   ·rw[if_pos hb]at h1
    simp only[Nat.testBit_or,Bool.or_eq_true]at h1
    rcases h1 with(h1 |h1) |h1
    ·exact .inl h1
    ·rw[Nat.testBit_two_pow]at h1
     exact .inr ⟨e,List.mem_cons_self,hb,.inl (by simpa using(of_decide_eq_true h1).symm)⟩
    ·exact .inr ⟨e,List.mem_cons_self,hb,.inr h1⟩
   ·rw[if_neg hb]at h1
    exact .inl h1
  ·exact .inr ⟨e',List.mem_cons_of_mem _ h1,h2,h3⟩
theorem qw(ops:Array Oper):∀(l pre:List Oper) (acc:Array Nat),ops.toList=pre++l->acc.size=pre.length->(∀i j,(acc.getD j 0).testBit i=true->Reach ops i j)->
  ∀i j,((l.foldl (fun acc o=>acc.push (o.after.foldl (fun s e=>if Region.binds .any e then s |||2 ^ e.on |||acc.getD e.on 0 else s) 0)) acc).getD j 0).testBit i=true->Reach ops i j
 |[],pre,acc,_,_,h,i,j,hh=>h i j hh
 |o::l,pre,acc,hp,hs,h,i,j,hh=>by
  rw[List.foldl_cons]at hh
  refine qw ops l (pre++ [o]) _ (by simp[hp]) (by simp[hs]) ?_ i j hh
  intro i j hij
  have ho:ops[pre.length]?=some o:=by
   rw[<-Array.getElem?_toList,hp,List.getElem?_append_right (Nat.le_refl _)]
   simp
  rcases Nat.lt_trichotomy j acc.size with hj |hj |hj
  ·refine h i j ?_
   rw[Array.getD_eq_getD_getElem?,Array.getElem?_push_lt hj]at hij
   rw[Array.getD_eq_getD_getElem?]
   simpa[hj]using hij
  ·subst hj
   rw[Array.getD_eq_getD_getElem?,Array.getElem?_push_size]at hij
   simp only[Option.getD_some]at hij
   rw[<-Array.foldl_toList]at hij
   rcases og o.after.toList 0 hij with h1 |⟨e,h1,h2,h3⟩
   ·simp at h1
   ·rw[hs]
    rcases h3 with rfl |h3
    ·exact .one ho (by simpa using h1) h2
    ·exact .step ho (by simpa using h1) h2 (h _ _ h3)
  ·rw[Array.getD_eq_getD_getElem?,Array.getElem?_eq_none (by simp;omega)]at hij
   simp at hij
theorem gh{ops:Array Oper}{i j:Nat}(h:((Region.before ops).getD j 0).testBit i=true):Reach ops i j:=by
 unfold Region.before at h
 rw[<-Array.foldl_toList]at h
 exact qw ops ops.toList [] #[] (by simp) rfl (by intro i j h;simp at h) i j h
def wG(ops:Array Oper)(L:Nat->Prop):Prop:=∀j o,ops[j]?=some o->L j->∀e∈o.after,Region.binds .any e=true->L e.on
theorem Reach.listed{ops:Array Oper}{L:Nat->Prop}(hc:wG ops L){i j:Nat}(h:Reach ops i j):(∀o,ops[j]?=some o->∀e∈o.after,Region.binds .any e=true->L e.on)->L i:=by
 induction h with
 |one ho he hb=>exact fun h=>h _ ho _ he hb
 |step ho he hb _ ih=>exact fun h=>ih fun o' ho' e' he' hb'=>hc _ o' ho' (h _ ho _ he hb) e' he' hb'
theorem Reach.gH{ops:Array Oper}{L:Nat->Prop}(hc:wG ops L){i j:Nat}(h:Reach ops i j)(hj:L j):L i:=h.listed hc fun o ho e he hb=>hc j o ho hj e he hb
theorem Reach.lt{ops:Array Oper}(hl:∀j o,ops[j]?=some o->∀e∈o.after,Region.binds .any e=true->e.on < j){i j:Nat}(h:Reach ops i j):i < j:=by
 induction h with
 |one ho he hb=>exact hl _ _ ho _ he hb
 |step ho he hb _ ih=>exact Nat.lt_trans ih (hl _ _ ho _ he hb)
structure Ck(ops:Array Oper):Prop where
 lt:∀j o,ops[j]?=some o->∀e∈o.after,Region.binds .any e=true->e.on < j
 apart:∀i j o' o,ops[i]?=some o'->ops[j]?=some o->i < j->Reach ops i j\/((∀d,o.dst=some d->d∉gT ops o')/\∀d,o'.dst=some d->d∉gT ops o)
theorem vg{ops:Array Oper}(h:rV ops=true):Ck ops:=by
 unfold rV at h
 have key:∀j o,ops[j]?=some o->_:=fun j o ho=>List.all_eq_true.1 h (o,j) (by rw[List.mem_zipIdx_iff_getElem?];simpa using ho)
 simp only[Bool.and_eq_true]at key
 refine⟨fun j o ho e he hb=>?_,fun i j o' o hi hj hij=>?_⟩
 ·have:=List.all_eq_true.1 (key j o ho).1 e (by simpa using he)
  rw[hb]at this
  simp only[Bool.not_true,Bool.false_or]at this
  rw[dX]at this
  simpa using this
 ·have:=List.all_eq_true.1 (key j o hj).2 (o',i) (by rw[List.mem_zipIdx_iff_getElem?];simpa using hi)
  dsimp only at this
  rw[dX]at this
  simp only[hij,decide_true,Bool.not_true,Bool.false_or,Bool.or_eq_true,Bool.and_eq_true]at this
  rcases this with h1 |⟨h1,h2⟩
  ·exact .inl (gh h1)
  ·refine .inr ⟨fun d hd=>?_,fun d hd=>?_⟩
   ·rw[hd]at h1;simpa using h1
   ·rw[hd]at h2;simpa using h2
theorem kd{ops:Array Oper}{j:Nat}(h:dM ops j=true):∀i o,ops[i]?=some o->i=j\/er o.op=true\/Reach ops i j\/Reach ops j i:=by
 intro i o ho
 unfold dM at h
 have:=List.all_eq_true.1 h (o,i) (by rw[List.mem_zipIdx_iff_getElem?];simpa using ho)
 simp only[Bool.or_eq_true,beq_iff_eq]at this
 rcases this with((h1 |h1) |h1) |h1
 ·exact .inl h1
 ·exact .inr (.inl h1)
 ·exact .inr (.inr (.inl (gh h1)))
 ·exact .inr (.inr (.inr (gh h1)))
section
variable {E:Env} {P:Program} {σ:Sg} {m m':M} {w:World}
theorem xO{op:Op}{call:aF}{T:Tr Value}{v:Value}(hp:er op=true)(h:cS op E call T m=some (v,m')):m'=m:=by
 cases op <;>simp[er]at hp <;>simp only[cS]at h
 case move=>cases h;rfl
 case assign=>cases h;rfl
 case pick=>unfold nz at h;split at h <;>cases h;rfl
 case build=>unfold oD at h;split at h <;>cases h;rfl
 case nilCheck=>unfold fE at h;split at h <;>cases h <;>rfl
 case binOp=>unfold xY at h;split at h <;>cases h;rfl
 case unOp=>unfold Gr at h;split at h <;>cases h;rfl
 case makeFunc=>unfold gG at h;split at h <;>cases h;rfl
 case fieldAddr=>unfold ic at h;split at h <;>cases h;rfl
 case field=>unfold oC at h;split at h <;>cases h;rfl
 case indexAddr=>unfold ib at h;split at h <;>cases h;rfl
 case index=>unfold oB at h;split at h <;>cases h;rfl
 case extract=>
  unfold ja at h
  split at h
  ·split at h <;>cases h;rfl
  ·cases h
theorem Ad(hE:E.OK P){call:aF}{T:Tr Value}{a:Act}{o:Oper}{v:Value}(hp:er o.op=true)(h:cS o.op E call T m=some (v,m'))
  (hT:∀x∈o.op.operands.toList,aJ σ (ev T x) (a.eval x)):∃v',(execOp a.eval o).run P w=.ok (.value v') w/\aJ σ v v':=by
 have val:∀{s:Sem Value} {v':Value},s.run P w=.ok v' w->(do let x<-s;pure (Next.value x):Sem Next).run P w=.ok (.value v') w:=by
  intro s v' hs
  rw[Sem.run_bind,hs];rfl
 unfold execOp
 cases ho:o.op with
 |move x=>
  rw[ho]at h hT
  cases h
  exact⟨_,rfl,hT x (by simp[Op.operands])⟩
 |assign x=>
  rw[ho]at h hT
  cases h
  exact⟨_,rfl,hT x (by simp[Op.operands])⟩
 |pick c x y=>
  rw[ho]at h hT
  dsimp only
  simp only[cS,nz]at h
  split at h
  ·rename_i t hc
   simp only[Option.some.injEq,Prod.mk.injEq]at h
   obtain⟨rfl,rfl⟩:=h
   have h1:=hT c (by simp[Op.operands])
   rw[hc]at h1
   rw[h1.bool]
   refine⟨_,rfl,?_⟩
   cases t
   ·exact hT y (by simp[Op.operands])
   ·exact hT x (by simp[Op.operands])
  ·cases h
 |build t ps=>
  rw[ho]at h hT
  dsimp only
  simp only[cS,oD]at h
  split at h
  ·rename_i z hz
   cases h
   obtain⟨v',h1,h2⟩:=qu (w:=w) hE (T:=ev T) (A:=a.eval) (fun p hp=>hT p.2 (by simp only[Op.operands];exact List.mem_map_of_mem hp)) hz
   exact⟨_,val h1,h2⟩
  ·cases h
 |nilCheck x=>
  rw[ho]at h hT
  dsimp only
  have h1:=hT x (by simp[Op.operands])
  simp only[cS,fE]at h
  split at h
  ·rename_i ad hx
   cases h
   rw[hx]at h1
   have h2:=h1
   obtain⟨i,hi,_,he⟩:=h1.dV
   rw[he]at h2⊢
   exact⟨_,rfl,h2⟩
  ·rename_i g a1 b1 hx
   cases h
   rw[hx]at h1
   have h2:=h1
   obtain⟨a',b',he,_⟩:=h1.sC
   rw[he]at h2⊢
   exact⟨_,rfl,h2⟩
  ·cases h
 |binOp op t x y yt=>
  rw[ho]at h hT
  dsimp only
  simp only[cS,xY]at h
  split at h
  ·rename_i z hz
   cases h
   obtain⟨q1,q2⟩:=uD (w:=w) hE hz (hT x (by simp[Op.operands])) (hT y (by simp[Op.operands])) x y
   exact⟨_,val q1,.flat _ q2⟩
  ·cases h
 |unOp op t x=>
  rw[ho]at h hT
  dsimp only
  simp only[cS,Gr]at h
  split at h
  ·rename_i z hz
   cases h
   obtain⟨q1,q2⟩:=wR (P:=P) (w:=w) hz (hT x (by simp[Op.operands]))
   exact⟨_,val q1,.flat _ q2⟩
  ·cases h
 |makeFunc f x y=>
  rw[ho]at h hT
  dsimp only
  simp only[cS,gG]at h
  split at h
  ·rename_i g
   cases h
   have e1:aU σ (x.toList.map (ev T)) (x.toList.map a.eval):=jg _ (fun o hx=>hT o (by simp[Op.operands];exact .inl (by simpa using hx)))
   have e2:aU σ (y.toList.map (ev T)) (y.toList.map a.eval):=jg _ (fun o hx=>hT o (by simp[Op.operands];exact .inr (by simpa using hx)))
   refine⟨_,rfl,?_⟩
   refine .func g _ _ _ _ (by simp) (by simp) (fun j u u' p q=>e1.2 j u u' (by simpa using p) (by simpa using q)) (fun j u u' p q=>e2.2 j u u' (by simpa using p) (by simpa using q))
  ·cases h
 |fieldAddr s x f=>
  rw[ho]at h hT
  dsimp only
  simp only[cS,ic]at h
  split at h
  ·rename_i z hz
   cases h
   obtain⟨v',q1,q2⟩:=lq (w:=w) hE hz (hT x (by simp[Op.operands]))
   exact⟨_,val q1,q2⟩
  ·cases h
 |field t x f=>
  rw[ho]at h hT
  dsimp only
  simp only[cS,oC]at h
  split at h
  ·rename_i z hz
   cases h
   obtain⟨v',q1,q2⟩:=qo (w:=w) hE hz (hT x (by simp[Op.operands]))
   exact⟨_,val q1,q2⟩
  ·cases h
 |indexAddr t x y=>
  rw[ho]at h hT
  dsimp only
  simp only[cS,ib]at h
  split at h
  ·rename_i z hz
   cases h
   obtain⟨v',q1,q2⟩:=ll (w:=w) hE hz (hT x (by simp[Op.operands])) (hT y (by simp[Op.operands]))
   exact⟨_,val q1,q2⟩
  ·cases h
 |index t x y=>
  rw[ho]at h hT
  dsimp only
  simp only[cS,oB]at h
  split at h
  ·rename_i z hz
   cases h
   obtain⟨v',q1,q2⟩:=ql (w:=w) hE hz (hT x (by simp[Op.operands])) (hT y (by simp[Op.operands]))
   exact⟨_,val q1,q2⟩
  ·cases h
 |extract x i=>
  rw[ho]at h hT
  dsimp only
  simp only[cS,ja]at h
  split at h
  ·rename_i vs hx
   split at h
   ·rename_i z hz
    cases h
    have h1:=hT x (by simp[Op.operands])
    rw[hx]at h1
    obtain⟨vs',he,hl⟩:=h1.py
    obtain⟨u',hu,hr⟩:=hl.get hz
    refine⟨u',val ?_,hr⟩
    rw[he]
    have:vs'[i]?=some u':=by simpa using hu
    simp[Instr.extract,this]
   ·cases h
  ·cases h
 |_=>rw[ho]at hp;simp[er]at hp
def DStep(E:Env)(call:aF)(ops:Array Oper)(fr:Fr)(o:Oper)(j:Nat)(fr':Fr):Prop:=
 (bT ops fr.T o=false/\fr'={fr with T:=put fr.T o.dst undef})\/
 (bT ops fr.T o=true/\∃v m,cS o.op E call fr.T {fr.m with low:=fr.m.n}=some (v,m)/\(fr.m.n<=m.low\/dM ops j=true\/rG ops j fr.m fr.T o.op=true)/\
  fr'={T:=put fr.T o.dst v,m:={m with low:=min fr.m.low m.low}})
theorem sI{call:aF}{ops:Array Oper}:∀(l:List Oper) (j:Nat) (fr fr':Fr),eZ E call ops l j fr=some fr'->
  ∃tr:Nat->Fr,tr j=fr/\tr (j+l.length)=fr'/\∀i o,l[i]?=some o->DStep E call ops (tr (j+i)) o (j+i) (tr (j+i+1))
 |[],j,fr,fr',h=>by
  simp only[uv,Option.some.injEq]at h
  subst h
  exact⟨fun _=>fr,rfl,rfl,fun i o h=>by simp at h⟩
 |o::l,j,fr,fr',h=>by
  have key:∀fr1,DStep E call ops fr o j fr1->eZ E call ops l (j+1) fr1=some fr'->
    ∃tr:Nat->Fr,tr j=fr/\tr (j+(o::l).length)=fr'/\∀i o',(o::l)[i]?=some o'->DStep E call ops (tr (j+i)) o' (j+i) (tr (j+i+1)):=by
   intro fr1 h1 h2
   obtain⟨tr,t1,t2,t3⟩:=sI l (j+1) fr1 fr' h2
   refine⟨fun k=>if k=j then fr else tr k,by simp,?_,?_⟩
   ·simp only[List.length_cons]
    rw[if_neg (by omega),<-t2]
    congr 1;omega
   ·intro i o' hi
    cases i with
    |zero=>
     simp only[List.getElem?_cons_zero,Option.some.injEq]at hi
     subst hi
     simp only[Nat.add_zero,if_true]
     rw[if_neg (by omega),t1]
     exact h1
    |succ i=>
     have:=t3 i o' (by simpa using hi)
     simp only
     rw[if_neg (by omega),if_neg (by omega)]
     have e:j+1+i=j+(i+1):=by omega
     rw[e]at this
     exact this
  rw[eY]at h
  cases hw:bT ops fr.T o with
  |false=>
   rw[hw]at h
   exact key _ (.inl ⟨hw,rfl⟩) h
  |true=>
   rw[hw]at h
   simp only[cond_true]at h
   cases ho:cS o.op E call fr.T {fr.m with low:=fr.m.n}with
   |none=>rw[ho]at h;cases h
   |some p=>
    obtain⟨v,m⟩:=p
    rw[ho]at h
    simp only at h
    cases hb:(Nat.ble fr.m.n m.low ||(dM ops j ||rG ops j fr.m fr.T o.op))with
    |false=>rw[hb]at h;simp at h
    |true=>
     rw[hb]at h
     simp only[cond_true]at h
     refine key _ (.inr ⟨hw,v,m,ho,?_,rfl⟩) h
     simp only[Bool.or_eq_true]at hb
     exact hb.imp Nat.le_of_ble_eq_true id
end
end Go.D
namespace Go.D
open Go
def Sg.cut(σ:Sg)(n:Nat):Sg:=fun b=>if b < n then σ b else none
theorem Sg.cq{σ:Sg}{n b:Nat}{i:BI}:(σ.cut n) b=some i↔b < n/\σ b=some i:=by
 unfold Sg.cut
 by_cases h:b < n <;>simp[h]
theorem Sg.vY{σ τ:Sg}{n k:Nat}(h:σ.le τ)(hn:n<=k):(σ.cut n).le (τ.cut k):=by
 intro b i hb
 rw[Sg.cq]at hb⊢
 exact⟨by omega,h b i hb.2⟩
noncomputable def M.kill(m:M)(l:List Nat):M:={m with st:=l.foldl (fun t b=>t.set b .dead) m.st}
theorem BR:∀(l:List Nat) (t:Tr Ob) (b:Nat),((l.foldl (fun t b=>t.set b Ob.dead) t).get b).getD .dead=if b∈l then .dead else(t.get b).getD .dead
 |[],t,b=>by simp
 |x::l,t,b=>by
  rw[List.foldl_cons,BR l,Tr.bL]
  by_cases h1:b∈l
  ·simp[h1]
  ·by_cases h2:b=x
   ·subst h2;simp
   ·simp[h1,h2]
theorem M.eU(m:M)(l:List Nat)(b:Nat):(m.kill l).get b=if b∈l then .dead else m.get b:=by
 rw[M.dW,M.dW]
 show(if b < m.n then((l.foldl (fun t b=>t.set b Ob.dead) m.st).get b).getD .dead else .dead)=_
 rw[BR]
 by_cases h1:b < m.n <;>by_cases h2:b∈l <;>simp[h1,h2]
theorem M.sv(m:M):m.kill []=m:=rfl
theorem uP{E:Env}{call:aF}{T:Tr Value}{m0 m m1:M}{c:Call}{b:Nat}{v:Value}(hst:eJ m0 T (.call c)=some b)(h:cS (.call c) E call T m=some (v,m1)):
  ∃f x a,c.callee=.value f/\c.args.toList=[x]/\ev T f=.func (.func tI) #[] #[]/\ev T x=.pointer (some a)/\ma m0 a=some b/\call (.func tI) [.pointer (some a)] m=some (v,m1):=by
 unfold eJ at hst
 dsimp only at hst
 split at hst
 ·rename_i f x hf hx
  split at hst
  ·rename_i g first captured a hg hax
   rw[cond_eq_ite]at hst
   split at hst
   ·rename_i hc
    simp only[Bool.and_eq_true]at hc
    obtain⟨⟨h1,h2⟩,h3⟩:=hc
    obtain rfl:=Nat.eq_of_beq_eq_true h1
    have e2:first= #[]:=by simpa using h2
    have e3:captured= #[]:=by simpa using h3
    subst e2
    subst e3
    refine⟨f,x,a,hf,hx,hg,hax,hst,?_⟩
    simp only[cS,kJ,hf,hg,hx,List.map_cons,List.map_nil,hax]at h
    simpa using h
   ·cases hst
  ·cases hst
 ·cases hst
theorem CY{E:Env}{P:Program}{call:aF}(cN:cQ P call){T:Tr Value}{m0 m m1:M}{o:Op}{b:Nat}{v:Value}(hm0:∀a,ma m0 a=ma m a)(hst:eJ m0 T o=some b)(h:cS o E call T m=some (v,m1))(hb:b < m.n):m1.n=m.n/\∀c,c≠b->m1.get c=m.get c:=by
 cases o with
 |store t a x=>
  unfold eJ at hst
  dsimp only at hst
  split at hst
  ·rename_i ad hev
   cases hst
   simp only[cS,kI,hev]at h
   split at h
   ·rename_i m2 hsv
    cases h
    unfold storeVar at hsv
    split at hsv
    ·cases hq:Nat.beq (cells (ev T x)).length _ with
     |false=>rw[hq]at hsv;cases hsv
     |true=>
      rw[hq]at hsv
      simp only[cond_true]at hsv
      unfold storeCells at hsv
      split at hsv
      ·cases hq2:(ad.spot.isNone && Nat.ble (ad.off+(cells (ev T x)).length) _ && (cells (ev T x)).all one)with
       |false=>rw[hq2]at hsv;cases hsv
       |true=>
        rw[hq2]at hsv
        cases hsv
        exact⟨rfl,fun c hc=>by rw[M.bL _ _ _ _ hb,if_neg hc]⟩
      ·cases hsv
    ·cases hsv
   ·cases h
  ·cases hst
 |call c=>
  obtain⟨f,x,a,_,_,_,_,hbuf,hcl⟩:=uP hst h
  rw[hm0]at hbuf
  obtain⟨_,rfl,_⟩:=cN.EF a m v m1 b hcl hbuf
  exact⟨rfl,fun c hc=>by rw[M.bL _ _ _ _ hb,if_neg hc]⟩
 |_=>cases hst
section
variable {E:Env} {P:Program} {call:aF} {ops:Array Oper} {nt:Nat} {tr:Nat->Fr}
structure Ctx(E:Env)(P:Program)(call:aF)(ops:Array Oper)(nt:Nat)(tr:Nat->Fr):Prop where
 hE:E.OK P
 cN:cQ P call
 ord:Ck ops
 ok:∀o∈ops.toList,fG nt P.globals.size o=true
 step:∀j o,ops[j]?=some o->DStep E call ops (tr j) o j (tr (j+1))
 ghost:∀j,j<=ops.size->∃σ a w,dN P σ (tr j).m w/\dp σ (tr j).T a nt
theorem dN.low{σ:Sg}{m:M}{w:World}(h:dN P σ m w)(x:Nat):dN P σ {m with low:=x} w:=⟨h.mI,h.obj,h.lt,h.inj,h.iy⟩
theorem uj(hE:E.OK P)(cN:cQ P call)(hok:∀o∈ops.toList,fG nt P.globals.size o=true)
  (hstep:∀j o,ops[j]?=some o->DStep E call ops (tr j) o j (tr (j+1))) {σ:Sg} {a:Act} {w:World} (hs:dN P σ (tr 0).m w) (hf:dp σ (tr 0).T a nt):
  ∀j,j<=ops.size->∃σ a w,dN P σ (tr j).m w/\dp σ (tr j).T a nt
 |0,_=>⟨σ,a,w,hs,hf⟩
 |j+1,hj=>by
  obtain⟨σ1,a1,w1,h1,h2⟩:=uj hE cN hok hstep hs hf j (by omega)
  have ho:ops[j]?=some ops[j]:=by simp[show j < ops.size by omega]
  have hokj:=hok ops[j] (by simp)
  rcases hstep j _ ho with⟨_,h⟩ |⟨_,v,m,hop,_,h⟩
  ·rw[h]
   exact⟨σ1,a1.put ops[j].dst undef,w1,h1,h2.put (eu hokj) aJ.undef⟩
  ·rw[h]
   obtain⟨σ',w',v',hv,he⟩:=(oA hE cN (h1.low (tr j).m.n) hop (a:=a1) (fun x hx=>h2.Aj h1 (fF hokj x hx))).1
   exact⟨σ',a1.put ops[j].dst v',w',he.nW.low _,(h2.mono he.ext).put (eu hokj) hv⟩
def Wr(E:Env)(call:aF)(ops:Array Oper)(tr:Nat->Fr)(j:Nat):Prop:=
 ∃o v m,ops[j]?=some o/\bT ops (tr j).T o=true/\cS o.op E call (tr j).T {(tr j).m with low:=(tr j).m.n}=some (v,m)/\¬(tr j).m.n<=m.low
def IE(E:Env)(call:aF)(ops:Array Oper)(tr:Nat->Fr)(j:Nat):Prop:=Wr E call ops tr j/\dM ops j=true
def qY(E:Env)(call:aF)(ops:Array Oper)(tr:Nat->Fr)(j b:Nat):Prop:=
 Wr E call ops tr j/\dM ops j=false/\∃o,ops[j]?=some o/\eJ (tr j).m (tr j).T o.op=some b/\jX ops j b (tr j).T=true
theorem Ctx.wr(c:Ctx E P call ops nt tr){j:Nat}(h:Wr E call ops tr j):IE E call ops tr j\/∃b,qY E call ops tr j b:=by
 cases hb:dM ops j with
 |true=>exact .inl ⟨h,hb⟩
 |false=>
  refine .inr ?_
  obtain⟨o,v,m,ho,hw,hop,hn⟩:=id h
  rcases c.step j o ho with⟨h0,_⟩ |⟨_,v',m',hop',hq,_⟩
  ·rw[hw]at h0;cases h0
  ·rw[hop]at hop'
   cases hop'
   rcases hq with hq |hq |hq
   ·exact absurd hq hn
   ·rw[hb]at hq;cases hq
   ·unfold rG at hq
    split at hq
    ·rename_i b hst
     exact⟨b,h,hb,o,ho,hst,hq⟩
    ·cases hq
theorem Wr.lt{j:Nat}(h:Wr E call ops tr j):j < ops.size:=by
 obtain⟨o,_,_,ho,_⟩:=h
 exact(Array.getElem?_eq_some_iff.1 ho).1
theorem qY.ji{j b b':Nat}(h:qY E call ops tr j b)(h':qY E call ops tr j b'):b'=b:=by
 obtain⟨_,_,o,ho,hs,_⟩:=h
 obtain⟨_,_,o',ho',hs',_⟩:=h'
 rw[ho]at ho'
 cases ho'
 rw[hs]at hs'
 cases hs'
 rfl
theorem Ctx.Lu(c:Ctx E P call ops nt tr){j b:Nat}(h:qY E call ops tr j b):b < (tr j).m.n:=by
 obtain⟨⟨o,v,m,ho,hw,hop,hn⟩,_,o',ho',hst,_⟩:=h
 rw[ho]at ho'
 cases ho'
 cases hoo:o.op with
 |store t a x=>
  rw[hoo]at hst hop
  unfold eJ at hst
  dsimp only at hst
  split at hst
  ·rename_i ad hev
   cases hst
   simp only[cS,kI,hev]at hop
   split at hop
   ·rename_i m2 hsv
    refine Classical.byContradiction fun hlt=>?_
    have hd:({(tr j).m with low:=(tr j).m.n}:M).get ad.block=.dead:=by
     rw[M.dW,if_neg hlt]
    unfold storeVar at hsv
    split at hsv
    ·cases hq:Nat.beq (cells (ev (tr j).T x)).length _ with
     |false=>rw[hq]at hsv;cases hsv
     |true=>
      rw[hq]at hsv
      simp only[cond_true]at hsv
      unfold storeCells at hsv
      rw[hd]at hsv
      cases hsv
    ·cases hsv
   ·cases hop
  ·cases hst
 |call cc=>
  rw[hoo]at hst hop
  obtain⟨f,x,a,_,_,_,_,hbuf,hcl⟩:=uP hst hop
  obtain⟨hlive,_⟩:=c.cN.EF a _ v m b hcl hbuf
  refine Classical.byContradiction fun hlt=>hlive ?_
  rw[M.dW,if_neg hlt]
 |_=>rw[hoo]at hst;cases hst
theorem Ctx.fact(c:Ctx E P call ops nt tr){j:Nat}{o:Oper}(ho:ops[j]?=some o):(tr j).m.n<=(tr (j+1)).m.n/\(tr (j+1)).m.low<=(tr j).m.low/\
  (∀b,b < (tr (j+1)).m.low->b < (tr j).m.n->(tr (j+1)).m.get b=(tr j).m.get b)/\
  (¬IE E call ops tr j->∀b,b < (tr j).m.n->¬qY E call ops tr j b->(tr (j+1)).m.get b=(tr j).m.get b):=by
 have hlt:j < ops.size:=(Array.getElem?_eq_some_iff.1 ho).1
 have hokj:=c.ok o (by simpa using Array.mem_of_getElem? ho)
 rcases c.step j o ho with⟨_,h⟩ |⟨hw,v,m,hop,hb,h⟩
 ·rw[h]
  exact⟨Nat.le_refl _,Nat.le_refl _,fun _ _ _=>rfl,fun _ _ _ _=>rfl⟩
 ·obtain⟨σ1,a1,w1,h1,h2⟩:=c.ghost j (by omega)
  obtain⟨σ',w',v',hv,he⟩:=(oA c.hE c.cN (h1.low (tr j).m.n) hop (a:=a1) (fun x hx=>h2.Aj h1 (fF hokj x hx))).1
  have hn:=he.EG
  have ha:=he.abs
  rw[h]
  refine⟨hn,Nat.min_le_left _ _,fun b hb hbn=>ha b (by simp only at hb;omega) hbn,fun hnb b hbn hnp=>?_⟩
  by_cases hwr:(tr j).m.n<=m.low
  ·exact ha b (by omega) hbn
  ·have hW:Wr E call ops tr j:=⟨o,v,m,ho,hw,hop,hwr⟩
   rcases c.wr hW with hB |⟨b',hP⟩
   ·exact absurd hB hnb
   ·have hb':=c.Lu hP
    obtain⟨_,_,o',ho',hst,_⟩:=id hP
    rw[ho]at ho'
    cases ho'
    have hfin:=(CY (m0:=(tr j).m) (m:={(tr j).m with low:=(tr j).m.n}) c.cN (fun _=>rfl) hst hop hb').2 b fun e=>hnp (e ▸ hP)
    exact hfin
theorem Ctx.mE(c:Ctx E P call ops nt tr){j:Nat}{o:Oper}(ho:ops[j]?=some o)(hp:er o.op=true):(tr (j+1)).m.n=(tr j).m.n/\¬Wr E call ops tr j:=by
 constructor
 ·rcases c.step j o ho with⟨_,h⟩ |⟨hw,v,m,hop,hb,h⟩
  ·rw[h]
  ·rw[h,xO hp hop]
 ·rintro⟨o',v,m,ho',_,hop,hn⟩
  rw[ho]at ho'
  cases ho'
  rw[xO hp hop]at hn
  exact hn (Nat.le_refl _)
theorem Ctx.Yp(c:Ctx E P call ops nt tr){j:Nat}(h:IE E call ops tr j):dM ops j=true/\j < ops.size:=⟨h.2,h.1.lt⟩
theorem uE{j:Nat}(h:j < ops.size):∃o,ops[j]?=some o:=⟨ops[j],by simp[h]⟩
theorem Ctx.mono(c:Ctx E P call ops nt tr){i:Nat}:∀k,i<=k->k<=ops.size->(tr i).m.n<=(tr k).m.n/\(tr k).m.low<=(tr i).m.low
 |0,h,_=>by
  obtain rfl:i=0:=by omega
  exact⟨Nat.le_refl _,Nat.le_refl _⟩
 |k+1,h,hk=>by
  by_cases hik:i=k+1
  ·subst hik;exact⟨Nat.le_refl _,Nat.le_refl _⟩
  ·obtain⟨h1,h2⟩:=c.mono (i:=i) k (by omega) (by omega)
   obtain⟨o,ho⟩:=uE (ops:=ops) (show k < ops.size by omega)
   obtain⟨h3,h4,_⟩:=c.fact ho
   omega
theorem Ctx.kx(c:Ctx E P call ops nt tr){i:Nat}:∀k,i<=k->k<=ops.size->(∀b,i<=b->b < k->¬IE E call ops tr b)->∀x,x < (tr i).m.n->(∀p,i<=p->p < k->¬qY E call ops tr p x)->(tr k).m.get x=(tr i).m.get x
 |0,h,_,_,x,_,_=>by
  obtain rfl:i=0:=by omega
  rfl
 |k+1,h,hk,hb,x,hx,hp=>by
  by_cases hik:i=k+1
  ·subst hik;rfl
  ·obtain⟨o,ho⟩:=uE (ops:=ops) (show k < ops.size by omega)
   have h1:=(c.mono k (show i<=k by omega) (by omega)).1
   rw[(c.fact ho).2.2.2 (hb k (show i<=k by omega) (Nat.lt_succ_self k)) x (Nat.lt_of_lt_of_le hx h1) (hp k (by omega) (Nat.lt_succ_self k))]
   exact c.kx k (by omega) (by omega) (fun b h1 h2=>hb b h1 (by omega)) x hx (fun p h1 h2=>hp p h1 (by omega))
theorem Ctx.abs(c:Ctx E P call ops nt tr):∀k,k<=ops.size->∀x,x < (tr k).m.low->x < (tr 0).m.n->(tr k).m.get x=(tr 0).m.get x
 |0,_,_,_,_=>rfl
 |k+1,hk,x,hx,hn=>by
  obtain⟨o,ho⟩:=uE (ops:=ops) (show k < ops.size by omega)
  have h1:=(c.mono (i:=0) k (by omega) (by omega)).1
  obtain⟨_,h2,h3,_⟩:=c.fact ho
  rw[h3 x hx (by omega)]
  exact c.abs k (by omega) x (by omega) hn
theorem Gc(T:Tr Value){dst:Option Tmp}{t:Tmp}(h:dst≠some t)(v:Value):gk (put T dst v) t=gk T t:=by
 cases dst with
 |none=>rfl
 |some d=>
  rw[Bc,if_neg (fun e=>h (by rw[e]))]
theorem Ctx.mK(c:Ctx E P call ops nt tr){i t:Nat}:∀k,i<=k->k<=ops.size->(∀j o,i<=j->j < k->ops[j]?=some o->o.dst≠some t)->gk (tr k).T t=gk (tr i).T t
 |0,h,_,_=>by
  obtain rfl:i=0:=by omega
  rfl
 |k+1,h,hk,hb=>by
  by_cases hik:i=k+1
  ·subst hik;rfl
  ·obtain⟨o,ho⟩:=uE (ops:=ops) (show k < ops.size by omega)
   have hne:=hb k o (by omega) (by omega) ho
   have ih:=c.mK k (by omega) (by omega) (fun j o h1 h2=>hb j o h1 (by omega))
   rw[<-ih]
   rcases c.step k o ho with⟨_,h⟩ |⟨_,v,m,_,_,h⟩
   ·rw[h];exact Gc _ hne _
   ·rw[h];exact Gc _ hne _
structure Inv(E:Env)(P:Program)(call:aF)(ops:Array Oper)(nt:Nat)(tr:Nat->Fr)(σ0:Sg)(w0:World)(ds:List Deferred)(L:Nat->Prop)(σ:Sg)(a:Act)(w:World):Prop where
 lt:∀i,L i->i < ops.size
 closed:wG ops L
 Lk:a.tmps.size=nt
 defs:a.defers=ds
 tmp:∀t,t < nt->∃k,k<=ops.size/\aJ (σ.cut (tr k).m.n) (gk (tr k).T t) (a.eval (.tmp t))/\(∀i o,L i->ops[i]?=some o->o.dst=some t->i < k)/\(k=0\/∃o,L (k-1)/\ops[k-1]?=some o/\o.dst=some t)
 win:∀k l,k<=ops.size->(∀b,IE E call ops tr b->(b < k↔L b))->(∀p b,qY E call ops tr p b->(p < k↔L p)\/b∈l)->dN P (σ.cut (tr k).m.n) ((tr k).m.kill l) w
 EF:∀p b,L p->qY E call ops tr p b->∃i,σ b=some i
 mI:∀b i,σ b=some i->b < (tr 0).m.n\/∃j,L j/\(tr j).m.n<=b/\b < (tr (j+1)).m.n
 base:σ0.le σ
 new:∀b i,σ b=some i->σ0 b=none->(tr 0).m.n<=b/\(w0.heap.size<=i.cG\/∃b0 i0,σ0 b0=some i0/\i0.cG=i.cG/\(tr ops.size).m.low<=b0)
 hle:w0.heap.size<=w.heap.size
 heap:∀B,B < w0.heap.size->(∀b i,σ0 b=some i->i.cG=B->b < (tr ops.size).m.low)->w.heap[B]?=w0.heap[B]?
 os:w.os=w0.os
 tape:w.tape=w0.tape
 output:w.output=w0.output
 iy:∀g,g < P.globals.size->g < (tr 0).m.n/\σ0 g=some ⟨g,none⟩
variable {σ0 σ:Sg} {w0 w:World} {ds:List Deferred} {L:Nat->Prop} {a:Act}
theorem Inv.names(c:Ctx E P call ops nt tr)(h:Inv E P call ops nt tr σ0 w0 ds L σ a w){j:Nat}{o:Oper}(hj:¬L j)(ho:ops[j]?=some o)(hed:∀e∈o.after,Region.binds .any e=true->L e.on)
  {t:Nat} (ht:t < nt) (hn:t∈gT ops o):aJ (σ.cut (tr j).m.n) (gk (tr j).T t) (a.eval (.tmp t)):=by
 have hjl:j < ops.size:=(Array.getElem?_eq_some_iff.1 ho).1
 obtain⟨k,hk,hv,hw,hlast⟩:=h.tmp t ht
 have hkj:k<=j:=by
  rcases hlast with rfl |⟨o',hL,ho',hd⟩
  ·omega
  ·refine Classical.byContradiction fun hc=>?_
   have hne:k-1≠j:=fun e=>hj (e ▸ hL)
   rcases c.ord.apart j (k-1) o o' ho ho' (by omega)with hr |⟨h1,_⟩
   ·exact hj (hr.gH h.closed hL)
   ·exact h1 t hd hn
 have hT:gk (tr j).T t=gk (tr k).T t:=c.mK j hkj (by omega) fun i oi h1 h2 hoi hd=>by
  rcases c.ord.apart i j oi o hoi ho h2 with hr |⟨_,h3⟩
  ·have:=hr.listed h.closed (fun o' ho'=>by rw[ho]at ho';cases ho';exact hed)
   have:=hw i oi this hoi hd
   omega
  ·exact h3 t hd hn
 rw[hT]
 exact hv.mono (Sg.vY (fun _ _ x=>x) (c.mono j hkj (by omega)).1)
theorem Inv.yD(c:Ctx E P call ops nt tr)(h:Inv E P call ops nt tr σ0 w0 ds L σ a w){j:Nat}{o:Oper}(hj:¬L j)(ho:ops[j]?=some o){v v':Value}(hT:(tr (j+1)).T=put (tr j).T o.dst v)
  {σ':Sg} (hle:σ.le σ') (hv:aJ (σ'.cut (tr (j+1)).m.n) v v'):∀t,t < nt->∃k,k<=ops.size/\aJ (σ'.cut (tr k).m.n) (gk (tr k).T t) ((a.put o.dst v').eval (.tmp t))/\
   (∀i o',(i=j\/L i)->ops[i]?=some o'->o'.dst=some t->i < k)/\(k=0\/∃o',(k-1=j\/L (k-1))/\ops[k-1]?=some o'/\o'.dst=some t):=by
 intro t ht
 have hjl:j < ops.size:=(Array.getElem?_eq_some_iff.1 ho).1
 by_cases hd:o.dst=some t
 ·refine⟨j+1,by omega,?_,?_,.inr ⟨o,.inl rfl,ho,hd⟩⟩
  ·rw[hT,hd,Bc,if_pos rfl]
   have:(a.put (some t) v').eval (.tmp t)=v':=by simp[Act.put,Act.eval,h.Lk,ht]
   rw[this];exact hv
  ·rintro i o' (rfl |hL) ho' hd'
   ·omega
   ·refine Classical.byContradiction fun hc=>?_
    rcases c.ord.apart j i o o' ho ho' (by omega)with hr |⟨h1,_⟩
    ·exact hj (hr.gH h.closed hL)
    ·exact h1 t hd' (by unfold gT;rw[hd];simp)
 ·obtain⟨k,hk,hv,hw,hlast⟩:=h.tmp t ht
  refine⟨k,hk,?_,?_,hlast.imp id (fun⟨o',x,y,z⟩=>⟨o',.inr x,y,z⟩)⟩
  ·rw[Act.eval_put (fun d hd' he=>by cases he;exact hd hd')]
   exact hv.mono (Sg.vY hle (Nat.le_refl _))
  ·rintro i o' (rfl |hL) ho' hd'
   ·rw[ho]at ho';cases ho';exact absurd hd' hd
   ·exact hw i o' hL ho' hd'
end
end Go.D
namespace Go.D
open Go
section
variable {E:Env} {P:Program} {call:aF} {ops:Array Oper} {nt:Nat} {tr:Nat->Fr} {σ0 σ:Sg} {w0 w:World} {ds:List Deferred} {L:Nat->Prop} {a:Act}
theorem put_defers(a:Act)(dst:Option Tmp)(v:Value):(a.put dst v).defers=a.defers:=by cases dst <;>rfl
theorem xN(a:Act)(dst:Option Tmp)(v:Value):(a.put dst v).tmps.size=a.tmps.size:=by cases dst <;>simp[Act.put]
theorem Inv.qt(h:Inv E P call ops nt tr σ0 w0 ds L σ a w){j:Nat}{o:Oper}(ho:ops[j]?=some o)(hed:∀e∈o.after,Region.binds .any e=true->L e.on):wG ops (fun i=>i=j\/L i):=by
 rintro i o' ho' (rfl |hL) e he hb
 ·rw[ho]at ho';cases ho'
  exact .inr (hed e he hb)
 ·exact .inr (h.closed i o' ho' hL e he hb)
theorem Inv.same(c:Ctx E P call ops nt tr)(h:Inv E P call ops nt tr σ0 w0 ds L σ a w){j:Nat}{o:Oper}(hj:¬L j)(ho:ops[j]?=some o)(hed:∀e∈o.after,Region.binds .any e=true->L e.on)
  {v v':Value} (hT:(tr (j+1)).T=put (tr j).T o.dst v) (hb:¬Wr E call ops tr j) (hv:aJ (σ.cut (tr (j+1)).m.n) v v'):
  Inv E P call ops nt tr σ0 w0 ds (fun i=>i=j\/L i) σ (a.put o.dst v') w where
 lt:=by
  rintro i (rfl |hL)
  ·exact(Array.getElem?_eq_some_iff.1 ho).1
  ·exact h.lt i hL
 closed:=h.qt ho hed
 Lk:=by rw[xN];exact h.Lk
 defs:=by rw[put_defers];exact h.defs
 tmp:=h.yD c hj ho hT (fun _ _ x=>x) hv
 win:=fun k l hk hw hp=>h.win k l hk (fun b hb'=>(hw b hb').trans ⟨fun x=>x.resolve_left (fun e=>hb (e ▸ hb'.1)),.inr⟩)
  (fun p b hp'=>(hp p b hp').imp (fun x=>x.trans ⟨fun x=>x.resolve_left (fun e=>hb (e ▸ hp'.1)),.inr⟩) id)
 EF:=by
  rintro p b (rfl |hL) hp
  ·exact absurd hp.1 hb
  ·exact h.EF p b hL hp
 mI:=fun b i hb=>(h.mI b i hb).imp id fun⟨q,x,y⟩=>⟨q,.inr x,y⟩
 base:=h.base
 new:=h.new
 hle:=h.hle
 heap:=h.heap
 os:=h.os
 tape:=h.tape
 output:=h.output
 iy:=h.iy
theorem Inv.EL(c:Ctx E P call ops nt tr)(h:Inv E P call ops nt tr σ0 w0 ds L σ a w){j:Nat}{o:Oper}(hj:¬L j)(ho:ops[j]?=some o)(hed:∀e∈o.after,Region.binds .any e=true->L e.on)
  (hp:er o.op=false):∀b,IE E call ops tr b->(b < j↔L b):=by
 intro b hb
 have hbb:=(c.Yp hb).1
 rcases kd hbb j o ho with rfl |h1 |h1 |h1
 ·exact⟨fun x=>absurd x (Nat.lt_irrefl _),fun x=>absurd x hj⟩
 ·rw[hp]at h1;cases h1
 ·have:=h1.lt c.ord.lt
  exact⟨fun x=>by omega,fun x=>absurd (h1.gH h.closed x) hj⟩
 ·exact⟨fun _=>h1.listed h.closed (fun o' ho'=>by rw[ho]at ho';cases ho';exact hed),fun _=>h1.lt c.ord.lt⟩
theorem pI{ops:Array Oper}{p b i:Nat}{T:Tr Value}{o:Oper}(h:jX ops p b T=true)(ho:ops[i]?=some o)(hp:er o.op=false):
  i=p\/Reach ops i p\/Reach ops p i\/(i < p/\((∃t,o.op=.alloc t)\/(∃t x,o.op=.box t x)\/(∃t s,o.op=.load t (.tmp s)/\(∀k q,i<=k->k < p->ops[k]?=some q->q.dst≠some s)/\
   (∀g w d,o.guard=some (g,w)->(ops[g]?).bind (·.dst)=some d->∀k q,i<=k->k < p->ops[k]?=some q->q.dst≠some d)/\(bT ops T o=false\/∃ad,gk T s=.pointer (some ad)/\ad.block≠b))\/
   kM o.op=true\/∃s,lenOf o.op=some s/\(∀k q,i<=k->k < p->ops[k]?=some q->q.dst≠some s)/\∀r,gk T s≠.map r)):=by
 unfold jX at h
 have h:=List.all_eq_true.1 h (o,i) (by rw[List.mem_zipIdx_iff_getElem?];simpa using ho)
 have same:∀t,(ops.toList.zipIdx.all fun(q,k)=> !(Nat.ble i k && Nat.blt k p && q.dst==some t))=true->∀k q,i<=k->k < p->ops[k]?=some q->q.dst≠some t:=by
  intro t hs k q h1 h2 hq e
  have hs:=List.all_eq_true.1 hs (q,k) (by rw[List.mem_zipIdx_iff_getElem?];simpa using hq)
  dsimp only at hs
  rw[dX]at hs
  simp[Nat.ble_eq_true_of_le h1,h2,e]at hs
 dsimp only at h
 simp only[Bool.or_eq_true,beq_iff_eq,Bool.and_eq_true,hp]at h
 rcases h with(((h |h) |h) |h) |⟨h1,h2⟩
 ·exact .inl h
 ·cases h
 ·exact .inr (.inl (gh h))
 ·exact .inr (.inr (.inl (gh h)))
 ·rw[dX]at h1
  refine .inr (.inr (.inr ⟨by simpa using h1,?_⟩))
  split at h2
  ·exact .inl ⟨_,by assumption⟩
  ·exact .inr (.inl ⟨_,_,by assumption⟩)
  ·rename_i t s hop
   simp only[Bool.and_eq_true,Bool.or_eq_true,Bool.not_eq_true']at h2
   obtain⟨⟨h3,h4⟩,h5⟩:=h2
   refine .inr (.inr (.inl ⟨t,s,hop,same s h3,?_,?_⟩))
   ·intro g w d hg hd
    rw[hg]at h4
    simp only[Array.getElem?_toList,hd]at h4
    exact same d h4
   ·rcases h5 with h5 |h5
    ·exact .inl h5
    ·split at h5
     ·rename_i ad had
      exact .inr ⟨ad,had,by simpa using h5⟩
     ·cases h5
  ·rcases Bool.or_eq_true _ _ |>.mp h2 with h2 |h2
   ·exact .inr (.inr (.inr (.inl h2)))
   ·split at h2
    ·rename_i t ht
     obtain⟨h3,h4⟩:=Bool.and_eq_true _ _ |>.mp h2
     refine .inr (.inr (.inr (.inr ⟨t,ht,same t h3,fun r hr=>?_⟩)))
     rw[hr]at h4
     cases h4
    ·cases h2
theorem qY.ok{p b:Nat}(h:qY E call ops tr p b):jX ops p b (tr p).T=true:=by
 obtain⟨_,_,_,_,_,hk⟩:=h
 exact hk
theorem Wr.op{j:Nat}(c:Ctx E P call ops nt tr)(h:Wr E call ops tr j):∃o,ops[j]?=some o/\er o.op=false:=by
 obtain⟨o,v,m,ho,hw,hop,hn⟩:=id h
 refine⟨o,ho,?_⟩
 cases hp:er o.op with
 |false=>rfl
 |true=>exact absurd h (c.mE ho hp).2
theorem Inv.IJ(c:Ctx E P call ops nt tr)(h:Inv E P call ops nt tr σ0 w0 ds L σ a w){j:Nat}{o:Oper}(hj:¬L j)(ho:ops[j]?=some o)(hed:∀e∈o.after,Region.binds .any e=true->L e.on)
  (hp:er o.op=false):∃l:List Nat,(∀p b,qY E call ops tr p b->(p < j↔L p)\/b∈l)/\∀b∈l,∃p,L p/\qY E call ops tr p b/\j < p/\jX ops p b (tr p).T=true/\¬Reach ops j p/\¬Reach ops p j:=by
 have key:∀n,∃l:List Nat,(∀p b,p < n->qY E call ops tr p b->(p < j↔L p)\/b∈l)/\∀b∈l,∃p,L p/\qY E call ops tr p b/\j < p/\jX ops p b (tr p).T=true/\¬Reach ops j p/\¬Reach ops p j:=by
  intro n
  induction n with
  |zero=>exact⟨[],fun p b hpn=>by omega,fun b hb=>by cases hb⟩
  |succ n ih=>
   obtain⟨l,h1,h2⟩:=ih
   by_cases hx:∃b,qY E call ops tr n b/\¬(n < j↔L n)
   ·obtain⟨b,hb,hne⟩:=hx
    refine⟨b::l,fun p b' hpn hb'=>?_,fun b' hb'=>?_⟩
    ·by_cases hpn':p=n
     ·subst hpn'
      rw[hb.ji hb']
      exact .inr List.mem_cons_self
     ·exact(h1 p b' (by omega) hb').imp id (List.mem_cons_of_mem _)
    ·rcases List.mem_cons.1 hb' with rfl |hb'
     ·have hok:jX ops n b' (tr n).T=true:=by obtain⟨_,_,_,_,_,hk⟩:=id hb;exact hk
      rcases pI hok ho hp with rfl |hr |hr |⟨hlt,_⟩
      ·exact absurd ⟨fun x=>absurd x (Nat.lt_irrefl _),fun x=>absurd x hj⟩ hne
      ·exfalso
       have:=hr.lt c.ord.lt
       exact hne ⟨fun x=>by omega,fun x=>absurd (hr.gH h.closed x) hj⟩
      ·exfalso
       have:=hr.lt c.ord.lt
       exact hne ⟨fun _=>hr.listed h.closed (fun o' ho'=>by rw[ho]at ho';cases ho';exact hed),fun _=>this⟩
      ·have hL:L n:=Classical.byContradiction fun hc=>hne ⟨fun x=>by omega,fun x=>absurd x hc⟩
       refine⟨n,hL,hb,hlt,hok,fun hr=>hj (hr.gH h.closed hL),fun hr=>?_⟩
       have:=hr.lt c.ord.lt
       omega
     ·exact h2 b' hb'
   ·refine⟨l,fun p b' hpn hb'=>?_,h2⟩
    by_cases hpn':p=n
    ·subst hpn'
     exact .inl (Classical.byContradiction fun hc=>hx ⟨b',hb',hc⟩)
    ·exact h1 p b' (by omega) hb'
 obtain⟨l,h1,h2⟩:=key ops.size
 exact⟨l,fun p b hb=>h1 p b hb.1.lt hb,h2⟩
theorem Inv.effect(c:Ctx E P call ops nt tr)(h:Inv E P call ops nt tr σ0 w0 ds L σ a w){j:Nat}{o:Oper}(hj:¬L j)(ho:ops[j]?=some o)(hed:∀e∈o.after,Region.binds .any e=true->L e.on)
  (hp:er o.op=false) {v v':Value} {m mk:M} {lk:List Nat} {τ:Sg} {w':World} (hkn:mk.n=m.n) (hkl:mk.low=m.low) (hkg:∀b,b∉lk\/(tr j).m.n<=b->mk.get b=m.get b)
  (hlk:∀p b,qY E call ops tr p b->(p < j↔L p)\/b∈lk)
  (hev:Ev P (σ.cut (tr j).m.n) {(tr j).m.kill lk with low:=(tr j).m.n} w τ mk w') (hv:aJ τ v v')
  (hfr:tr (j+1)={T:=put (tr j).T o.dst v,m:={m with low:=min (tr j).m.low m.low}}) (hq:((tr j).m.n<=m.low/\¬Wr E call ops tr j)\/(Wr E call ops tr j/\lk=[]))
  (hoth:∀b,qY E call ops tr j b->(tr j).m.get b≠.dead/\∃i,σ b=some i/\∀B,B≠i.cG->w'.heap[B]?=w.heap[B]?):
  ∃σ',Inv E P call ops nt tr σ0 w0 ds (fun i=>i=j\/L i) σ' (a.put o.dst v') w':=by
 have hjl:j < ops.size:=(Array.getElem?_eq_some_iff.1 ho).1
 have hn1:(tr (j+1)).m.n=m.n:=by rw[hfr]
 have hg1:∀b,(tr (j+1)).m.get b=m.get b:=by intro b;rw[hfr];rfl
 have hlow1:(tr (j+1)).m.low<=m.low:=by rw[hfr];exact Nat.min_le_right _ _
 have hN:=(c.mono (i:=j+1) ops.size (by omega) (Nat.le_refl _)).2
 have hnle:(tr j).m.n<=m.n:=by have:=hev.EG;rw[hkn]at this;exact this
 have hfree:∀b i,σ b=some i->¬((tr j).m.n<=b/\b < m.n):=by
  rintro b i hb ⟨h1,h2⟩
  rcases h.mI b i hb with h3 |⟨q,hLq,h3,h4⟩
  ·have:=(c.mono (i:=0) j (by omega) (by omega)).1
   omega
  ·have hql:=h.lt q hLq
   rcases Nat.lt_trichotomy q j with hqj |rfl |hqj
   ·have:=(c.mono (i:=q+1) j (by omega) (by omega)).1
    omega
   ·exact hj hLq
   ·have:=(c.mono (i:=j+1) q (by omega) (by omega)).1
    omega
 have hτ:∀b i,τ b=some i->b < (tr j).m.n->σ b=some i:=by
  intro b i hb hbn
  cases hs:(σ.cut (tr j).m.n) b with
  |some i'=>
   have:=hev.ext b i' hs
   rw[hb]at this;cases this
   exact(Sg.cq.1 hs).2
  |none=>
   have h0:=(hev.new b i hb hs).1
   have h0:(tr j).m.n<=b:=h0
   omega
 have hτn:∀b i,τ b=some i->b < m.n:=fun b i hb=>by have:=hev.nW.mI b i hb;omega
 let σ':Sg:=fun b=>if(tr j).m.n<=b/\b < m.n then τ b else σ b
 have hle:σ.le σ':=by
  intro b i hb
  show(if(tr j).m.n<=b/\b < m.n then τ b else σ b)=some i
  rw[if_neg (hfree b i hb)]
  exact hb
 have hτle:∀k,m.n<=k->τ.le (σ'.cut k):=by
  intro k hk b i hb
  have hbn:=hτn b i hb
  rw[Sg.cq]
  refine⟨by omega,?_⟩
  show(if(tr j).m.n<=b/\b < m.n then τ b else σ b)=some i
  by_cases hbj:(tr j).m.n<=b
  ·rw[if_pos ⟨hbj,hbn⟩];exact hb
  ·rw[if_neg (fun x=>hbj x.1)]
   exact hτ b i hb (by omega)
 have hσ':∀b i,σ' b=some i->(((tr j).m.n<=b/\b < m.n)/\τ b=some i)\/(¬((tr j).m.n<=b/\b < m.n)/\σ b=some i):=by
  intro b i hb
  have hb:(if(tr j).m.n<=b/\b < m.n then τ b else σ b)=some i:=hb
  by_cases hc:(tr j).m.n<=b/\b < m.n
  ·rw[if_pos hc]at hb;exact .inl ⟨hc,hb⟩
  ·rw[if_neg hc]at hb;exact .inr ⟨hc,hb⟩
 have hwj:=h.EL c hj ho hed hp
 have hs:=hev.nW
 refine⟨σ',?_⟩
 constructor
 ·rintro i (rfl |hL)
  ·exact hjl
  ·exact h.lt i hL
 ·exact h.qt ho hed
 ·rw[xN];exact h.Lk
 ·rw[put_defers];exact h.defs
 ·exact h.yD c hj ho (by rw[hfr]) hle (hv.mono (by rw[hn1];exact hτle _ (Nat.le_refl _)))
 ·
  intro k l hk hw hpw
  by_cases hwr:Wr E call ops tr j
  ·
   obtain rfl:lk=[]:=(hq.resolve_left fun x=>x.2 hwr).2
   have hkg':∀b,mk.get b=m.get b:=fun b=>hkg b (.inl (by simp))
   have hpj:∀p b,qY E call ops tr p b->(p < j↔L p):=fun p b hb=>(hlk p b hb).resolve_right (by simp)
   have hall:∀b i,σ b=some i->b < (tr j).m.n:=by
    intro b i hb
    rcases h.mI b i hb with h3 |⟨q,hLq,h3,h4⟩
    ·have:=(c.mono (i:=0) j (by omega) (by omega)).1
     omega
    ·have hql:=h.lt q hLq
     obtain⟨oq,hoq⟩:=uE (ops:=ops) hql
     have before:Reach ops q j->b < (tr j).m.n:=fun h5=>by
      have:=h5.lt c.ord.lt
      have:=(c.mono (i:=q+1) j (by omega) (by omega)).1
      omega
     cases hpq:er oq.op with
     |true=>have:=(c.mE hoq hpq).1;omega
     |false=>
      rcases c.wr hwr with hbar |⟨b0,hprv⟩
      ·rcases kd hbar.2 q oq hoq with rfl |h5 |h5 |h5
       ·exact absurd hLq hj
       ·rw[hpq]at h5;cases h5
       ·exact before h5
       ·exact absurd (h5.gH h.closed hLq) hj
      ·rcases pI (qY.ok hprv) hoq hpq with rfl |h5 |h5 |⟨h5,_⟩
       ·exact absurd hLq hj
       ·exact before h5
       ·exact absurd (h5.gH h.closed hLq) hj
       ·have:=(c.mono (i:=q+1) j (by omega) (by omega)).1
        omega
   by_cases hjk:j < k
   ·have hnob:∀b,j+1<=b->b < k->¬IE E call ops tr b:=by
     intro b h1 h2 h3
     rcases(hw b h3).1 h2 with rfl |hL
     ·omega
     ·have:=(hwj b h3).2 hL
      omega
    have hnop:∀p x,j+1<=p->p < k->qY E call ops tr p x->x∈l:=by
     intro p x h1 h2 h3
     rcases hpw p x h3 with h4 |h4
     ·rcases h4.1 h2 with rfl |hL
      ·omega
      ·have:=(hpj p x h3).2 hL
       omega
     ·exact h4
    have hmk:=(c.mono (i:=j+1) k (by omega) hk).1
    have heq:∀b i,(σ'.cut (tr k).m.n) b=some i->τ b=some i:=by
     intro b i hb
     rw[Sg.cq]at hb
     rcases hσ' b i hb.2 with⟨_,h1⟩ |⟨_,h1⟩
     ·exact h1
     ·exact hev.ext b i (Sg.cq.2 ⟨hall b i h1,h1⟩)
    have hgk:∀b i,τ b=some i->b∉l->(tr k).m.get b=mk.get b:=by
     intro b i hb hbl
     rw[c.kx k (show j+1<=k by omega) hk hnob b (by rw[hn1];exact hτn b i hb) (fun p h1 h2 h3=>hbl (hnop p b h1 h2 h3)),hg1,hkg']
    refine⟨fun b i hb=>(Sg.cq.1 hb).1,fun b i hb=>?_,fun b i hb=>hs.lt b i (heq b i hb),fun b b' i i' hb hb' hd hd'=>?_,fun g hg=>hτle _ (by omega) g _ (hs.iy g hg)⟩
    ·rw[M.eU]
     by_cases hbl:b∈l
     ·rw[if_pos hbl];trivial
     ·rw[if_neg hbl,hgk b i (heq b i hb) hbl]
      exact(hs.obj b i (heq b i hb)).bt (hτle _ (by omega)) rfl
    ·rw[M.eU]at hd hd'
     by_cases hbl:b∈l
     ·rw[if_pos hbl]at hd;exact absurd rfl hd
     by_cases hbl':b'∈l
     ·rw[if_pos hbl']at hd';exact absurd rfl hd'
     rw[if_neg hbl,hgk b i (heq b i hb) hbl]at hd
     rw[if_neg hbl',hgk b' i' (heq b' i' hb') hbl']at hd'
     exact hs.inj b b' i i' (heq b i hb) (heq b' i' hb') hd hd'
   ·
    have hnbar:¬IE E call ops tr j:=fun hb=>hjk ((hw j hb).2 (.inl rfl))
    obtain⟨b0,hprv⟩:=(c.wr hwr).resolve_left hnbar
    have hb0l:b0∈l:=(hpw j b0 hprv).resolve_left fun x=>hjk (x.2 (.inl rfl))
    obtain⟨hd0,i0,hi0,hot⟩:=hoth b0 hprv
    have hwk:∀b,IE E call ops tr b->(b < k↔L b):=fun b hb=>(hw b hb).trans ⟨fun x=>x.resolve_left (fun e=>hnbar (e ▸ hb)),.inr⟩
    have hpk:∀p b,qY E call ops tr p b->(p < k↔L p)\/b∈l:=by
     intro p b hb
     by_cases hpj':p=j
     ·subst hpj'
      rw[hprv.ji hb]
      exact .inr hb0l
     ·exact(hpw p b hb).imp (fun x=>x.trans ⟨fun y=>y.resolve_left hpj',.inr⟩) id
    have hA:=h.win k l hk hwk hpk
    have hJ:=h.win j [] (by omega) hwj (fun p b hb=> .inl (hpj p b hb))
    have hmk:=(c.mono (i:=k) j (by omega) (by omega)).1
    have hgkj:∀b,b < (tr k).m.n->b∉l->(tr j).m.get b=(tr k).m.get b:=by
     intro b hb hbl
     refine c.kx j (by omega) (by omega) (fun q h1 h2 h3=>?_) b hb (fun p h1 h2 h3=>hbl ?_)
     ·have h4:=(hwj q h3).1 h2
      have:=(hwk q h3).2 h4
      omega
     ·rcases hpk p b h3 with h4 |h4
      ·have h5:=(hpj p b h3).1 h2
       have:=h4.2 h5
       omega
      ·exact h4
    have hcut:(σ.cut (tr k).m.n).le (σ'.cut (tr k).m.n):=Sg.vY hle (Nat.le_refl _)
    have hback:∀b i,(σ'.cut (tr k).m.n) b=some i->(σ.cut (tr k).m.n) b=some i:=by
     intro b i hb
     rw[Sg.cq]at hb⊢
     rcases hσ' b i hb.2 with⟨h1,_⟩ |⟨_,h2⟩
     ·omega
     ·exact⟨hb.1,h2⟩
    have hne:∀b i,(σ.cut (tr k).m.n) b=some i->b∉l->(tr k).m.get b≠.dead->i.cG≠i0.cG:=by
     intro b i hb hbl hd he
     have hb2:=Sg.cq.1 hb
     have hlt:b < (tr j).m.n:=by omega
     have:=hJ.inj b b0 i i0 (Sg.cq.2 ⟨hlt,hb2.2⟩) (Sg.cq.2 ⟨hall b0 i0 hi0,hi0⟩) (by rw[M.sv,hgkj b hb2.1 hbl];exact hd) (by rw[M.sv];exact hd0) he
     exact hbl (this ▸ hb0l)
    refine⟨fun b i hb=>(Sg.cq.1 hb).1,fun b i hb=>?_,fun b i hb=>?_,fun b b' i i' hb hb' hd hd' he=>hA.inj b b' i i' (hback b i hb) (hback b' i' hb') hd hd' he,fun g hg=>hcut g _ (hA.iy g hg)⟩
    ·have hb':=hback b i hb
     have ho':=hA.obj b i hb'
     rw[M.eU]at ho'⊢
     by_cases hbl:b∈l
     ·rw[if_pos hbl];trivial
     ·rw[if_neg hbl]at ho'⊢
      by_cases hd:(tr k).m.get b=.dead
      ·rw[hd];trivial
      ·exact ho'.bt hcut (hot _ (hne b i hb' hbl hd))
    ·have:=hA.lt b i (hback b i hb)
     have:=hev.hle
     omega
  ·
   have hq':(tr j).m.n<=m.low:=(hq.resolve_right (fun x=>hwr x.1)).1
   have hwk:∀b,IE E call ops tr b->(b < k↔L b):=fun b hb=>(hw b hb).trans ⟨fun x=>x.resolve_left (fun e=>hwr (e ▸ hb.1)),.inr⟩
   have hpk:∀p b,qY E call ops tr p b->(p < k↔L p)\/b∈l:=fun p b hb=>(hpw p b hb).imp (fun x=>x.trans ⟨fun y=>y.resolve_left (fun e=>hwr (e ▸ hb.1)),.inr⟩) id
   have hA:=h.win k l hk hwk hpk
   have hkeep:∀B,B < w.heap.size->w'.heap[B]?=w.heap[B]?:=fun B hB=>hev.heap B hB fun b i hb _=>by
    have:=(Sg.cq.1 hb).1
    omega
   have hcut:(σ.cut (tr k).m.n).le (σ'.cut (tr k).m.n):=Sg.vY hle (Nat.le_refl _)
   have hcase:∀b i,(σ'.cut (tr k).m.n) b=some i->(((tr j).m.n<=b/\b < m.n)/\τ b=some i/\j < k)\/(σ.cut (tr k).m.n) b=some i:=by
    intro b i hb
    rw[Sg.cq]at hb
    rcases hσ' b i hb.2 with⟨h1,h2⟩ |⟨_,h2⟩
    ·refine .inl ⟨h1,h2,?_⟩
     refine Classical.byContradiction fun hc=>?_
     have:=(c.mono (i:=k) j (by omega) (by omega)).1
     omega
    ·exact .inr (Sg.cq.2 ⟨hb.1,h2⟩)
   have hgk:j < k->∀b,(tr j).m.n<=b->b < m.n->b∉l->(tr k).m.get b=mk.get b:=by
    intro hjk b hb1 hb hbl
    rw[c.kx k (show j+1<=k by omega) hk (fun b h1 h2 h3=>by
     have:=(hwj b h3).2 ((hwk b h3).1 h2)
     omega) b (by rw[hn1];exact hb) (fun p h1 h2 h3=>by
      rcases hpk p b h3 with h4 |h4
      ·obtain⟨i,hi⟩:=h.EF p b (h4.1 h2) h3
       exact hfree b i hi ⟨hb1,hb⟩
      ·exact hbl h4),hg1,hkg b (.inr hb1)]
   have newblk:∀b i,(tr j).m.n<=b->τ b=some i->w.heap.size<=i.cG:=by
    intro b i h1 h2
    have hnone:(σ.cut (tr j).m.n) b=none:=by
     cases hx:(σ.cut (tr j).m.n) b with
     |none=>rfl
     |some i'=>have:=(Sg.cq.1 hx).1;omega
    rcases(hev.new b i h2 hnone).2 with h3 |⟨b0,i0,h3,_,h5⟩
    ·exact h3
    ·have:=(Sg.cq.1 h3).1
     omega
   refine⟨fun b i hb=>(Sg.cq.1 hb).1,fun b i hb=>?_,fun b i hb=>?_,fun b b' i i' hb hb' hd hd' he=>?_,fun g hg=>hcut g _ (hA.iy g hg)⟩
   ·rcases hcase b i hb with⟨h1,h2,hjk⟩ |h1
    ·rw[M.eU]
     by_cases hbl:b∈l
     ·rw[if_pos hbl];trivial
     ·rw[if_neg hbl,hgk hjk b h1.1 h1.2 hbl]
      have hmk:=(c.mono (i:=j+1) k (by omega) hk).1
      exact(hs.obj b i h2).bt (hτle _ (by omega)) rfl
    ·exact(hA.obj b i h1).bt hcut (hkeep _ (hA.lt b i h1))
   ·rcases hcase b i hb with⟨_,h2,_⟩ |h1
    ·exact hs.lt b i h2
    ·have:=hA.lt b i h1
     have:=hev.hle
     omega
   ·rcases hcase b i hb with⟨h1,h2,hjk⟩ |h1 <;>rcases hcase b' i' hb' with⟨h1',h2',hjk'⟩ |h1'
    ·rw[M.eU]at hd hd'
     by_cases hbl:b∈l
     ·rw[if_pos hbl]at hd;exact absurd rfl hd
     by_cases hbl':b'∈l
     ·rw[if_pos hbl']at hd';exact absurd rfl hd'
     rw[if_neg hbl,hgk hjk b h1.1 h1.2 hbl]at hd
     rw[if_neg hbl',hgk hjk b' h1'.1 h1'.2 hbl']at hd'
     exact hs.inj b b' i i' h2 h2' hd hd' he
    ·have:=newblk b i h1.1 h2
     have:=hA.lt b' i' h1'
     omega
    ·have:=newblk b' i' h1'.1 h2'
     have:=hA.lt b i h1
     omega
    ·exact hA.inj b b' i i' h1 h1' hd hd' he
 ·
  rintro p b (rfl |hL) hb
  ·obtain⟨_,i,hi,_⟩:=hoth b hb
   exact⟨i,hle b i hi⟩
  ·obtain⟨i,hi⟩:=h.EF p b hL hb
   exact⟨i,hle b i hi⟩
 ·intro b i hb
  rcases hσ' b i hb with⟨h1,_⟩ |⟨_,h1⟩
  ·exact .inr ⟨j,.inl rfl,h1.1,by rw[hn1];exact h1.2⟩
  ·exact(h.mI b i h1).imp id fun⟨q,x,y⟩=>⟨q,.inr x,y⟩
 ·exact fun b i hb=>hle b i (h.base b i hb)
 ·intro b i hb h0
  rcases hσ' b i hb with⟨h1,h2⟩ |⟨_,h2⟩
  ·have hnone:(σ.cut (tr j).m.n) b=none:=by
    cases hx:(σ.cut (tr j).m.n) b with
    |none=>rfl
    |some i'=>have:=(Sg.cq.1 hx).1;omega
   have hn0:=(c.mono (i:=0) j (by omega) (by omega)).1
   refine⟨by omega,?_⟩
   have hh:=h.hle
   rcases(hev.new b i h2 hnone).2 with h3 |⟨b0,i0,h3,h4,h5⟩
   ·exact .inl (by omega)
   ·have h3:=(Sg.cq.1 h3).2
    cases hb0:σ0 b0 with
    |some i1=>
     have:=h.base b0 i1 hb0
     rw[h3]at this;cases this
     exact .inr ⟨b0,i0,hb0,h4,by omega⟩
    |none=>
     rcases(h.new b0 i0 h3 hb0).2 with h6 |⟨b1,i1,h6,h7,h8⟩
     ·exact .inl (by omega)
     ·exact .inr ⟨b1,i1,h6,by omega,h8⟩
  ·exact h.new b i h2 h0
 ·have:=h.hle
  have:=hev.hle
  omega
 ·intro B hB hc
  have hh:=h.hle
  rw[<-h.heap B hB hc]
  refine hev.heap B (by omega) fun b i hb he=>?_
  have hb:=(Sg.cq.1 hb).2
  cases hb0:σ0 b with
  |some i1=>
   have:=h.base b i1 hb0
   rw[hb]at this;cases this
   have:=hc b i hb0 he
   omega
  |none=>
   rcases(h.new b i hb hb0).2 with h6 |⟨b1,i1,h6,h7,h8⟩
   ·omega
   ·have:=hc b1 i1 h6 (by omega)
    omega
 ·exact hev.os.trans h.os
 ·exact hev.tape.trans h.tape
 ·exact hev.output.trans h.output
 ·exact h.iy
end
end Go.D
namespace Go.D
open Go
theorem Sg.vZ{σ:Sg}{n:Nat}(h:∀b i,σ b=some i->b < n):σ.cut n=σ:=by
 funext b
 unfold Sg.cut
 by_cases hb:b < n
 ·rw[if_pos hb]
 ·rw[if_neg hb]
  cases hs:σ b with
  |none=>rfl
  |some i=>exact absurd (h b i hs) hb
def EU(l:Array Bool):Nat->Nat
 |0=>0
 |k+1=>EU l k+(if l.getD k false=true then 0 else 1)
theorem wQ{l:Array Bool}:∀{k:Nat},EU l k=0->∀i,i < k->l.getD i false=true
 |k+1,h,i,hi=>by
  unfold EU at h
  by_cases hk:l.getD k false=true
  ·by_cases hik:i=k
   ·subst hik;exact hk
   ·exact wQ (k:=k) (by omega) i (by omega)
  ·rw[if_neg hk]at h;omega
theorem yU(l:Array Bool){j:Nat}(hj:j < l.size)(i:Nat):(l.setIfInBounds j true).getD i false=true↔i=j\/l.getD i false=true:=by
 rw[Array.getD_eq_getD_getElem?,Array.getD_eq_getD_getElem?,Array.getElem?_setIfInBounds]
 by_cases h:j=i
 ·subst h;simp[hj]
 ·simp[h,Ne.symm h]
theorem Bn{l:Array Bool}{j:Nat}(hj:j < l.size)(hn:¬l.getD j false=true):∀k,EU (l.setIfInBounds j true) k+(if j < k then 1 else 0)=EU l k
 |0=>by simp[EU]
 |k+1=>by
  have ih:=Bn hj hn k
  have hs:=yU l hj k
  unfold EU
  by_cases hkj:k=j
  ·subst hkj
   rw[if_pos (hs.2 (.inl rfl)),if_neg hn,if_pos (by omega)]
   rw[if_neg (by omega)]at ih
   omega
  ·by_cases hk:l.getD k false=true
   ·rw[if_pos (hs.2 (.inr hk)),if_pos hk]
    by_cases hjk:j < k
    ·rw[if_pos hjk]at ih;rw[if_pos (by omega)];omega
    ·rw[if_neg hjk]at ih;rw[if_neg (by omega)];omega
   ·rw[if_neg (fun x=>(hs.1 x).elim hkj hk),if_neg hk]
    by_cases hjk:j < k
    ·rw[if_pos hjk]at ih;rw[if_pos (by omega)];omega
    ·rw[if_neg hjk]at ih;rw[if_neg (by omega)];omega
theorem pS(l:Array Bool)(i:Nat)(h:i < l.size):l.getD i true=l.getD i false:=by
 simp[Array.getD_eq_getD_getElem?,h]
theorem GX(l:Array Bool)(i:Nat)(h:¬i < l.size):l.getD i true=true:=by
 simp[Array.getD_eq_getD_getElem?,h]
theorem yL{E:Env}{m m':M}{t:TypeId}{ad:Addr}(h:m'.get ad.block=m.get ad.block):loadVar E m' t ad=loadVar E m t ad:=by
 unfold loadVar D.loadCells D.cellAt
 rw[h]
theorem GB{E:Env}{m m1:M}{b:Builtin}{ts:List TypeId}{args:List Value}{v:Value}(hb:b=.min\/b=.max)(h:an E m b ts args=some (v,m1)):m1=m/\∀m2,an E m2 b ts args=some (v,m2):=by
 rcases hb with rfl |rfl
 ·have h:(db (fun x y=>if y < x then y else x) args).map (·,m)=some (v,m1):=h
  cases hl:db (fun x y=>if y < x then y else x) args with
  |none=>rw[hl]at h;cases h
  |some w=>rw[hl]at h;cases h;exact⟨rfl,fun m2=>by show(db (fun x y=>if y < x then y else x) args).map (·,m2)=_;rw[hl];rfl⟩
 ·have h:(db (fun x y=>if y >x then y else x) args).map (·,m)=some (v,m1):=h
  cases hl:db (fun x y=>if y >x then y else x) args with
  |none=>rw[hl]at h;cases h
  |some w=>rw[hl]at h;cases h;exact⟨rfl,fun m2=>by show(db (fun x y=>if y >x then y else x) args).map (·,m2)=_;rw[hl];rfl⟩
theorem GH{E:Env}{m m1:M}{ts:List TypeId}{x v:Value}(hx:∀r,x≠.map r)(h:an E m .len ts [x]=some (v,m1)):m1=m/\∀m2,an E m2 .len ts [x]=some (v,m2):=by
 match ts,h with
 |[],h=>cases h
 |t::_::_,h=>cases h
 |[t],h=>
  have h:(nF E m t x).map (·,m)=some (v,m1):=h
  have e:∀m2,nF E m2 t x=nF E m t x:=by
   intro m2
   unfold nF
   cases E.ty.get t with
   |none=>rfl
   |some ti=>
    dsimp only
    cases hd:ti.d <;>cases x <;>first |rfl |exact absurd rfl (hx _)
  cases hl:nF E m t x with
  |none=>rw[hl]at h;cases h
  |some w=>rw[hl]at h;cases h;exact⟨rfl,fun m2=>by show(nF E m2 t x).map (·,m2)=_;rw[e,hl];rfl⟩
theorem Jn{E:Env}{call:aF}{T:Tr Value}{m m1:M}{o:Op}{v:Value}{lk:List Nat}{x:Nat}(h:cS o E call T {m with low:=x}=some (v,m1))
  (hk:∀b∈lk,(∃t,o=.alloc t)\/(∃t y,o=.box t y)\/(∃t s ad,o=.load t (.tmp s)/\gk T s=.pointer (some ad)/\ad.block≠b)\/kM o=true\/∃s,lenOf o=some s/\∀r,gk T s≠.map r):
  ∃mk,cS o E call T {m.kill lk with low:=x}=some (v,mk)/\mk.n=m1.n/\mk.low=m1.low/\∀b,b∉lk\/m.n<=b->mk.get b=m1.get b:=by
 cases lk with
 |nil=>exact⟨m1,h,rfl,rfl,fun _ _=>rfl⟩
 |cons b0 r=>
  have hpush:∀(o:Ob) b,b∉b0::r\/m.n<=b->(({m.kill (b0::r)with low:=x}:M).push o).get b=(({m with low:=x}:M).push o).get b:=by
   intro o b hb
   rw[M.eI,M.eI]
   show(if b=m.n then o else(m.kill (b0::r)).get b)=if b=m.n then o else m.get b
   rw[M.eU]
   by_cases h1:b=m.n
   ·simp[h1]
   ·rw[if_neg h1,if_neg h1]
    rcases hb with hb |hb
    ·rw[if_neg hb]
    ·have:m.get b=.dead:=by rw[M.dW,if_neg (by omega)]
     rw[this]
     split <;>rfl
  have hkeep:∀b,b∉b0::r\/m.n<=b->({m.kill (b0::r)with low:=x}:M).get b=({m with low:=x}:M).get b:=by
   intro b hb
   show(m.kill (b0::r)).get b=m.get b
   rw[M.eU]
   rcases hb with hb |hb
   ·rw[if_neg hb]
   ·have:m.get b=.dead:=by rw[M.dW,if_neg (by omega)]
    rw[this]
    split <;>rfl
  rcases hk b0 List.mem_cons_self with⟨t,rfl⟩ |⟨t,y,rfl⟩ |⟨t,s,ad,rfl,hs,_⟩ |hmm |⟨s,hls,hnm⟩
  ·simp only[cS,oE]at h⊢
   cases hz:fQ E t with
   |none=>rw[hz]at h;cases h
   |some z=>
    rw[hz]at h
    cases h
    exact⟨_,rfl,rfl,rfl,hpush _⟩
  ·simp only[cS,Gs]at h⊢
   cases h
   exact⟨_,rfl,rfl,rfl,hpush _⟩
  ·have hn:ad.block∉b0::r:=by
    intro hm
    rcases hk _ hm with⟨t',h'⟩ |⟨t',y,h'⟩ |⟨t',s',ad',h',hs',hne⟩ |h' |⟨_,h',_⟩
    ·cases h'
    ·cases h'
    ·cases h'
     rw[hs]at hs'
     cases hs'
     exact hne rfl
    ·cases h'
    ·cases h'
   have hev:ev T (.tmp s)=.pointer (some ad):=hs
   simp only[cS,rU,hev]at h⊢
   have hl:loadVar E {m.kill (b0::r)with low:=x} t ad=loadVar E {m with low:=x} t ad:=yL (by
    show(m.kill (b0::r)).get ad.block=m.get ad.block
    rw[M.eU,if_neg hn])
   rw[hl]
   cases hz:loadVar E {m with low:=x} t ad with
   |none=>rw[hz]at h;cases h
   |some z=>
    rw[hz]at h
    cases h
    refine⟨_,rfl,rfl,rfl,fun b hb=>?_⟩
    show(m.kill (b0::r)).get b=m.get b
    rw[M.eU]
    rcases hb with hb |hb
    ·rw[if_neg hb]
    ·have:m.get b=.dead:=by rw[M.dW,if_neg (by omega)]
     rw[this]
     split <;>rfl
  ·obtain⟨c,rfl⟩:∃c,o=.call c:=by
    cases o <;>first |exact⟨_,rfl⟩ |cases hmm
   have hb:c.callee=.builtin .min\/c.callee=.builtin .max:=by
    unfold kM at hmm
    dsimp only at hmm
    split at hmm
    ·exact .inl (by assumption)
    ·exact .inr (by assumption)
    ·cases hmm
   obtain⟨bb,hbb,hc⟩:∃bb,(bb=.min\/bb=.max)/\c.callee=.builtin bb:=by
    rcases hb with hb |hb
    ·exact⟨_,.inl rfl,hb⟩
    ·exact⟨_,.inr rfl,hb⟩
   simp only[cS,kJ,hc]at h⊢
   obtain⟨rfl,hw⟩:=GB hbb h
   exact⟨_,hw _,rfl,rfl,hkeep⟩
  ·obtain⟨c,rfl⟩:∃c,o=.call c:=by
    cases o <;>first |exact⟨_,rfl⟩ |cases hls
   unfold lenOf at hls
   dsimp only at hls
   split at hls
   ·rename_i hc
    split at hls
    ·rename_i t ha
     cases hls
     simp only[cS,kJ,hc,ha]at h⊢
     obtain⟨rfl,hw⟩:=GH (x:=gk T s) hnm h
     exact⟨_,hw _,rfl,rfl,hkeep⟩
    ·cases hls
   ·cases hls
theorem uK{ops:Array Oper}{T T':Tr Value}{o:Oper}(h:∀g w d,o.guard=some (g,w)->(ops[g]?).bind (·.dst)=some d->gk T' d=gk T d):bT ops T' o=bT ops T o:=by
 unfold bT
 cases hg:o.guard with
 |none=>rfl
 |some p=>
  obtain⟨g,w⟩:=p
  dsimp only
  simp only[Array.getElem?_toList]
  cases hd:(ops[g]?).bind (·.dst)with
  |none=>rfl
  |some d=>dsimp only;rw[h g w d hg hd]
theorem tc{E:Env}{m m':M}{t:TypeId}{ad:Addr}{v:Value}(h:storeVar E m t ad v=some m'):m.get ad.block≠.dead:=by
 intro hd
 unfold storeVar at h
 split at h
 ·cases hq:Nat.beq (cells v).length _ with
  |false=>rw[hq]at h;cases h
  |true=>
   rw[hq]at h
   simp only[cond_true]at h
   unfold D.storeCells at h
   rw[hd]at h
   cases h
 ·cases h
section
variable {E:Env} {P:Program} {call:aF} {ops:Array Oper} {nt:Nat} {tr:Nat->Fr} {σ0 σ:Sg} {w0 w:World} {ds:List Deferred} {L:Nat->Prop} {a:Act} {ro:Option Nat} {n:Nat} {Q:Exit->Act->World->Prop}
theorem Inv.step(c:Ctx E P call ops nt tr)(h:Inv E P call ops nt tr σ0 w0 ds L σ a w){j:Nat}{o:Oper}(hj:¬L j)(ho:ops[j]?=some o)(hed:∀e∈o.after,Region.binds .any e=true->L e.on)
  {K:Act->World->Prop} (hK:∀σ' a' w',Inv E P call ops nt tr σ0 w0 ds (fun i=>i=j\/L i) σ' a' w'->K a' w'):wpOpIn (dO ro) n P ops Q j K a w:=by
 have hjl:j < ops.size:=(Array.getElem?_eq_some_iff.1 ho).1
 have hokj:=c.ok o (by simpa using Array.mem_of_getElem? ho)
 have hnames:∀t,t < nt->t∈gT ops o->aJ (σ.cut (tr j).m.n) (gk (tr j).T t) (a.eval (.tmp t)):=fun t ht hn=>h.names c hj ho hed ht hn
 have hw:bT ops (tr j).T o=Region.wanted o (yielded ops a.tmps):=by
  refine nY (σ:=σ.cut (tr j).m.n) fun q want d hg hd=>?_
  have hd0:=hd
  simp only[Option.bind_eq_some_iff]at hd
  obtain⟨o',ho',hd'⟩:=hd
  have hlt:=eu (c.ok o' (by simpa using Array.mem_of_getElem? ho')) d hd'
  refine⟨by rw[h.Lk];exact hlt,hnames d hlt ?_⟩
  unfold gT
  rw[hg]
  simp only[hd0]
  simp
 unfold wpOpIn
 rw[ho]
 dsimp only
 rw[<-hw]
 rcases c.step j o ho with⟨hwd,hfr⟩ |⟨hwd,v,m,hop,hb,hfr⟩
 ·rw[hwd,if_neg (by simp)]
  refine⟨fun _ _=>trivial,hK σ _ w (h.same c hj ho hed (v:=undef) (by rw[hfr]) ?_ aJ.undef)⟩
  rintro⟨o',v,m,ho',hw',_⟩
  rw[ho]at ho';cases ho'
  rw[hwd]at hw';cases hw'
 ·rw[hwd,if_pos rfl]
  refine⟨fun _ _=>trivial,?_⟩
  rw[Oper.semAt_eq _ _ _ (fun c hc=>by rw[hc]at hop;simp[cS]at hop)]
  cases hp:er o.op with
  |true=>
   have hopnd:∀x∈o.op.operands.toList,aJ (σ.cut (tr j).m.n) (ev (tr j).T x) (a.eval x):=by
    intro x hx
    have hox:=fF hokj x hx
    cases x with
    |tmp t=>exact hnames t (nC hox) (by unfold gT;simp only[List.mem_append];exact .inr (.inl (List.mem_filterMap.2 ⟨.tmp t,hx,rfl⟩)))
    |const v=>exact .eb hox
    |global g=>
     have hg:g < P.globals.size:=by
      have h:Nat.blt g P.globals.size=true:=hox
      rw[dX]at h;simpa using h
     obtain⟨h1,h2⟩:=h.iy g hg
     have h3:=(c.mono (i:=0) j (by omega) (by omega)).1
     exact .ptr ⟨g,0,none⟩ ⟨g,none⟩ (Sg.cq.2 ⟨by dsimp only;omega,h.base g _ h2⟩) rfl
    |func f=>exact .flat _ rfl
   obtain⟨v',hr,hv⟩:=Ad (w:=w) c.hE hp hop hopnd
   rw[hr]
   refine hK σ _ w (h.same c hj ho hed (v:=v) (by rw[hfr]) (c.mE ho hp).2 ?_)
   rw[(c.mE ho hp).1]
   exact hv
  |false=>
   obtain⟨lk,hlk1,hlk2⟩:=h.IJ c hj ho hed hp
   have hsim:=h.win j lk (by omega) (h.EL c hj ho hed hp) hlk1
   have hopnd:∀x∈o.op.operands.toList,aJ (σ.cut (tr j).m.n) (ev (tr j).T x) (a.eval x):=by
    intro x hx
    have hox:=fF hokj x hx
    exact za hsim (fun t ht=>by
     subst ht
     exact hnames t (nC hox) (by unfold gT;simp only[List.mem_append];exact .inr (.inl (List.mem_filterMap.2 ⟨.tmp t,hx,rfl⟩)))) hox
   have hkind:∀b∈lk,(∃t,o.op=.alloc t)\/(∃t y,o.op=.box t y)\/(∃t s ad,o.op=.load t (.tmp s)/\gk (tr j).T s=.pointer (some ad)/\ad.block≠b)\/kM o.op=true\/∃s,lenOf o.op=some s/\∀r,gk (tr j).T s≠.map r:=by
    intro b hb
    obtain⟨p,hL,hprv,hjp,hok,hr1,hr2⟩:=hlk2 b hb
    have hps:=hprv.1.lt
    rcases pI hok ho hp with rfl |hr |hr |⟨_,h4⟩
    ·omega
    ·exact absurd hr hr1
    ·exact absurd hr hr2
    ·rcases h4 with h4 |h4 |⟨t,s,h4,h5,h6,h7⟩ |h4 |⟨s,h4,h5,h6⟩
     ·exact .inl h4
     ·exact .inr (.inl h4)
     rotate_left
     ·exact .inr (.inr (.inr (.inl h4)))
     ·have hT:gk (tr p).T s=gk (tr j).T s:=c.mK p (by omega) (by omega) fun q oq h1 h2 hq=>h5 q oq h1 h2 hq
      exact .inr (.inr (.inr (.inr ⟨s,h4,fun r=>by rw[<-hT];exact h6 r⟩)))
     ·refine .inr (.inr (.inl ⟨t,s,?_⟩))
      have hT:gk (tr p).T s=gk (tr j).T s:=c.mK p (by omega) (by omega) fun q oq h1 h2 hq=>h5 q oq h1 h2 hq
      have hW:bT ops (tr p).T o=bT ops (tr j).T o:=uK fun g w d hg hd=>c.mK p (by omega) (by omega) fun q oq h1 h2 hq=>h6 g w d hg hd q oq h1 h2 hq
      rcases h7 with h7 |⟨ad,h7,h8⟩
      ·rw[hW,hwd]at h7;cases h7
      ·exact⟨ad,h4,by rw[<-hT];exact h7,h8⟩
   by_cases hpv:∃b0,qY E call ops tr j b0
   ·obtain⟨b0,hb0⟩:=hpv
    obtain⟨_,_,o',ho',hst,_⟩:=id hb0
    rw[ho]at ho'
    cases ho'
    cases hoo:o.op with
    |store t x y=>
     rw[hoo]at hst
     unfold eJ at hst
     dsimp only at hst
     split at hst
     ·rename_i ad hev
      cases hst
      obtain rfl:lk=[]:=by
       refine List.eq_nil_iff_forall_not_mem.2 fun b hb=>?_
       rcases hkind b hb with⟨_,h'⟩ |⟨_,_,h'⟩ |⟨_,_,_,h',_⟩ |h' |⟨_,h',_⟩ <;>rw[hoo]at h' <;>cases h'
      rw[hoo]at hop hopnd
      simp only[cS,kI,hev]at hop
      split at hop
      ·rename_i m2 hz
       cases hop
       have hx:=hopnd x (by simp[Op.operands])
       rw[hev]at hx
       obtain⟨i,hi,_,he⟩:=hx.dV
       obtain⟨w',q1,q2,_,q4⟩:=lF c.hE (hsim.low (tr j).m.n) hi (hopnd y (by simp[Op.operands])) hz
       have hr:(Instr.storeAt t (a.eval x) (a.eval y)).run P w=.ok () w':=by
        rw[he]
        simpa[Instr.storeAt,Instr.sureAddr]using q1
       have hwr:Wr E call ops tr j:=hb0.1
       obtain⟨σ',hI⟩:=h.effect c (v':=undef) (mk:=m) (lk:=[]) hj ho hed hp rfl rfl (fun _ _=>rfl) hlk1 q2 aJ.undef hfr (.inr ⟨hwr,rfl⟩) (fun b hb=>by
        have:=hb0.ji hb
        subst this
        exact⟨fun hd=>tc hz hd,i,(Sg.cq.1 hi).2,q4⟩)
       unfold execOp
       rw[hoo]
       simp only[Sem.run_bind,hr,Result.andThen_ok,Sem.run_pure]
       exact hK σ' _ w' hI
      ·cases hop
     ·cases hst
    |call cc=>
     rw[hoo]at hst hop hopnd
     obtain⟨f,x,ad,hcf,hcx,hef,hex,hbuf,hcl⟩:=uP hst hop
     obtain rfl:lk=[]:=by
      refine List.eq_nil_iff_forall_not_mem.2 fun b hb=>?_
      rcases hkind b hb with⟨_,h'⟩ |⟨_,_,h'⟩ |⟨_,_,_,h',_⟩ |h' |⟨_,h',_⟩ <;>rw[hoo]at h'
      ·cases h'
      ·cases h'
      ·cases h'
      ·simp[kM,hcf]at h'
      ·simp[lenOf,hcf]at h'
     obtain⟨hlive,hm1,hrun⟩:=c.cN.EF ad _ v m b0 hcl hbuf
     have hvx:=hopnd x (by simp[Op.operands,Call.operands];exact .inr (by rw[<-Array.mem_toList_iff,hcx];simp))
     rw[hex]at hvx
     have hvf:=hopnd f (by simp[Op.operands,Call.operands,hcf])
     rw[hef]at hvf
     have hfe:a.eval f=.func (.func tI) #[] #[]:=by
      exact hvf.aQ rfl
     obtain⟨i,hi,hci,hent⟩:=hrun _ w #[a.eval x] ((hsim.low (tr j).m.n)) (.cons hvx .nil)
     have hwr:Wr E call ops tr j:=hb0.1
     unfold execOp
     rw[hoo]
     have hma:cc.args.map a.eval= #[a.eval x]:=by
      apply Array.ext'
      simp[hcx]
     simp only[resolve,hcf,hfe,Deferred.ofValue,Sem.run_bind,Sem.run_pure,Result.andThen_ok,invoke,hma,Array.empty_append,Array.append_empty,hent]
     refine AE hci ro n o a K Q fun e w' he=>?_
     obtain⟨⟨v',σ1,rfl,hv,hev⟩,hoth⟩:=he
     obtain⟨σ',hI⟩:=h.effect c (v':=v') (mk:=m) (lk:=[]) hj ho hed hp rfl rfl (fun _ _=>rfl) hlk1 hev hv hfr (.inr ⟨hwr,rfl⟩) (fun b hb=>by
      have:=hb0.ji hb
      subst this
      exact⟨hlive,i,(Sg.cq.1 hi).2,hoth⟩)
     exact⟨v',rfl,hK σ' _ w' hI⟩
    |_=>rw[hoo]at hst;cases hst
   ·obtain⟨mk,hopk,hkn,hkl,hkg⟩:=Jn hop hkind
    refine(oA c.hE c.cN (hsim.low (tr j).m.n) hopk hopnd).2 ro n o a K Q fun τ w' v' hv he=>?_
    obtain⟨σ',hI⟩:=h.effect c hj ho hed hp hkn hkl hkg hlk1 he hv hfr (by
     by_cases hq:(tr j).m.n<=m.low
     ·refine .inl ⟨hq,?_⟩
      rintro⟨o',v',m',ho',_,hop',hn⟩
      rw[ho]at ho'
      cases ho'
      rw[hop]at hop'
      cases hop'
      exact hn hq
     ·have hwr:Wr E call ops tr j:=⟨o,v,m,ho,hwd,hop,hq⟩
      have hbar:dM ops j=true:=((c.wr hwr).resolve_right hpv).2
      refine .inr ⟨hwr,List.eq_nil_iff_forall_not_mem.2 fun b hb=>?_⟩
      obtain⟨p,hL,hprv,hjp,hok,hr1,hr2⟩:=hlk2 b hb
      obtain⟨op,hop',hpp⟩:=Wr.op c hprv.1
      rcases kd hbar p op hop' with rfl |h1 |h1 |h1
      ·omega
      ·rw[hpp]at h1;cases h1
      ·exact hr2 h1
      ·exact hr1 h1) (fun b hb=>absurd ⟨b,hb⟩ hpv)
    exact hK σ' _ w' hI
theorem Ez(c:Ctx E P call ops nt tr)(hQ:∀σ a w,Inv E P call ops nt tr σ0 w0 ds (fun i=>i < ops.size) σ a w->Q .normal a w):
  ∀(fuel:Nat) (listed:Array Bool) (σ:Sg) (a:Act) (w:World),listed.size=ops.size->EU listed ops.size<=fuel->Inv E P call ops nt tr σ0 w0 ds (fun i=>listed.getD i false=true) σ a w->
   wpAnyIn (dO ro) n P .any ops Q fuel listed a w:=by
 have fin:∀(listed:Array Bool) (σ:Sg) (a:Act) (w:World),listed.size=ops.size->(∀i,i < ops.size->listed.getD i false=true)->Inv E P call ops nt tr σ0 w0 ds (fun i=>listed.getD i false=true) σ a w->Q .normal a w:=by
  intro listed σ a w hsz hall h
  have:(fun i=>listed.getD i false=true)=(fun i=>i < ops.size):=by
   funext i
   exact propext ⟨fun hi=>h.lt i hi,hall i⟩
  rw[this]at h
  exact hQ σ a w h
 have noready:∀(listed:Array Bool),listed.size=ops.size->(∀i,i < ops.size->listed.getD i false=true)->Region.ready .any ops listed=[]:=by
  intro listed hsz hall
  refine List.eq_nil_iff_forall_not_mem.2 fun j hj=>?_
  have h1:=(mem_ready.1 hj).1
  by_cases hjs:j < listed.size
  ·rw[pS _ _ hjs,hall j (by omega)]at h1;cases h1
  ·rw[GX _ _ hjs]at h1;cases h1
 have ready_all:∀(listed:Array Bool),listed.size=ops.size->Region.ready .any ops listed=[]->∀i,i < ops.size->listed.getD i false=true:=by
  intro listed hsz hr i
  induction i using Nat.strongRecOn with
  |_ i ih=>
   intro hi
   refine Classical.byContradiction fun hn=>?_
   obtain⟨o,ho⟩:=uE (ops:=ops) hi
   have:i∈Region.ready .any ops listed:=mem_ready.2 ⟨by rw[pS _ _ (by omega)];simpa using hn,o,ho,fun e he hb=>by
    have:=c.ord.lt i o ho e he hb
    exact ih e.on this (by omega)⟩
   rw[hr]at this
   cases this
 intro fuel
 induction fuel with
 |zero=>
  intro listed σ a w hsz hu h
  have hall:=fun i hi=>wQ (l:=listed) (k:=ops.size) (by omega) i hi
  exact⟨noready listed hsz hall,fin listed σ a w hsz hall h⟩
 |succ fuel ih=>
  intro listed σ a w hsz hu h
  refine⟨fun hr=>fin listed σ a w hsz (ready_all listed hsz hr) h,fun j hj=>?_⟩
  obtain⟨h1,o,ho,hed⟩:=mem_ready.1 hj
  have hjl:j < ops.size:=(Array.getElem?_eq_some_iff.1 ho).1
  have hnj:¬listed.getD j false=true:=by
   rw[pS _ _ (by omega)]at h1
   rw[h1];simp
  refine h.step c hnj ho hed fun σ' a' w' hI=>?_
  refine ih _ σ' a' w' (by simpa using hsz) ?_ ?_
  ·have:=Bn (l:=listed) (j:=j) (by omega) hnj ops.size
   rw[if_pos hjl]at this
   omega
  ·have:(fun i=>(listed.setIfInBounds j true).getD i false=true)=(fun i=>i=j\/listed.getD i false=true):=by
    funext i
    exact propext (yU listed (by omega) i)
   rw[this]
   exact hI
theorem AI(hE:E.OK P)(cN:cQ P call)(hok:∀o∈ops.toList,fG nt P.globals.size o=true)(hd:rV ops=true){fr fr':Fr}(h:eZ E call ops ops.toList 0 fr=some fr')
  (hf:dp σ fr.T a nt) (hs:dN P σ fr.m w) (k:∀σ' a' w',dp σ' fr'.T a' nt->a'.defers=a.defers->Ev P σ fr.m w σ' fr'.m w'->Q .normal a' w'):
  wpAnyIn (dO ro) n P .any ops Q ops.size (Array.replicate ops.size false) a w:=by
 obtain⟨tr,t0,tN,tstep⟩:=sI ops.toList 0 fr fr' h
 have hst:∀j o,ops[j]?=some o->DStep E call ops (tr j) o j (tr (j+1)):=by
  intro j o ho
  have:=tstep j o (by simpa using ho)
  simpa using this
 subst t0
 have tN:tr ops.size=fr':=by rw[<-tN];simp
 subst tN
 have c:Ctx E P call ops nt tr:=⟨hE,cN,vg hd,hok,hst,uj hE cN hok hst hs hf⟩
 refine Ez (σ0:=σ) (w0:=w) (ds:=a.defers) c ?_ ops.size _ σ a w (by simp) ?_ ?_
 ·intro σ' a' w' hI
  have hall:∀b i,σ' b=some i->b < (tr ops.size).m.n:=by
   intro b i hb
   rcases hI.mI b i hb with h1 |⟨q,hq,_,h2⟩
   ·have:=(c.mono (i:=0) ops.size (by omega) (Nat.le_refl _)).1
    omega
   ·have:=(c.mono (i:=q+1) ops.size (by omega) (Nat.le_refl _)).1
    omega
  have hsim:=hI.win ops.size [] (Nat.le_refl _) (fun b hb=>Iff.rfl) (fun p b hb=> .inl Iff.rfl)
  rw[Sg.vZ hall,M.sv]at hsim
  refine k σ' a' w' ⟨hI.Lk,fun t ht=>?_⟩ hI.defs ⟨hI.base,hsim,(c.mono (i:=0) ops.size (by omega) (Nat.le_refl _)).2,(c.mono (i:=0) ops.size (by omega) (Nat.le_refl _)).1,hI.hle,hI.new,fun b hb hn=>c.abs ops.size (Nat.le_refl _) b hb hn,hI.heap,hI.os,hI.tape,hI.output⟩
  obtain⟨q,hq,hv,hw,_⟩:=hI.tmp t ht
  have hT:gk (tr ops.size).T t=gk (tr q).T t:=c.mK ops.size hq (Nat.le_refl _) fun i o h1 h2 ho hdst=>by
   have:=hw i o h2 ho hdst
   omega
  rw[hT]
  refine hv.mono fun b i hb=>(Sg.cq.1 hb).2
 ·have:∀k,EU (Array.replicate ops.size false) k<=k:=by
   intro k
   induction k with
   |zero=>simp[EU]
   |succ k ih=>
    unfold EU
    split <;>omega
  exact this _
 ·have hL:∀i,¬(Array.replicate ops.size false).getD i false=true:=by
   intro i
   simp[Array.getD_eq_getD_getElem?,Array.getElem?_replicate]
   split <;>simp
  have hcut:σ.cut (tr 0).m.n=σ:=Sg.vZ hs.mI
  exact{
   lt:=fun i hi=>absurd hi (hL i)
   closed:=fun j o ho hj=>absurd hj (hL j)
   Lk:=hf.1
   defs:=rfl
   tmp:=fun t ht=>⟨0,by omega,by rw[hcut];exact hf.2 t ht,fun i o hi=>absurd hi (hL i),.inl rfl⟩
   win:=fun k l hk hw hpw=>by
    have hcutk:σ.cut (tr k).m.n=σ:=Sg.vZ fun b i hb=>by
     have:=hs.mI b i hb
     have:=(c.mono (i:=0) k (by omega) hk).1
     omega
    rw[hcutk]
    have hget:∀b,b < (tr 0).m.n->b∉l->(tr k).m.get b=(tr 0).m.get b:=fun b hb hbl=>c.kx (i:=0) k (by omega) hk (fun b _ h2 h3=>hL b ((hw b h3).1 h2)) b hb
     (fun p _ h2 h3=>(hpw p b h3).elim (fun x=>hL p (x.1 h2)) hbl)
    have hmono:=(c.mono (i:=0) k (by omega) hk).1
    refine⟨fun b i hb=>?_,fun b i hb=>?_,hs.lt,fun b b' i i' hb hb' h1 h2=>?_,hs.iy⟩
    ·have:=hs.mI b i hb
     show b < (tr k).m.n
     omega
    ·rw[M.eU]
     by_cases hbl:b∈l
     ·rw[if_pos hbl];trivial
     ·rw[if_neg hbl,hget b (hs.mI b i hb) hbl];exact hs.obj b i hb
    ·rw[M.eU]at h1 h2
     by_cases hbl:b∈l
     ·rw[if_pos hbl]at h1;exact absurd rfl h1
     by_cases hbl':b'∈l
     ·rw[if_pos hbl']at h2;exact absurd rfl h2
     rw[if_neg hbl,hget b (hs.mI b i hb) hbl]at h1
     rw[if_neg hbl',hget b' (hs.mI b' i' hb') hbl']at h2
     exact hs.inj b b' i i' hb hb' h1 h2
   EF:=fun p b hp=>absurd hp (hL p)
   mI:=fun b i hb=> .inl (hs.mI b i hb)
   base:=fun _ _ x=>x
   new:=fun b i hb h0=>by rw[hb]at h0;cases h0
   hle:=Nat.le_refl _
   heap:=fun _ _ _=>rfl
   os:=rfl
   tape:=rfl
   output:=rfl
   iy:=fun g hg=>⟨hs.mI g _ (hs.iy g hg),hs.iy g hg⟩}
end
end Go.D
namespace Go.D
open Go
section
variable {E:Env} {P:Program} {call:aF} {nt:Nat} {σ:Sg} {w:World} {a:Act} {ro:Option Nat} {k:Nat}
def Ex.to:Ex->Exit
 |.normal=> .normal
 |.exit id=> .exit id
 |.ret=> .ret
def jV(base:Nat)(σ:Sg)(w:World):List Deferred->Prop
 |[]=>True
 |d::ds=>(∃r,d.target=.collected r/\base<=r/\w.heap[r]?=some (.deferred (some []))/\(∀b i,σ b=some i->i.cG≠r)/\∀d'∈ds,d'.target≠.collected r)/\jV base σ w ds
theorem jV.ev{base:Nat}{σ':Sg}{m m':M}{w':World}(he:Ev P σ m w σ' m' w'):∀{ds:List Deferred},jV base σ w ds->jV base σ' w' ds
 |[],_=>trivial
 |d::ds,h=>by
  obtain⟨⟨r,h1,h2,h3,h4,h5⟩,h6⟩:=h
  have hr:r < w.heap.size:=(Array.getElem?_eq_some_iff.1 h3).1
  refine⟨⟨r,h1,h2,?_,?_,h5⟩,h6.ev he⟩
  ·rw[he.heap r hr (fun b i hb e=>absurd e (h4 b i hb))]
   exact h3
  ·intro b i hb e
   cases hs:σ b with
   |some i'=>
    have:=he.ext b i' hs
    rw[hb]at this;cases this
    exact h4 b i hs e
   |none=>
    rcases(he.new b i hb hs).2 with h |⟨b0,i0,h,h',_⟩
    ·omega
    ·exact h4 b0 i0 h (h'.trans e)
theorem jV.lt{base:Nat}:∀{ds:List Deferred},jV base σ w ds->∀d∈ds,∃r,d.target=.collected r/\r < w.heap.size
 |d::ds,h,d',hd=>by
  obtain⟨⟨r,h1,_,h3,_,_⟩,h6⟩:=h
  rcases List.mem_cons.1 hd with rfl |hd
  ·exact⟨r,h1,(Array.getElem?_eq_some_iff.1 h3).1⟩
  ·exact h6.lt d' hd
def wF(base:Nat)(σ:Sg)(w:World)(tl ds:List Deferred):Prop:=∃ms,ds=ms++tl/\jV base σ w ms
theorem wF.ev{base:Nat}{tl ds:List Deferred}{σ':Sg}{m m':M}{w':World}(he:Ev P σ m w σ' m' w')(h:wF base σ w tl ds):wF base σ' w' tl ds:=by
 obtain⟨ms,h1,h2⟩:=h
 exact⟨ms,h1,h2.ev he⟩
theorem zB{F:Fence}{n:Nat}{c:Code}{Q:Exit->Act->World->Prop}(h:c.wpIn F n P (Exit.noGoto Q) a w):(Code.scope c).wpIn F n P Q a w:=by
 intro b k cs hro hb hr
 have h1:step P (lone (b.atR a (.code (.scope c)::k)) cs w)=.next (lone (b.atR a (.code c::.inScope c::k)) cs w):=step_lone_go (by simp[stepG,stepG.exec,Frame.atR])
 have i1:(lone (b.atR a (.code (.scope c)::k)) cs w).fenced P F:=fenced_calm hb hr rfl
 obtain⟨e,a₁,w₁,hq,harr⟩:=h b (.inScope c::k) cs hro hb hr
 have h2:step P (lone (b.atR a₁ (.inScope c::k)) cs w₁)=.next (lone (b.atR a₁ k) cs w₁):=step_lone_go (by simp[stepG,stepG.exec,Frame.atR])
 have i2:(lone (b.atR a₁ (.inScope c::k)) cs w₁).fenced P F:=fenced_calm hb hr rfl
 cases e with
 |normal=>exact⟨.normal,a₁,w₁,hq,StepsIn.head i1 h1 (StepsIn.trans harr (.one i2 h2))⟩
 |exit id=>exact⟨.exit id,a₁,w₁,hq,.of_steps (.one i1 h1) ⟨fun k' hk=>harr.1 k' (by simp[exitTo,hk]),fun hr' hk=>harr.2 hr' (by simp[exitTo,hk])⟩⟩
 |goto l=>exact hq.elim
 |ret=>exact⟨_,a₁,w₁,hq,.of_steps (.one i1 h1) harr⟩
 |panic ch=>exact⟨_,a₁,w₁,hq,.of_steps (.one i1 h1) harr⟩
 |outgrown=>exact⟨_,a₁,w₁,hq,.of_steps (.one i1 h1) harr⟩
theorem Ev.extra{m:M}(hs:dN P σ m w)(o:Obj):Ev P σ m w σ m (w.alloc o):=by
 have hk:∀B,B < w.heap.size->(w.alloc o).heap[B]?=w.heap[B]?:=fun B hB=>heap_alloc_old w o hB
 refine⟨fun _ _ x=>x,⟨hs.mI,fun b i hb=>(hs.obj b i hb).bt (fun _ _ x=>x) (hk _ (hs.lt b i hb)),fun b i hb=>?_,hs.inj,hs.iy⟩,Nat.le_refl _,Nat.le_refl _,by simp,fun b i x y=>(by rw[x]at y;cases y),fun _ _ _=>rfl,fun B hB _=>hk B hB,rfl,rfl,rfl⟩
 have:=hs.lt b i hb
 simp
 omega
def JU(ro:Option Nat)(σ:Sg)(m:M):Prop:=ro=none\/∃l i r,ro=some i.cG/\σ l=some i/\m.get l=.loop r
theorem JU.next{ro:Option Nat}{σ':Sg}{m m':M}(h:JU ro σ m)(he:σ.le σ')(hk:LK m m'):JU ro σ' m':=by
 rcases h with h |⟨l,i,r,h1,h2,h3⟩
 ·exact .inl h
 ·obtain⟨r',h4⟩:=hk l r h3
  exact .inr ⟨l,i,r',h1,he _ _ h2,h4⟩
def Nh(P:Program)(nt:Nat)(c:Code)(fr:Fr)(e:Ex)(fr':Fr):Prop:=
 ∀(ro:Option Nat) (k base:Nat) (σ:Sg) (a:Act) (w:World) (Q:Exit->Act->World->Prop) (tl:List Deferred),JU ro σ fr.m->dp σ fr.T a nt->dN P σ fr.m w->wF base σ w tl a.defers->base<=w.heap.size->
  (∀σ' a' w',dp σ' fr'.T a' nt->wF base σ' w' tl a'.defers->(jZ c=true->a'.defers=a.defers)->Ev P σ fr.m w σ' fr'.m w'->Q e.to a' w')->c.wpIn (dO ro) k P Q a w
noncomputable def least(p:Nat->Prop):Nat:=by
 classical
 exact if h:∃j,p j/\∀i,i < j->¬p i then Classical.choose h else 0
theorem sn{p:Nat->Prop}{j:Nat}(h:p j):p (least p)/\least p<=j:=by
 have ex:∃j,p j/\∀i,i < j->¬p i:=by
  induction j using Nat.strongRecOn with
  |_ j ih=>
   by_cases hc:∃i,i < j/\p i
   ·obtain⟨i,h1,h2⟩:=hc
    exact ih i h1 h2
   ·exact⟨j,h,fun i hi hp=>hc ⟨i,hi,hp⟩⟩
 have hs:=Classical.choose_spec ex
 have he:least p=Classical.choose ex:=by
  unfold least
  rw[dif_pos ex]
 rw[he]
 refine⟨hs.1,?_⟩
 refine Classical.byContradiction fun hc=>?_
 exact hs.2 j (by omega) h
theorem Aq{c:Code}{body:Fr->Option (Ex×Fr)}(hkp:∀fr e fr',body fr=some (e,fr')->LK fr.m fr'.m)(hb:∀fr e fr',body fr=some (e,fr')->Nh P nt c fr e fr'){n:Nat}{fr:Fr}{e:Ex}{fr':Fr}(h:ig body n fr=some (e,fr')):
  Nh P nt (.loop c) fr e fr':=by
 intro ro k base σ a w Q tl hro hf hs hd hba hQ
 let I:Nat->Act->World->Prop:=fun j a' w'=>∃fr1 σ1,ig body j fr1=some (e,fr')/\dp σ1 fr1.T a' nt/\wF base σ1 w' tl a'.defers/\(jZ c=true->a'.defers=a.defers)/\LK fr.m fr1.m/\Ev P σ fr.m w σ1 fr1.m w'
 refine wpIn_loop (fun a' w'=>∃j,I j a' w') (fun a' w'=>least fun j=>I j a' w') ⟨n,fr,σ,h,hf,hd,fun _=>rfl,LK.refl,Ev.refl hs⟩ fun a1 w1 ⟨j,hI⟩=>?_
 obtain⟨⟨fr1,σ1,hl,hf1,hd1,hq1,hk1,he1⟩,_⟩:=sn (p:=fun j=>I j a1 w1) hI
 generalize hq:(least fun j=>I j a1 w1)=q at hl
 cases q with
 |zero=>simp[ig]at hl
 |succ q=>
  unfold ig at hl
  cases hbd:body fr1 with
  |none=>rw[hbd]at hl;cases hl
  |some p=>
   obtain⟨e2,fr2⟩:=p
   rw[hbd]at hl
   refine hb fr1 e2 fr2 hbd ro k base σ1 a1 w1 _ tl (hro.next he1.ext hk1) hf1 he1.nW hd1 (Nat.le_trans hba he1.hle) fun σ2 a2 w2 hf2 hd2 hq2 he2=>?_
   have hq12:jZ c=true->a2.defers=a.defers:=fun x=>(hq2 x).trans (hq1 x)
   cases e2 with
   |normal=>
    have hI2:I q a2 w2:=⟨fr2,σ2,hl,hf2,hd2,hq12,hk1.trans (hkp _ _ _ hbd),he1.trans he2⟩
    refine⟨⟨q,hI2⟩,?_⟩
    have:=(sn (p:=fun j=>I j a2 w2) hI2).2
    omega
   |exit id=>
    cases hl
    exact hQ σ2 a2 w2 hf2 hd2 hq12 (he1.trans he2)
   |ret=>
    cases hl
    exact hQ σ2 a2 w2 hf2 hd2 hq12 (he1.trans he2)
theorem gN(hE:E.OK P)(cN:cQ P call){n:Nat}:∀(c:Code) (fr:Fr) (e:Ex) (fr':Fr),dh nt P.globals.size c=true->aZ E call n c fr=some (e,fr')->Nh P nt c fr e fr':=by
 intro c
 induction c with
 |skip=>
  intro fr e fr' _ h ro k base σ a w Q tl hro hf hs hd hba hQ
  cases h
  exact wpIn_skip (hQ σ a w hf hd (fun _=>rfl) (Ev.refl hs))
 |label l=>
  intro fr e fr' _ h ro k base σ a w Q tl hro hf hs hd hba hQ
  cases h
  exact wpIn_label (hQ σ a w hf hd (fun _=>rfl) (Ev.refl hs))
 |region id ops d=>
  intro fr e fr' hok h ro k base σ a w Q tl hro hf hs hde hba hQ
  unfold dh at hok
  simp only[Bool.and_eq_true]at hok
  have hops:∀o∈ops.toList,fG nt P.globals.size o=true:=List.all_eq_true.1 hok.1
  unfold aZ at h
  simp only[Option.map_eq_some_iff,Prod.mk.injEq]at h
  obtain⟨fr1,h,rfl,rfl⟩:=h
  cases d with
  |false=>
   simp only[cond_false]at h
   exact wpIn_region_list (pM hE cN hops ops.toList hops fr fr1 h σ a w hf rfl hs fun σ' a' w' h1 h2 h3=>hQ σ' a' w' h1 (by rw[h2];exact hde.ev h3) (fun _=>h2) h3)
  |true=>
   simp only[cond_true]at h
   have hd:rV ops=true:=by simpa using hok.2
   have hw:Ev P σ fr.m w σ fr.m {w with drawn:=w.drawn+1}:=Ev.of_heap hs rfl rfl rfl rfl
   exact wpIn_region_any hE.mixed (AI hE cN hops hd h hf hw.nW fun σ' a' w' h1 h2 h3=>hQ σ' a' w' h1 (by rw[h2];exact hde.ev (hw.trans h3)) (fun _=>h2) (hw.trans h3))
 |seq x y ihx ihy=>
  intro fr e fr' hok h ro k base σ a w Q tl hro hf hs hd hba hQ
  unfold dh at hok
  simp only[Bool.and_eq_true]at hok
  unfold aZ at h
  refine wpIn_seq ?_
  cases hx:aZ E call n x fr with
  |none=>rw[hx]at h;cases h
  |some p=>
   obtain⟨e1,fr1⟩:=p
   rw[hx]at h
   refine ihx fr e1 fr1 hok.1 hx ro k base σ a w _ tl hro hf hs hd hba fun σ1 a1 w1 hf1 hd1 hq1 he1=>?_
   have hn:jZ (.seq x y)=true->jZ x=true/\jZ y=true:=fun hh=>by unfold jZ at hh;simp only[Bool.and_eq_true]at hh;exact hh
   cases e1 with
   |normal=>exact ihy fr1 e fr' hok.2 h ro k base σ1 a1 w1 Q tl (hro.next he1.ext (eB cN.bt x _ _ _ hx)) hf1 he1.nW hd1 (Nat.le_trans hba he1.hle) fun σ2 a2 w2 hf2 hd2 hq2 he2=>hQ σ2 a2 w2 hf2 hd2 (fun x=>(hq2 (hn x).2).trans (hq1 (hn x).1)) (he1.trans he2)
   |exit id=>cases h;exact hQ σ1 a1 w1 hf1 hd1 (fun x=>hq1 (hn x).1) he1
   |ret=>cases h;exact hQ σ1 a1 w1 hf1 hd1 (fun x=>hq1 (hn x).1) he1
 |cond c x y ihx ihy=>
  intro fr e fr' hok h ro k base σ a w Q tl hro hf hs hd hba hQ
  unfold dh at hok
  simp only[Bool.and_eq_true]at hok
  unfold aZ at h
  have hc:=hf.Aj hs hok.1
  cases hv:ev fr.T c with
  |bool t=>
   rw[hv]at h hc
   refine wpIn_cond hc.bool ?_
   cases t with
   |true=>exact ihx fr e fr' hok.2.1 h ro k base σ a w Q tl hro hf hs hd hba fun σ' a' w' q1 q2 q3=>hQ σ' a' w' q1 q2 fun hh=>q3 (by unfold jZ at hh;simp only[Bool.and_eq_true]at hh;exact hh.1)
   |false=>exact ihy fr e fr' hok.2.2 h ro k base σ a w Q tl hro hf hs hd hba fun σ' a' w' q1 q2 q3=>hQ σ' a' w' q1 q2 fun hh=>q3 (by unfold jZ at hh;simp only[Bool.and_eq_true]at hh;exact hh.2)
  |_=>rw[hv]at h;cases h
 |block id c ih=>
  intro fr e fr' hok h ro k base σ a w Q tl hro hf hs hd hba hQ
  unfold dh at hok
  unfold aZ at h
  refine wpIn_block ?_
  cases hc:aZ E call n c fr with
  |none=>rw[hc]at h;cases h
  |some p=>
   obtain⟨e1,fr1⟩:=p
   rw[hc]at h
   refine ih fr e1 fr1 hok hc ro k base σ a w _ tl hro hf hs hd hba fun σ1 a1 w1 hf1 hd1 hq1 he1=>?_
   have hq1:jZ (.block id c)=true->a1.defers=a.defers:=fun hh=>hq1 (by unfold jZ at hh;exact hh)
   cases e1 with
   |normal=>cases h;exact hQ σ1 a1 w1 hf1 hd1 hq1 he1
   |exit id'=>
    simp only at h
    simp only[Ex.to,Exit.inBlock]
    by_cases hid:id'=id
    ·subst hid
     simp only[Nat.beq_refl,cond_true,Option.some.injEq,Prod.mk.injEq]at h
     obtain⟨rfl,rfl⟩:=h
     rw[if_pos rfl]
     exact hQ σ1 a1 w1 hf1 hd1 hq1 he1
    ·rw[fH hid]at h
     simp only[cond_false,Option.some.injEq,Prod.mk.injEq]at h
     obtain⟨rfl,rfl⟩:=h
     rw[if_neg hid]
     exact hQ σ1 a1 w1 hf1 hd1 hq1 he1
   |ret=>cases h;exact hQ σ1 a1 w1 hf1 hd1 hq1 he1
 |loop c ih=>
  intro fr e fr' hok h
  unfold dh at hok
  unfold aZ at h
  exact Aq (c:=c) (fun fr e fr' hb=>eB cN.bt c fr e fr' hb) (fun fr e fr' hb=>ih fr e fr' hok hb) h
 |scope c ih=>
  intro fr e fr' hok h ro k base σ a w Q tl hro hf hs hd hba hQ
  unfold dh at hok
  unfold aZ at h
  refine zB (ih fr e fr' hok h ro k base σ a w _ tl hro hf hs hd hba fun σ' a' w' q1 q2 q3 q4=>?_)
  have:=hQ σ' a' w' q1 q2 (fun hh=>q3 (by unfold jZ at hh;exact hh)) q4
  cases e <;>exact this
 |exit id=>
  intro fr e fr' _ h ro k base σ a w Q tl hro hf hs hd hba hQ
  cases h
  exact wpIn_exit (hQ σ a w hf hd (fun _=>rfl) (Ev.refl hs))
 |ret=>
  intro fr e fr' _ h ro k base σ a w Q tl hro hf hs hd hba hQ
  cases h
  exact wpIn_ret (hQ σ a w hf hd (fun _=>rfl) (Ev.refl hs))
 |rangeFunc g ps assign body _ _=>
  intro fr e fr' hok h ro k base σ a w Q tl hro hf hs hd hba hQ
  unfold dh at hok
  simp only[Bool.and_eq_true]at hok
  obtain⟨ok1,ok2,ok5,ok6⟩:=hok
  unfold aZ at h
  have hg:=hf.Aj hs ok1
  split at h
  ·rename_i f first captured hgv
   rw[hgv]at hg
   cases hc:call (.func f) (first.toList++(.func (.yield fr.m.n) #[] #[]::captured.toList)) (fr.m.push (.loop ⟨fr.T,ps,assign,body,.ready,none,E.G⟩))with
   |none=>rw[hc]at h;cases h
   |some p=>
    obtain⟨v,m⟩:=p
    rw[hc]at h
    simp only at h
    split at h
    ·rename_i r hr
     have hfin:r.st≠.busy/\e=r.ov.getD .normal/\fr'={fr with m:=m.set fr.m.n (.loop {r with st:=.exhausted})}:=by
      split at h
      ·cases h
      ·rename_i hb
       cases h
       exact⟨hb,rfl,rfl⟩
     obtain⟨hnb,rfl,rfl⟩:=hfin
     have hfv:∃first' captured',a.eval g=.func (.func f) first' captured'/\aU σ first.toList first'.toList/\aU σ captured.toList captured'.toList:=hg.sC
     obtain⟨first',captured',hev,hl1,hl2⟩:=hfv
     refine wpIn_rangeFunc fun fn _=>?_
     obtain⟨wa,mark,D,henter,hea,hmark⟩:∃(wa:World) (mark:List Deferred) (D:Nat),
       (Instr.enterLoop fn a.tmps ps assign body (dO ro).round).run P w=.ok (wa.heap.size,mark) (wa.alloc (.loop {state:=.ready,pending:=none,fn,tmps:=a.tmps,params:=ps,assign,body,defers:=D}))/\
       Ev P σ fr.m w σ fr.m wa/\∀σ' m' W',Ev P σ fr.m wa σ' m' W'->wF base σ' W' tl (mark++a.defers):=by
      rcases hro with rfl |⟨l,i,r0,rfl,hl,hlr⟩
      ·refine⟨w.alloc (.deferred (some [])),[{target:=.collected w.heap.size,args:= #[]}],w.heap.size,?_,Ev.extra hs _,fun σ' m' W' hevx=>?_⟩
       ·have hsz:(w.alloc (.deferred (some []))).heap.size=w.heap.size+1:=by simp
        rw[hsz]
        exact run_enterLoop_outer fn a.tmps ps assign body
       ·obtain⟨ms,hms,hd⟩:=hd
        refine⟨[{target:=.collected w.heap.size,args:= #[]}]++ms,by rw[hms,List.append_assoc],?_⟩
        have h0:jV base σ (w.alloc (.deferred (some []))) ([{target:=.collected w.heap.size,args:= #[]}]++ms):=by
         refine⟨⟨w.heap.size,rfl,hba,heap_alloc_new w _,fun b i hb=>?_,fun d' hd' e=>?_⟩,hd.ev (Ev.extra hs _)⟩
         ·have:=hs.lt b i hb;omega
         ·obtain⟨r2,h1,h2⟩:=hd.lt d' hd'
          rw[e]at h1
          cases h1
          omega
        exact h0.ev hevx
      ·have ho:=hs.obj _ _ hl
       rw[hlr]at ho
       obtain⟨_,r0',_,hr0,_⟩:=ho
       exact⟨w,[],r0'.defers,run_enterLoop_inner hr0 fn a.tmps ps assign body,Ev.refl hs,fun σ' m' W' hevx=>hd.ev hevx⟩
     let rec0:Loop:={state:=.ready,pending:=none,fn,tmps:=a.tmps,params:=ps,assign,body,defers:=D}
     let w1:=wa.alloc (.loop rec0)
     have heb:Ev P σ fr.m wa (σ.add fr.m.n ⟨wa.heap.size,none⟩) (fr.m.push (.loop ⟨fr.T,ps,assign,body,.ready,none,E.G⟩)) w1:=by
      refine Ev.mA hea.nW ⟨rfl,rec0,nt,heap_alloc_new wa _,rfl,rfl,rfl,rfl,rfl,hf.1,fun t ht=>?_,?_,?_,?_,by simp⟩
      ·exact(hf.2 t ht).mono (Sg.pP hea.nW.jb)
      ·rw[hE.G];exact ok5
      ·rw[hE.G];exact ok6
      ·intro p hp
       have:=List.all_eq_true.1 ok2 p hp
       rw[dX]at this
       simpa using this
     have hab:=hea.trans heb
     have hyield:aJ (σ.add fr.m.n ⟨wa.heap.size,none⟩) (.func (.yield fr.m.n) #[] #[]) (.func (.yield wa.heap.size) #[] #[]):=
      .yield fr.m.n ⟨wa.heap.size,none⟩ (Sg.add_same _ _)
     have hle:=hab.ext
     obtain⟨hcalls,hrun⟩:=cN.func f _ _ v m hc _ w1 (first'++ #[.func (.yield wa.heap.size) #[] #[]]++captured') heb.nW (by
      simp only[Array.toList_append,List.append_assoc,List.singleton_append]
      exact(hl1.mono hle).append (aU.cons hyield (hl2.mono hle)))
     refine⟨wa.heap.size,mark,w1,{target:=.fn (.func f) captured',args:=first'++ #[.func (.yield wa.heap.size) #[] #[]]},w1,f,_,w1,
      henter,?_,fun _ _=>trivial,hrun,fun hh=>by simp[dO,Fence.wide]at hh,?_⟩
     ·have hm:Array.map a.eval #[Operand.const (Value.func (Fn.yield wa.heap.size) #[] #[])]= #[Value.func (Fn.yield wa.heap.size) #[] #[]]:=by simp[Act.eval]
      simp only[resolve,hev,Deferred.ofValue,Sem.run_pure,hm]
     ·have hc2:CallsIn (dO ro) (k-1) P f (first'++ #[.func (.yield wa.heap.size) #[] #[]]++captured') w1 (cC P (σ.add fr.m.n ⟨wa.heap.size,none⟩) (fr.m.push (.loop ⟨fr.T,ps,assign,body,.ready,none,E.G⟩)) w1 v m):=
       ⟨trivial,fun cs _=>hcalls.2 cs (room_wide _)⟩
      refine hc2.mono fun e w3 he=>?_
      obtain⟨v',σ2,rfl,_,hec⟩:=he
      have hl2':σ2 fr.m.n=some ⟨wa.heap.size,none⟩:=hec.ext _ _ (Sg.add_same _ _)
      have ho:=hec.nW.obj _ _ hl2'
      rw[hr]at ho
      obtain⟨hgr,r',nt',q1,q2,q3,q4,q5,q6,q7,q8,q9,Lt,q13,q14⟩:=ho
      have q1:w3.heap[wa.heap.size]?=some (.loop r'):=q1
      have hw4:Ev P σ2 m w3 σ2 (m.set fr.m.n (.loop {r with st:=.exhausted})) (w3.putObj wa.heap.size (.loop {r' with state:=.exhausted})):=by
       have hlt:wa.heap.size < w3.heap.size:=(Array.getElem?_eq_some_iff.1 q1).1
       refine Ev.write hec.nW hl2' (by rw[hr];simp) ⟨rfl,{r' with state:=.exhausted},nt',?_,rfl,q3,q4,q5,q6,q7,q8,q9,Lt,q13,q14⟩ ?_ (by simp) rfl rfl rfl
       ·show(w3.putObj wa.heap.size _).heap[wa.heap.size]?=_
        exact World.putObj_heap_same hlt
       ·intro B hB
        exact World.putObj_heap_other fun e=>hB e
      have htot:=(hab.trans hec).trans hw4
      have hdef:=hmark _ _ _ ((heb.trans hec).trans hw4)
      refine⟨r'.pending,_,run_endLoop q1 (by rw[q2];exact hnb),?_⟩
      have hQ':=hQ σ2 {a with defers:=mark++a.defers} _ ⟨hf.1,fun t ht=>(hf.2 t ht).mono htot.ext⟩ hdef (fun hh=>by simp[jZ]at hh) htot
      generalize w3.putObj wa.heap.size (.loop {r' with state:=.exhausted})=W4 at hQ'⊢
      rw[q3]
      cases hp:r.ov with
      |none=>rw[hp]at hQ';exact hQ'
      |some e=>
       rw[hp]at hQ'
       cases e with
       |normal=>exact absurd hp q14
       |exit id=>exact wpIn_exit hQ'
       |ret=>exact wpIn_ret hQ'
    ·cases h
  ·cases h
 |_=>intro fr e fr' _ h;simp[aZ]at h
end
end Go.D
namespace Go.D
open Go
section
variable {E:Env} {P:Program} {call:aF} {nt:Nat} {σ σ':Sg} {m m':M} {w w':World} {a:Act}
theorem zo:∀(l:List Value) (i t:Nat),gk (enter l i) t=if t < i then undef else(l[t-i]?).getD undef
 |[],i,t=>by
  unfold enter gk
  rw[Tr.sB]
  by_cases h:t < i <;>simp[h]
 |v::l,i,t=>by
  unfold enter
  have ih:=zo l (i+1) t
  unfold gk at ih⊢
  rw[Tr.bL]
  by_cases h:t=i
  ·subst h;simp
  ·rw[if_neg h,ih]
   by_cases h1:t < i
   ·rw[if_pos (by omega),if_pos h1]
   ·rw[if_neg (by omega),if_neg h1]
    have:t-i=(t-(i+1))+1:=by omega
    rw[this]
    simp
theorem pX{args:List Value}{args':Array Value}(h:aU σ args args'.toList)(hn:args.length<=nt):
  dp σ (enter args 0) {tmps:=args'++Array.replicate (nt-args'.size) undef,defers:=[]} nt:=by
 have hl:=h.1
 simp only[Array.length_toList]at hl
 refine⟨by simp;omega,fun t ht=>?_⟩
 rw[zo,if_neg (by omega),Nat.sub_zero]
 simp only[Act.eval]
 by_cases hta:t < args'.size
 ·have h1:args[t]?=some args[t]:=by simp[show t < args.length by omega]
  obtain⟨u',hu,hr⟩:=h.get h1
  have hu':args'[t]?=some u':=by simpa using hu
  rw[h1,Option.getD_some,Array.getD_eq_getD_getElem?,Array.getElem?_append_left hta,hu']
  exact hr
 ·rw[List.getElem?_eq_none (by omega),Option.getD_none,Array.getD_eq_getD_getElem?,Array.getElem?_append_right (by omega),Array.getElem?_replicate]
  split <;>exact aJ.undef
theorem qA(hE:E.OK P)(hs:dN P σ m w){T:Tr Value}(hf:dp σ T a nt){r:ResultVar}(hr:(match r with |.tmp t=>Nat.blt t nt |.cell a _=>Nat.blt a nt)=true){v:Value}(h:iY E T m r=some v):
  ∃v',((match r with |.tmp t=>pure (a.tmps.getD t undef) |.cell x t=>do Go.loadVar t (<-asAddr (a.tmps.getD x undef))):Sem Value).run P w=.ok v' w/\aJ σ v v':=by
 unfold iY at h
 cases r with
 |tmp t=>
  cases h
  have hr:Nat.blt t nt=true:=hr
  rw[dX]at hr
  exact⟨_,rfl,hf.2 t (by simpa using hr)⟩
 |cell x t=>
  have hr:Nat.blt x nt=true:=hr
  rw[dX]at hr
  have hx:=hf.2 x (by simpa using hr)
  dsimp only at h
  split at h
  ·rename_i ad had
   rw[had]at hx
   obtain⟨i,hi,_,he⟩:=hx.dV
   have he:a.tmps.getD x undef=_:=he
   obtain⟨v',h1,h2,_⟩:=mV (w:=w) hE hs hi h
   refine⟨v',?_,h2⟩
   dsimp only
   rw[he,Sem.run_bind]
   simp only[asAddr,Sem.run_pure,Result.andThen_ok]
   exact h1
  ·cases h
theorem mS(hE:E.OK P)(hs:dN P σ m w){T:Tr Value}(hf:dp σ T a nt):∀(rs:List ResultVar) (vs:List Value),(∀r∈rs,(match r with |.tmp t=>Nat.blt t nt |.cell a _=>Nat.blt a nt)=true)->eQ E T m rs=some vs->
  ∃vs':List Value,(rs.mapM (m:=Sem) fun |.tmp t=>pure (a.tmps.getD t undef) |.cell x t=>do Go.loadVar t (<-asAddr (a.tmps.getD x undef))).run P w=.ok vs' w/\aU σ vs vs'
 |[],vs,_,h=>by
  simp only[eQ,Option.some.injEq]at h
  subst h
  exact⟨[],rfl,aU.nil⟩
 |r::rs,vs,hr,h=>by
  unfold eQ at h
  cases h1:iY E T m r with
  |none=>rw[h1]at h;simp at h
  |some v=>
   cases h2:eQ E T m rs with
   |none=>rw[h1,h2]at h;simp at h
   |some vs1=>
    rw[h1,h2]at h
    simp only[Option.some.injEq]at h
    subst h
    obtain⟨v',q1,q2⟩:=qA hE hs hf (hr r List.mem_cons_self) h1
    obtain⟨vs',q3,q4⟩:=mS hE hs hf rs vs1 (fun r h=>hr r (List.mem_cons_of_mem _ h)) h2
    refine⟨v'::vs',?_,aU.cons q2 q4⟩
    rw[List.mapM_cons,Sem.run_bind]
    generalize hG:Sem.run P _ w=G
    have hG:G=.ok v' w:=hG.symm.trans q1
    rw[hG,Result.andThen_ok,Sem.run_bind,q3]
    rfl
theorem oo(hE:E.OK P)(hs:dN P σ m w){T:Tr Value}{fn:Func}(hf:dp σ T a nt)(hr:∀r∈fn.results.toList,(match r with |.tmp t=>Nat.blt t nt |.cell a _=>Nat.blt a nt)=true){v:Value}(h:result? E fn T m=some v):
  ∃v',(results fn a.tmps).run P w=.ok v' w/\aJ σ v v':=by
 unfold result? at h
 cases h1:eQ E T m fn.results.toList with
 |none=>rw[h1]at h;simp at h
 |some vs=>
  rw[h1]at h
  obtain⟨vs',q1,q2⟩:=mS hE hs hf fn.results.toList vs hr h1
  refine⟨if h:vs'.toArray.size=1 then vs'.toArray[0]else .tuple vs'.toArray,?_,?_⟩
  ·unfold results
   rw[Array.mapM_eq_mapM_toList]
   rw[Sem.run_bind,Sem.run_map]
   generalize hG:Sem.run P (List.mapM _ _) w=G
   have hG:G=.ok vs' w:=hG.symm.trans q1
   rw[hG]
   rfl
  ·split at h
   ·rename_i v1 hv1
    cases hv1
    cases h
    obtain⟨v',l2,rfl,hv,hl⟩:=q2.cases
    obtain rfl:=hl.nil_eq
    simpa using hv
   ·rename_i vs1 hne hv1
    cases hv1
    cases h
    have hlen:¬vs'.toArray.size=1:=by
     intro hl
     have:vs.length=1:=by rw[q2.1];simpa using hl
     obtain⟨x,rfl⟩:=List.length_eq_one_iff.1 this
     exact hne x rfl
    rw[dif_neg hlen]
    exact q2.tuple
   ·rename_i hv1;cases hv1
theorem Ev.By(h:Ev P σ {m with low:=m.n} w σ' m' w'):Ev P σ m w σ' {m' with low:=min m.low m'.low} w' where
 ext:=h.ext
 nW:=h.nW.low _
 low:=Nat.min_le_left _ _
 EG:=h.EG
 hle:=h.hle
 new:=fun b i x y=>by
  obtain⟨h1,h2⟩:=h.new b i x y
  refine⟨h1,h2.imp id ?_⟩
  rintro⟨b0,i0,p,q,r⟩
  exact⟨b0,i0,p,q,by dsimp only;omega⟩
 abs:=fun b x y=>h.abs b (by dsimp only at x;omega) y
 heap:=fun B x y=>h.heap B x fun b i p q=>by have:=y b i p q;dsimp only at this;omega
 os:=h.os
 tape:=h.tape
 output:=h.output
theorem aJ.qq{v v':Value}(h:aJ σ v v')(h0:bD v=true):v'=v:=by
 by_cases hc:eV v=true
 ·exact h.il hc
 ·cases v with
  |tuple vs=>
   obtain⟨a',rfl,ha⟩:=h.py
   congr 1
   apply Array.ext'
   apply List.ext_getElem?
   intro j
   cases hj:vs.toList[j]? with
   |none=>exact List.getElem?_eq_none (by rw[<-ha.1];exact List.getElem?_eq_none_iff.1 hj)
   |some u=>
    obtain⟨u',hu,hr⟩:=ha.get hj
    rw[hu,hr.il (List.all_eq_true.1 h0 u (List.mem_of_getElem? hj))]
  |_=>exact absurd h0 hc
theorem Ev.forget(hs:dN P σ m w)(h:Ev P σ {m with low:=m.n} w σ' m' w')(hl:m.n<=m'.low):Ev P σ m w σ m w':=by
 have hk:∀B,B < w.heap.size->w'.heap[B]?=w.heap[B]?:=fun B hB=>h.heap B hB fun b i p _=>by have:=hs.mI b i p;omega
 have hsz:=h.hle
 refine⟨fun _ _ x=>x,⟨hs.mI,fun b i hb=>(hs.obj b i hb).bt (fun _ _ x=>x) (hk _ (hs.lt b i hb)),fun b i hb=>?_,hs.inj,hs.iy⟩,Nat.le_refl _,Nat.le_refl _,hsz,fun b i x y=>(by rw[x]at y;cases y),fun _ _ _=>rfl,fun B hB _=>hk B hB,h.os,h.tape,h.output⟩
 have:=hs.lt b i hb
 omega
theorem Ev.qc{r:Nat}{o:Obj}(h:Ev P σ m w σ' m' w')(hb:w.heap.size<=r)(hr:∀b i,σ' b=some i->i.cG≠r):Ev P σ m w σ' m' (w'.putObj r o):=by
 have hs:=h.nW
 refine⟨h.ext,⟨hs.mI,fun b i x=>(hs.obj b i x).bt (fun _ _ x=>x) (World.putObj_heap_other (hr b i x)),fun b i x=>by rw[World.putObj_size];exact hs.lt b i x,hs.inj,hs.iy⟩,h.low,h.EG,by rw[World.putObj_size];exact h.hle,h.new,h.abs,fun B x y=>?_,h.os,h.tape,h.output⟩
 rw[World.putObj_heap_other (by omega)]
 exact h.heap B x y
theorem jV.qc{base r:Nat}{o:Obj}:∀{ds:List Deferred},jV base σ w ds->(∀d∈ds,d.target≠.collected r)->jV base σ (w.putObj r o) ds
 |[],_,_=>trivial
 |d::ds,h,hn=>by
  obtain⟨⟨q,h1,h2,h3,h4,h5⟩,h6⟩:=h
  refine⟨⟨q,h1,h2,?_,h4,h5⟩,h6.qc fun d' hd'=>hn d' (List.mem_cons_of_mem _ hd')⟩
  rw[World.putObj_heap_other (fun e=>hn d List.mem_cons_self (by rw[h1,e]))]
  exact h3
theorem iS{fn:Func}{tmps:Array Value}{R:Ending->World->Prop}:∀(ds:List Deferred) (w':World),jV w.heap.size σ' w' ds->Ev P σ m w σ' m' w'->
  (∀w2,Ev P σ m w σ' m' w2->∃v,(results fn tmps).run P w2=.ok v w2/\R (.returned v) w2)->LeavesInM Fence.wide 0 P fn tmps R ds .returning w'
 |[],w',_,he,h=>h w' he
 |d::ds,w',hd,he,h=>by
  obtain⟨⟨r,h1,h2,h3,h4,h5⟩,h6⟩:=hd
  exact⟨by simp,.inl ⟨r,_,h1,run_takeDeferred h3,iS ds _ (h6.qc h5) (he.qc h2 h4) h⟩⟩
theorem mW{fn:Func}{tmps:Array Value}{R:Ending->World->Prop}{rest:List Deferred}{base:Nat}{K:World->Prop}(hK:∀w r o,base<=r->(∀b i,σ' b=some i->i.cG≠r)->K w->K (w.putObj r o))(hb:w.heap.size<=base):
  ∀(ds:List Deferred) (w':World),jV base σ' w' ds->Ev P σ m w σ' m' w'->K w'->
  (∀w2,Ev P σ m w σ' m' w2->K w2->LeavesInM Fence.wide 0 P fn tmps R rest .returning w2)->LeavesInM Fence.wide 0 P fn tmps R (ds++rest) .returning w'
 |[],w',_,he,hk,h=>h w' he hk
 |d::ds,w',hd,he,hk,h=>by
  obtain⟨⟨r,h1,h2,h3,h4,h5⟩,h6⟩:=hd
  exact⟨by simp,.inl ⟨r,_,h1,run_takeDeferred h3,mW hK hb ds _ (h6.qc h5) (he.qc (Nat.le_trans hb h2) h4) (hK _ _ _ h2 h4 hk) h⟩⟩
theorem uk(hE:E.OK P){fn:Func}{fr:Fr}{v:Value}(h:AB E fn m fr=some (v,m'))(hok:(fn.results.toList.all fun |.tmp t=>Nat.blt t nt |.cell a _=>Nat.blt a nt)=true)
  (hs:dN P σ m w) (hf:dp σ' fr.T a nt) (he:Ev P σ {m with low:=m.n} w σ' fr.m w'):∃v',(results fn a.tmps).run P w'=.ok v' w'/\cC P σ m w v m' (.returned v') w':=by
 unfold AB at h
 cases hr:result? E fn fr.T fr.m with
 |none=>rw[hr]at h;cases h
 |some v1=>
  rw[hr]at h
  dsimp only at h
  obtain⟨v',q1,q2⟩:=oo hE he.nW hf (fun r hr=>by
   have:=List.all_eq_true.1 hok r hr
   cases r <;>exact this) hr
  refine⟨v',q1,?_⟩
  cases hb:(bD v1 && Nat.ble m.n fr.m.low)with
  |true=>
   rw[hb]at h
   cases h
   simp only[Bool.and_eq_true]at hb
   have hv':=q2.qq hb.1
   subst hv'
   exact⟨_,σ,rfl,aJ.eH hb.1,Ev.forget hs he (Nat.le_of_ble_eq_true hb.2)⟩
  |false=>
   rw[hb]at h
   cases h
   exact⟨_,σ',rfl,q2,he.By⟩
theorem kE(hE:E.OK P)(cN:cQ P call){n:Nat}:∀(pre:List Code) (c2:Code) (fr:Fr) (e:Ex) (fr':Fr),dh nt P.globals.size (jo pre c2)=true->pT (aZ E call n) pre fr=some (e,fr')->
  ∀(k base:Nat) (σ:Sg) (a:Act) (w:World) (Q:Exit->Act->World->Prop) (tl:List Deferred),dp σ fr.T a nt->dN P σ fr.m w->wF base σ w tl a.defers->base<=w.heap.size->
  (∀σ' a' w',dp σ' fr'.T a' nt->wF base σ' w' tl a'.defers->Ev P σ fr.m w σ' fr'.m w'->match e with |.normal=>c2.wpIn (dO none) k P Q a' w' |e=>Q e.to a' w')->(jo pre c2).wpIn (dO none) k P Q a w
 |[],c2,fr,e,fr',_,h=>fun k base σ a w Q tl hf hs hd _ hQ=>by
  cases h
  exact hQ σ a w hf hd (Ev.refl hs)
 |c::pre,c2,fr,e,fr',hok,h=>fun k base σ a w Q tl hf hs hd hba hQ=>by
  unfold jo dh at hok
  simp only[Bool.and_eq_true]at hok
  unfold pT at h
  unfold jo
  refine wpIn_seq ?_
  cases hc:aZ E call n c fr with
  |none=>rw[hc]at h;cases h
  |some p=>
   obtain⟨e1,fr1⟩:=p
   rw[hc]at h
   refine gN hE cN c fr e1 fr1 hok.1 hc none k base σ a w _ tl (.inl rfl) hf hs hd hba fun σ1 a1 w1 hf1 hd1 _ he1=>?_
   cases e1 with
   |normal=>exact kE hE cN pre c2 fr1 e fr' hok.2 h k base σ1 a1 w1 Q tl hf1 he1.nW hd1 (Nat.le_trans hba he1.hle) fun σ2 a2 w2 hf2 hd2 he2=>hQ σ2 a2 w2 hf2 hd2 (he1.trans he2)
   |exit id=>cases h;exact hQ σ1 a1 w1 hf1 hd1 he1
   |ret=>cases h;exact hQ σ1 a1 w1 hf1 hd1 he1
theorem mT:∀(pre:List Code) (c:Code) {n G:Nat},dh n G (jo pre c)=true->dh n G c=true
 |[],_,_,_,h=>h
 |_::pre,c,n,G,h=>by
  unfold jo dh at h
  simp only[Bool.and_eq_true]at h
  exact mT pre c h.2
theorem tO{f:FuncId}{fn:Func}{body:Code}{args':Array Value}(hfs:P.funcs[f]?=some fn)(hb:fn.body=some body)(hok:iP P.globals.size fn=true):(callFunc f args').run P w=.ok (.enter f args') w:=by
 unfold iP at hok
 simp only[Bool.and_eq_true]at hok
 have hne:(fn.name== "runtime.NumGoroutine")=false:=by simpa using hok.2.1
 unfold callFunc
 simp only[Sem.run_bind,run_program,Result.andThen_ok,hfs,hne,hb]
 rfl
theorem rF{ops:Array Oper}(hops:∀o∈ops.toList,fG nt P.globals.size o=true){n:Nat}{c₀:Frame}{cs:List Frame}(hu:c₀.mode=.returning)(hs:dN P σ m w){Q:Exit->Act->List Frame->World->Prop}{ds:List Deferred}{T':Tr Value}:
  ∀(l:List Oper) (i:Nat) (T:Tr Value) (a:Act),(∀j o,l[j]?=some o->ops[i+j]?=some o)->kH l T=some T'->dp σ T a nt->a.defers=ds->
  (∀a',dp σ T' a' nt->a'.defers=ds->Q .normal a' (c₀::cs) w)->wpOpsSIn Fence.wide n P ops Q (List.range' i l.length) a (c₀::cs) w
 |[],i,T,a,_,h,hf,hd,hQ=>by
  cases h
  simp only[List.length_nil,List.range'_zero,wpOpsSIn]
  exact hQ a hf hd
 |o::l,i,T,a,hi,h,hf,hd,hQ=>by
  have ho:ops[i]?=some o:=by have:=hi 0 o rfl;simpa using this
  have hmem:o∈ops.toList:=by simpa using Array.mem_of_getElem? ho
  have hokj:=hops o hmem
  have next:∀(v v':Value),kH l (put T o.dst v)=some T'->aJ σ v v'->wpOpsSIn Fence.wide n P ops Q (List.range' (i+1) l.length) (a.put o.dst v') (c₀::cs) w:=fun v v' h1 h2=>
   rF hops hu hs l (i+1) _ _ (fun j o' hj=>by have:=hi (j+1) o' (by simpa using hj);rw[show i+1+j=i+(j+1) by omega];exact this) h1 (hf.put (eu hokj) h2) (by rw[put_defers];exact hd) hQ
  simp only[List.length_cons,List.range'_succ,wpOpsSIn,ho]
  refine⟨fun _ _=>trivial,?_⟩
  unfold kH at h
  have hw:o.guard=none->Region.wanted o (yielded ops a.tmps)=true:=by
   intro hg
   unfold Region.wanted
   rw[hg]
  have hopnd:∀x∈o.op.operands.toList,aJ σ (ev T x) (a.eval x):=fun x hx=>hf.Aj hs (fF hokj x hx)
  split at h
  ·rename_i c hg hop
   rw[if_pos (hw hg)]
   split at h
   ·rename_i hc
    cases hem:c.args.toList.isEmpty with
    |false=>rw[hem]at h;cases h
    |true=>
     rw[hem]at h
     simp only[cond_true]at h
     have hrun:(execOp a.eval o).run P w=.ok .recover w:=by
      unfold execOp
      rw[hop]
      unfold resolve
      dsimp only
      rw[hc]
      simp only[Sem.run_bind,Sem.run_pure,Result.andThen_ok,invoke,Go.builtin]
     rw[hrun]
     have hrec:recoverD (c₀::cs)=none:=by simp[recoverD,hu]
     simp only[hrec]
     exact next .nilIface .nilIface h (.flat _ rfl)
   ·cases h
  ·rename_i x hg hop
   rw[if_pos (hw hg)]
   have hrun:(execOp a.eval o).run P w=.ok (.value (a.eval x)) w:=by
    unfold execOp
    rw[hop]
    rfl
   rw[hrun]
   exact next _ _ h (hopnd x (by rw[hop];simp[Op.operands]))
  ·rename_i x hg hop
   rw[if_pos (hw hg)]
   have hrun:(execOp a.eval o).run P w=.ok (.value (a.eval x)) w:=by
    unfold execOp
    rw[hop]
    rfl
   rw[hrun]
   exact next _ _ h (hopnd x (by rw[hop];simp[Op.operands]))
  ·cases h
theorem Eo(hE:E.OK P)(cN:cQ P call){n:Nat}{g:Nat}{args:List Value}{m3:M}(h:AQ E (aZ E call n) g args m=some m3){args':Array Value}(hs:dN P σ m w)(hl:aU σ args args'.toList):
  CallsDIn Fence.wide 0 P g args' .returning w (fun e u' w'=>u'=.returning/\∃v,e=.returned v/\∃σ',Ev P σ m w σ' m3 w')/\(callFunc g args').run P w=.ok (.enter g args') w:=by
 unfold AQ at h
 split at h
 ·rename_i c hc
  obtain⟨hfs,hbody⟩:=hE.cl g c hc
  have hok:=hE.O8 hc
  refine⟨?_,tO hfs hbody hok⟩
  unfold iP at hok
  rw[hbody]at hok
  simp only[Bool.and_eq_true]at hok
  cases hb:(Nat.ble args.length c.fn.ntmps && (c.fn.results.toList.isEmpty && jZ c.rest))with
  |false=>rw[hb]at h;cases h
  |true=>
   rw[hb]at h
   simp only[cond_true]at h
   simp only[Bool.and_eq_true,List.isEmpty_iff]at hb
   obtain⟨hle,hres,hno⟩:=hb
   have hle:=Nat.le_of_ble_eq_true hle
   have hcode:=hok.1
   unfold dh at hcode
   simp only[Bool.and_eq_true]at hcode
   have hreg:=hcode.1
   unfold dh at hreg
   simp only[Bool.and_eq_true]at hreg
   have hops:∀o∈c.ops.toList,fG c.fn.ntmps P.globals.size o=true:=List.all_eq_true.1 hreg.1
   have hent:=pX (nt:=c.fn.ntmps) hl hle
   split at h
   ·rename_i T hT
    have fin:∀(e:Ex) (fr:Fr),e=.normal\/e=.ret->aZ E call n c.rest {T:=T,m:={m with low:=m.n}}=some (e,fr)->m3={fr.m with low:=min m.low fr.m.low}->
      CallsDIn Fence.wide 0 P g args' .returning w (fun e u' w'=>u'=.returning/\∃v,e=.returned v/\∃σ',Ev P σ m w σ' m3 w'):=by
     intro e fr hcase hex hm
     subst hm
     refine callsDIn_of_wpSIn hfs hbody trivial fun c₀ cs hu=>wpSIn_seq (wpSIn_region ?_)
     rw[List.range_eq_range',<-Array.length_toList]
     refine rF (nt:=c.fn.ntmps) hops hu hs c.ops.toList 0 _ _ (fun j o hj=>by simpa using hj) hT hent rfl fun a' hf' hd'=>?_
     refine wpSIn_of_wpIn rfl ?_
     refine gN hE cN c.rest _ e fr hcode.2 hex none 0 w.heap.size σ a' w _ [] (.inl rfl) hf' (hs.low m.n) ⟨[],by rw[hd'];rfl,trivial⟩ (Nat.le_refl _) fun σ1 a1 w1 hf1 hd1 hq1 he1=>?_
     have hdef:a1.defers=[]:=(hq1 hno).trans hd'
     have hr0:(results c.fn a1.tmps).run P w1=.ok (.tuple #[]) w1:=by
      have:c.fn.results= #[]:=Array.eq_empty_of_size_eq_zero (by rw[<-Array.length_toList,hres];rfl)
      unfold results
      rw[this]
      simp
     have hc0:c₀::cs={c₀ with mode:=.returning}::cs:=by rw[<-hu]
     have hq:a1.defers=[]/\∃u',c₀::cs={c₀ with mode:=u'}::cs/\∃v,(results c.fn a1.tmps).run P w1=.ok v w1/\
       (u'=.returning/\∃v',Ending.returned v=.returned v'/\∃σ',Ev P σ m w σ' {fr.m with low:=min m.low fr.m.low} w1):=
      ⟨hdef,.returning,hc0,_,hr0,rfl,_,rfl,σ1,he1.By⟩
     rcases hcase with rfl |rfl <;>exact hq
    split at h
    ·cases h
    ·cases h
    ·rename_i e fr hne hex
     cases h
     refine fin e fr ?_ hex rfl
     cases e with
     |normal=>exact .inl rfl
     |ret=>exact .inr rfl
     |exit id=>exact absurd rfl (hne id)
   ·cases h
 ·cases h
theorem zl(hE:E.OK P)(cN:cQ P call){n:Nat}{f:FuncId}{d:Nl}(hd:E.df.get f=some d){args:List Value}{v:Value}(h:sQ E (aZ E call n) d args m=some (v,m')){args':Array Value}(hs:dN P σ m w)(hl:aU σ args args'.toList):
  CallsIn Fence.wide 0 P f args' w (cC P σ m w v m')/\(callFunc f args').run P w=.ok (.enter f args') w:=by
 obtain⟨hfs,hbody⟩:=hE.df f d hd
 have hok:=hE.O7 hd
 refine⟨?_,tO hfs hbody hok⟩
 unfold iP at hok
 rw[hbody]at hok
 simp only[Bool.and_eq_true]at hok
 unfold sQ at h
 cases hle:Nat.ble args.length d.fn.ntmps with
 |false=>rw[hle]at h;cases h
 |true=>
  rw[hle]at h
  simp only[cond_true]at h
  have hle:=Nat.le_of_ble_eq_true hle
  have hent:=pX (nt:=d.fn.ntmps) hl hle
  have hs0:=hs.low m.n
  have hcode:=mT _ _ hok.1
  unfold dh at hcode
  simp only[Bool.and_eq_true]at hcode
  have hreg:=hcode.1
  unfold dh at hreg
  simp only[Bool.and_eq_true]at hreg
  have hops:∀o∈(#[d.mf,d.de]:Array Oper).toList,fG d.fn.ntmps P.globals.size o=true:=List.all_eq_true.1 hreg.1
  refine callsIn_of_wp_marks hfs hbody trivial ?_
  split at h
  ·
   rename_i fr hex
   refine kE hE cN d.pre _ _ .ret fr hok.1 hex 0 w.heap.size σ _ w _ [] hent hs0 ⟨[],rfl,trivial⟩ (Nat.le_refl _) fun σ1 a1 w1 hf1 hd1 he1=>?_
   obtain⟨ms,hms,hdo⟩:=hd1
   have hms:a1.defers=ms:=by rw[hms,List.append_nil]
   show LeavesInM Fence.wide 0 P d.fn a1.tmps (cC P σ m w v m') a1.defers .returning w1
   rw[hms]
   exact iS ms w1 hdo he1 fun w2 he2=>uk hE h hok.2.2 hs hf1 he2
  ·rename_i fr hex
   refine kE hE cN d.pre _ _ .normal fr hok.1 hex 0 w.heap.size σ _ w _ [] hent hs0 ⟨[],rfl,trivial⟩ (Nat.le_refl _) fun σ1 a1 w1 hf1 hd1 he1=>?_
   obtain⟨ms1,hms1,hdo1⟩:=hd1
   have hms1:a1.defers=ms1:=by rw[hms1,List.append_nil]
   dsimp only
   split at h
   ·rename_i td g fi ca c hg1 hdst hmf hg2 hde
    split at h
    ·rename_i t hcal
     cases hcond:(Nat.beq t td && (c.args.toList.isEmpty && fi.toList.isEmpty))with
     |false=>rw[hcond]at h;cases h
     |true=>
      rw[hcond]at h
      simp only[cond_true]at h
      simp only[Bool.and_eq_true,List.isEmpty_iff]at hcond
      obtain⟨ht,hca,hfi⟩:=hcond
      obtain rfl:=Nat.eq_of_beq_eq_true ht
      have hfi':fi= #[]:=Array.eq_empty_of_size_eq_zero (by rw[<-Array.length_toList,hfi];rfl)
      have hca':c.args= #[]:=Array.eq_empty_of_size_eq_zero (by rw[<-Array.length_toList,hca];rfl)
      subst hfi'
      have hok1:=hops d.mf (by simp)
      have hok2:=hops d.de (by simp)
      have hcav:aU σ1 (ca.toList.map (ev fr.T)) (ca.toList.map a1.eval):=jg _ (fun o hx=>hf1.Aj he1.nW (fF hok1 o (by rw[hmf];simpa[Op.operands]using hx)))
      let cv:Value:=.func (.func g) #[] (ca.toList.map a1.eval).toArray
      have hcv:aJ σ1 (.func (.func g) #[] (ca.toList.map (ev fr.T)).toArray) cv:=.func g _ _ _ _ rfl (by simp) (fun j u u' p q=>by simp at p) (fun j u u' p q=>hcav.2 j u u' (by simpa using p) (by simpa using q))
      have hma:ca.map a1.eval=(ca.toList.map a1.eval).toArray:=by apply Array.ext';simp
      let dd:Deferred:={target:=.fn (.func g) (ca.toList.map a1.eval).toArray,args:= #[]}
      let a2:Act:=a1.put (some t) cv
      let a3:Act:=({a2 with defers:=dd::a2.defers}:Act).put d.de.dst undef
      have hf2:dp σ1 (put fr.T (some t) (.func (.func g) #[] (ca.toList.map (ev fr.T)).toArray)) a2 d.fn.ntmps:=hf1.put (fun x hx=>eu hok1 x (by rw[hdst];exact hx)) hcv
      have hf3:dp σ1 (put (put fr.T (some t) (.func (.func g) #[] (ca.toList.map (ev fr.T)).toArray)) d.de.dst undef) a3 d.fn.ntmps:=
       dp.put (a:=({a2 with defers:=dd::a2.defers}:Act)) ⟨hf2.1,hf2.2⟩ (eu hok2) aJ.undef
      have htd:t < d.fn.ntmps:=eu hok1 t hdst
      have hev:a2.eval (.tmp t)=cv:=by
       have:t < a1.tmps.size:=by rw[hf1.1];exact htd
       simp[a2,Act.put,Act.eval,this]
      refine wpIn_seq (wpIn_region_list ?_)
      unfold wpListIn
      have hw1:Region.wanted d.mf (yielded #[d.mf,d.de] a1.tmps)=true:=by unfold Region.wanted;rw[hg1]
      rw[if_pos hw1]
      refine⟨fun _ _=>trivial,?_⟩
      rw[Oper.semAt_eq _ _ _ (fun c hc=>by rw[hmf]at hc;cases hc)]
      have hrun1:(execOp a1.eval d.mf).run P w1=.ok (.value cv) w1:=by
       unfold execOp
       rw[hmf]
       simp[Instr.makeFunc,cv,hma]
      rw[hrun1,Oper.uponIn_value]
      unfold wpListIn
      rw[hdst]
      have hw2:Region.wanted d.de (yielded #[d.mf,d.de] (a1.put (some t) cv).tmps)=true:=by unfold Region.wanted;rw[hg2]
      rw[if_pos hw2]
      refine⟨fun _ _=>trivial,?_⟩
      have hrun2:(d.de.semAt (dO none).round a2.eval).run P w1=.ok (.defer dd) w1:=by
       show(d.de.semAt none a2.eval).run P w1=_
       rw[Oper.semAt_none]
       unfold execOp
       rw[hde]
       unfold resolve
       dsimp only
       rw[hcal]
       dsimp only
       rw[hev,hca']
       simp[Deferred.ofValue,cv,dd]
      have hrun2':(d.de.semAt (dO none).round (a1.put (some t) cv).eval).run P w1=.ok (.defer dd) w1:=hrun2
      rw[hrun2',Oper.uponIn_defer]
      unfold wpListIn
      have hdef3:a3.defers=dd::ms1:=by
       show(Act.put _ _ _).defers=_
       rw[put_defers]
       show dd::(a1.put (some t) cv).defers=_
       rw[put_defers,hms1]
      show d.post.wpIn (dO none) 0 P _ a3 w1
      have fin:∀(e:Ex) (fr2:Fr),e=.normal\/e=.ret->aZ E call n d.post {T:=put (put fr.T (some t) (.func (.func g) #[] (ca.toList.map (ev fr.T)).toArray)) d.de.dst undef,m:=fr.m}=some (e,fr2)->
        (match AQ E (aZ E call n) g (ca.toList.map (ev fr.T)) fr2.m with
         |some m3=>AB E d.fn m {fr2 with m:=m3}
         |none=>none)=some (v,m')->d.post.wpIn (dO none) 0 P (bodyPostM Fence.wide 0 P d.fn (cC P σ m w v m')) a3 w1:=by
       intro e fr2 hcase hex2 hres
       refine gN hE cN d.post _ e fr2 hcode.2 hex2 none 0 w1.heap.size σ1 a3 w1 _ (dd::ms1) (.inl rfl) hf3 he1.nW ⟨[],by rw[hdef3];rfl,trivial⟩ (Nat.le_refl _) fun σ2 a4 w2 hf4 hd4 _ he2=>?_
       obtain⟨ms2,hms2,hdo2⟩:=hd4
       have hleave:LeavesInM Fence.wide 0 P d.fn a4.tmps (cC P σ m w v m') a4.defers .returning w2:=by
        rw[hms2]
        have hsz:=he1.hle
        refine mW (K:=fun w'=>Ev P σ1 fr.m w1 σ2 fr2.m w'/\jV w.heap.size σ2 w' ms1) (base:=w1.heap.size) (fun W r o hr hr4 hk=>⟨hk.1.qc hr hr4,hk.2.qc fun d' hd' e=>?_⟩) hsz ms2 w2 hdo2 (he1.trans he2) ⟨he2,hdo1.ev he2⟩ fun w3 he3 hk3=>?_
        ·obtain⟨r',h1,h2⟩:=hdo1.lt d' hd'
         rw[e]at h1
         cases h1
         omega
        ·obtain⟨hk1,hk2⟩:=hk3
         cases hclo:AQ E (aZ E call n) g (ca.toList.map (ev fr.T)) fr2.m with
         |none=>rw[hclo]at hres;cases hres
         |some m3=>
          rw[hclo]at hres
          dsimp only at hres
          obtain⟨hc1,hc2⟩:=Eo (args':= #[]++(ca.toList.map a1.eval).toArray) hE cN hclo he3.nW (by simpa using hcav.mono hk1.ext)
          refine⟨by simp,.inr ⟨fun hh=>by simp[Fence.wide]at hh,.func g,_,g,_,rfl,hc2,fun _ _=>trivial,hc1.mono fun e u' w' hx=>?_⟩⟩
          obtain⟨rfl,v',rfl,σ',hev'⟩:=hx
          exact iS ms1 w' (hk2.ev hev') (he3.trans hev') fun w4 he4=>uk hE hres hok.2.2 hs (hf4.mono hev'.ext) he4
       rcases hcase with rfl |rfl <;>exact hleave
      split at h
      ·cases h
      ·cases h
      ·rename_i e fr2 hne hex2
       refine fin e fr2 ?_ hex2 h
       cases e with
       |normal=>exact .inl rfl
       |ret=>exact .inr rfl
       |exit id=>exact absurd rfl (hne id)
    ·cases h
   ·cases h
  ·cases h
theorem nM(hE:E.OK P){X:aF}(hX:cQ P X){n:Nat}(ih:cQ P (bN E X n)){f:FuncId}{args:List Value}{v:Value}(h:bN E X (n+1) (.func f) args m=some (v,m')){args':Array Value}(hs:dN P σ m w)(hl:aU σ args args'.toList):
  CallsIn Fence.wide 0 P f args' w (cC P σ m w v m')/\(callFunc f args').run P w=.ok (.enter f args') w:=by
 unfold bN at h
 split at h
 ·rename_i r hr
  cases h
  exact hX.func f args m v m' hr σ w args' hs hl
 split at h
 ·split at h
  ·rename_i d hd
   exact zl hE ih hd h hs hl
  ·cases h
 ·rename_i fn hfn
  have hfs:=hE.fn f fn hfn
  have hok:=hE.code hfn
  unfold iP at hok
  simp only[Bool.and_eq_true]at hok
  split at h
  ·cases h
  ·rename_i body hbody
   rw[hbody]at hok
   cases hle:Nat.ble args.length fn.ntmps with
   |false=>rw[hle]at h;simp at h
   |true=>
    rw[hle]at h
    simp only[cond_true]at h
    have hle:=Nat.le_of_ble_eq_true hle
    have hrun:(callFunc f args').run P w=.ok (.enter f args') w:=by
     have hne:(fn.name== "runtime.NumGoroutine")=false:=by simpa using hok.2.1
     unfold callFunc
     simp only[Sem.run_bind,run_program,Result.andThen_ok,hfs,hne,hbody]
     rfl
    refine⟨?_,hrun⟩
    have hs0:=hs.low m.n
    have hent:=pX (nt:=fn.ntmps) hl hle
    have go:∀(e:Ex) (fr:Fr),e=.normal\/e=.ret->aZ E (bN E X n) n body {T:=enter args 0,m:={m with low:=m.n}}=some (e,fr)->
      (match result? E fn fr.T fr.m with
       |none=>none
       |some v=>bif bD v && Nat.ble m.n fr.m.low then some (v,m)else some (v,{fr.m with low:=min m.low fr.m.low}))=some (v,m')->CallsIn Fence.wide 0 P f args' w (cC P σ m w v m'):=by
     intro e fr hcase hex hres
     refine callsIn_of_wp_marks hfs hbody trivial ?_
     refine gN hE ih body _ e fr hok.1 hex none 0 w.heap.size σ _ w _ [] (.inl rfl) hent hs0 ⟨[],rfl,trivial⟩ (Nat.le_refl _) fun σ1 a1 w1 hf1 hd1 _ he1=>?_
     obtain⟨ms,hms,hd1⟩:=hd1
     have hms:a1.defers=ms:=by rw[hms,List.append_nil]
     rw[<-hms]at hd1
     have hleave:LeavesInM Fence.wide 0 P fn a1.tmps (cC P σ m w v m') a1.defers .returning w1:=by
      refine iS a1.defers w1 hd1 he1 fun w2 he2=>?_
      cases hr:result? E fn fr.T fr.m with
      |none=>rw[hr]at hres;cases hres
      |some v1=>
       rw[hr]at hres
       dsimp only at hres
       obtain⟨v',q1,q2⟩:=oo hE he2.nW hf1 (fun r hr=>by
        have:=List.all_eq_true.1 hok.2.2 r hr
        cases r <;>exact this) hr
       refine⟨v',q1,?_⟩
       cases hb:(bD v1 && Nat.ble m.n fr.m.low)with
       |true=>
        rw[hb]at hres
        cases hres
        simp only[Bool.and_eq_true]at hb
        have hv':=q2.qq hb.1
        subst hv'
        exact⟨_,σ,rfl,aJ.eH hb.1,Ev.forget hs he2 (Nat.le_of_ble_eq_true hb.2)⟩
       |false=>
        rw[hb]at hres
        cases hres
        exact⟨_,σ1,rfl,q2,he2.By⟩
     rcases hcase with rfl |rfl
     ·exact hleave
     ·exact hleave
    split at h
    ·cases h
    ·cases h
    ·rename_i e fr hne hex
     refine go e fr ?_ hex h
     cases e with
     |normal=>exact .inl rfl
     |ret=>exact .inr rfl
     |exit id=>exact absurd rfl (hne id)
theorem ry:∀(ps:List Tmp) (args args':List Value) (T:Tr Value) (tmps:Array Value) (ds:List Deferred),dp σ T {tmps,defers:=ds} nt->(∀p∈ps,p < nt)->aU σ args args'->
  dp σ (pD T (ps.zip args)) {tmps:=(ps.zip args').foldl (fun tmps x=>tmps.setIfInBounds x.1 x.2) tmps,defers:=ds} nt
 |[],_,_,_,_,_,h,_,_=>h
 |p::ps,[],args',T,tmps,ds,h,_,hl=>by
  obtain rfl:=hl.nil_eq
  exact h
 |p::ps,v::args,x,T,tmps,ds,h,hp,hl=>by
  obtain⟨v',args',rfl,hv,hl'⟩:=hl.cases
  have h2:=h.put (dst:=some p) (fun d hd=>by cases hd;exact hp p List.mem_cons_self) hv
  exact ry ps args args' (T.set p v) (tmps.setIfInBounds p v') ds h2 (fun q hq=>hp q (List.mem_cons_of_mem _ hq)) hl'
theorem Ev.loop{b:Nat}{i:BI}{r r2:sZ}{r' r2':Loop}(hs:dN P σ m w)(hb:σ b=some i)(hm:m.get b=.loop r)(hr:w.heap[i.cG]?=some (.loop r'))(hh:∀w',w'.heap[i.cG]?=some (.loop r2')->ng σ i w' (.loop r2)):
  Ev P σ m w σ (m.set b (.loop r2)) (w.putObj i.cG (.loop r2')):=by
 have hlt:i.cG < w.heap.size:=(Array.getElem?_eq_some_iff.1 hr).1
 exact Ev.write hs hb (by rw[hm];simp) (hh _ (World.putObj_heap_same hlt)) (fun B hB=>World.putObj_heap_other hB) (by simp) rfl rfl rfl
theorem M.vR{b:Nat}{r r2:sZ}(h:m.get b=.loop r):(m.set b (.loop r2)).get b=.loop r2:=by
 have:b < m.n:=M.kb (by rw[h];simp)
 rw[M.bL _ _ _ _ this,if_pos rfl]
theorem xJ(hE:E.OK P){X:aF}{n:Nat}(ih:cQ P (bN E X n)){l:Nat}{args:List Value}{v:Value}(h:pH (aZ E (bN E X n) n) E.G l args m=some (v,m')){i:BI}{args':Array Value}(hs:dN P σ m w)(hl:σ l=some i)(ha:aU σ args args'.toList):
  dv P σ m w ((Instr.yield i.cG args').run P w) v m':=by
 unfold pH at h
 split at h
 ·rename_i r hr
  have ho:=hs.obj _ _ hl
  rw[hr]at ho
  obtain⟨hgr,r',nt,q1,q2,q3,q4,q5,q6,q7,q8,q9,Lt,q13,q14⟩:=ho
  cases hb:(Nat.beq args.length r.ps.size && Nat.beq r.G E.G)with
  |false=>rw[hb]at h;simp at h
  |true=>
   rw[hb]at h
   simp only[cond_true]at h
   simp only[Bool.and_eq_true]at hb
   have hlen:=Nat.eq_of_beq_eq_true hb.1
   have hG:=Nat.eq_of_beq_eq_true hb.2
   rw[hE.G]at hG
   rw[hG]at q9 Lt
   have hsz:args'.size=r'.params.size:=by
    have:=ha.1
    rw[q4]
    simp only[Array.length_toList]at this
    omega
   rw[run_yield q1 hsz]
   let R:Ending->World->Prop:=cC P σ m w v m'
   suffices hround:∀(ro:Option Nat) (k:Nat),RoundIn (dO ro) k P i.cG r'.fn ((r'.params.zip args').foldl (fun tmps (t,a)=>tmps.setIfInBounds t a) r'.tmps) r'.assign r'.body w R by
    refine⟨?_,fun ro k o a next Q hk=>?_⟩
    ·obtain⟨e,w',⟨v',σ',_,hv,he⟩,_⟩:=(hround none 0).2 default [] (room_wide _)
     exact⟨σ',w',v',hv,he⟩
    ·refine⟨fun hh=>by simp[dO,Fence.wide]at hh,(hround ro (k-1)).mono fun e w' he=>?_⟩
     obtain⟨v',σ',rfl,hv,hev⟩:=he
     exact hk σ' w' v' hv hev
   intro ro k
   refine roundIn_of_wpIn trivial ?_
   have hf0:dp σ (pD r.T (r.ps.toList.zip args)) {tmps:=((r'.params.zip args').foldl (fun tmps (t,a)=>tmps.setIfInBounds t a) r'.tmps),defers:=[]} nt:=by
    have h0:dp σ r.T {tmps:=r'.tmps,defers:=[]} nt:=⟨q7,fun t ht=>q8 t ht⟩
    have h1:=ry r.ps.toList args args'.toList r.T r'.tmps [] h0 q13 ha
    have e:(r'.params.zip args').foldl (fun tmps (t,a)=>tmps.setIfInBounds t a) r'.tmps=(r.ps.toList.zip args'.toList).foldl (fun tmps x=>tmps.setIfInBounds x.1 x.2) r'.tmps:=by
     rw[<-Array.foldl_toList,Array.toList_zip,q4]
    rw[e]
    exact h1
   rw[q5,q6]
   split at h
   ·rename_i fr1 hx
    split at h
    ·rename_i r1 hr1
     split at h
     ·rename_i hst1
      split at h
      ·rename_i e fr2 hx2
       split at h
       ·rename_i r2 hr2
        refine gN hE ih r.assign _ .normal fr1 q9 hx (some i.cG) k 0 σ _ w _ [] (.inr ⟨l,i,r,rfl,hl,hr⟩) hf0 (hs.low m.n) ⟨[],rfl,trivial⟩ (Nat.zero_le _) fun σ1 a1 w1 hf1 hd1 _ he1=>?_
        have hl1:=he1.ext _ _ hl
        have ho1:=he1.nW.obj _ _ hl1
        rw[hr1]at ho1
        obtain⟨hgr1,r1',nt1,p1,p2,p3,p4,p5,p6,p7,p8,p9,p10,p13,p14⟩:=ho1
        refine⟨_,run_beginRound p1 (by rw[p2];exact hst1),?_⟩
        have hev1:=Ev.loop (r2:={r1 with st:=.busy}) (r2':={r1' with state:=.busy}) he1.nW hl1 hr1 p1 fun w' hw'=>⟨hgr1,_,nt1,hw',rfl,p3,p4,p5,p6,p7,p8,p9,p10,p13,p14⟩
        refine gN hE ih r.body _ e fr2 Lt hx2 (some i.cG) k 0 σ1 a1 _ _ [] (.inr ⟨l,i,_,rfl,hl1,M.vR hr1⟩) hf1 hev1.nW (hd1.ev hev1) (Nat.zero_le _) fun σ2 a2 w2 hf2 hd2 _ he2=>?_
        have hl2:=he2.ext _ _ hl1
        have ho2:=he2.nW.obj _ _ hl2
        rw[hr2]at ho2
        obtain⟨hgr2,r2',nt2,z1,z2,z3,z4,z5,z6,z7,z8,z9,z10,z13,z14⟩:=ho2
        have htot:=(he1.trans hev1).trans he2
        have fin:∀(j:Option Ex),j≠some .normal->∃v' w',(Instr.endRound i.cG (j.map pU)).run P w2=.ok v' w'/\
          (v=.bool (j.map pU).isNone->m'={fr2.m.set l (.loop {r2 with st:=if(j.map pU).isNone then .ready else .done,ov:=j})with low:=min m.low (fr2.m.set l (.loop {r2 with st:=if(j.map pU).isNone then .ready else .done,ov:=j})).low}->R (.returned v') w'):=by
         intro j hj
         refine⟨_,_,run_endRound (j.map pU) z1,fun hv hm=>?_⟩
         subst hv hm
         refine⟨_,σ2,rfl,.flat _ rfl,Ev.By (htot.trans ?_)⟩
         exact Ev.loop he2.nW hl2 hr2 z1 fun w' hw'=>⟨hgr2,_,nt2,hw',rfl,rfl,z4,z5,z6,z7,z8,z9,z10,z13,hj⟩
        cases e with
        |normal=>
         cases h
         obtain⟨v',w',f1,f2⟩:=fin none (by simp)
         exact⟨v',w',f1,f2 rfl rfl⟩
        |exit id=>
         cases h
         obtain⟨v',w',f1,f2⟩:=fin (some (.exit id)) (by simp)
         exact⟨v',w',f1,f2 rfl rfl⟩
        |ret=>
         cases h
         obtain⟨v',w',f1,f2⟩:=fin (some .ret) (by simp)
         exact⟨v',w',f1,f2 rfl rfl⟩
       ·cases h
      ·cases h
     ·cases h
    ·cases h
   ·cases h
 ·cases h
theorem jT(hE:E.OK P){X:aF}(hX:cQ P X):∀n,cQ P (bN E X n)
 |0=>⟨fun f args m v m' h=>by simp[bN]at h,fun l args m v m' h=>by simp[bN]at h,wk hX.bt 0,fun a m v m' b h=>by simp[bN]at h⟩
 |n+1=>⟨fun f args m v m' h σ w args' hs hl=>nM hE hX (jT hE hX n) h hs hl,fun l args m v m' h σ w i args' hs hl ha=>by
   unfold bN at h
   exact xJ hE (jT hE hX n) h hs hl ha,wk hX.bt (n+1),fun a m v m' b h hb=>by
   unfold bN at h
   split at h
   ·rename_i r hr
    cases h
    exact hX.EF a m v m' b hr hb
   ·rw[hE.st.1]at h
    dsimp only at h
    rw[hE.st.2]at h
    cases h⟩
theorem oX(hE:E.OK P){X:aF}(hX:cQ P X){n:Nat}{f:FuncId}{args:List Value}{v:Value}(h:bN E X n (.func f) args m=some (v,m')){args':Array Value}(hs:dN P σ m w)(hl:aU σ args args'.toList):
  Calls P f args' w (cC P σ m w v m'):=by
 cases n with
 |zero=>simp[bN]at h
 |succ n=>exact callsIn_wide.1 (nM hE hX (jT hE hX n) h hs hl).1
def Ny:aF:=fun _ _ _=>none
theorem Al:cQ P Ny:=⟨fun f args m v m' h=>by simp[Ny]at h,fun l args m v m' h=>by simp[Ny]at h,fun f args m v m' h=>by simp[Ny]at h,fun a m v m' b h=>by simp[Ny]at h⟩
end
end Go.D
namespace Go.D
open Go
def M.wl(m:M)(l:Nat):M:={m with low:=l}
section
variable {m:M} {l k b:Nat} {o:Ob}
theorem M.bS:(m.wl l).get b=m.get b:=rfl
theorem M.uI:(m.wl l).low=l:=rfl
theorem M.Bk:(m.wl l).wl k=m.wl k:=rfl
theorem M.Bl:(m.wl l).push o=(m.push o).wl l:=rfl
theorem M.EK:(m.wl l).set b o=(m.set b o).wl (min l b):=rfl
theorem M.uU:(m.push o).n=m.n+1:=rfl
end
structure bd{α:Type}(m:M)(f:M->Option (α×M)):Prop where
 eq:∀l,l<=m.n->f (m.wl l)=(f (m.wl m.n)).map (fun r=>(r.1,r.2.wl (min l r.2.low)))
 EG:∀r,f (m.wl m.n)=some r->m.n<=r.2.n
section
variable {α:Type} {m:M}
theorem bd.none:bd (α:=α) m (fun _=>none):=⟨fun _ _=>rfl,fun _ h=>by cases h⟩
theorem bd.same(v:α):bd m (fun m=>some (v,m)):=⟨fun l h=>by
 simp only[Option.map_some,M.uI,M.Bk,Nat.min_eq_left h],fun r h=>by cases h;exact Nat.le_refl _⟩
theorem bd.push(v:α)(o:Ob):bd m (fun m=>some (v,m.push o)):=⟨fun l h=>by
 simp only[Option.map_some,M.Bl,M.uI,M.Bk,Nat.min_eq_left h],fun r h=>by cases h;exact Nat.le_succ _⟩
theorem bd.set(v:α)(b:Nat)(o:Ob):bd m (fun m=>some (v,m.set b o)):=⟨fun l h=>by
 simp only[Option.map_some,M.EK,M.uI,M.Bk]
 congr 3
 omega,fun r h=>by cases h;exact Nat.le_refl _⟩
theorem bd.Ja(v:α)(b:Nat)(o o':Ob):bd m (fun m=>some (v,(m.set b o).push o')):=⟨fun l h=>by
 simp only[Option.map_some,M.EK,M.Bl,M.uI,M.Bk]
 congr 3
 omega,fun r h=>by cases h;exact Nat.le_succ _⟩
theorem bd.of_eq{f g:M->Option (α×M)}(h:bd m g)(e:∀l,f (m.wl l)=g (m.wl l)):bd m f:=⟨fun l hl=>by rw[e,e,h.eq l hl],fun r hr=>h.EG r (by rw[<-e];exact hr)⟩
end
noncomputable section
variable {E:Env} {m:M}
theorem bs{l n:Nat}{a:Addr}:loadCells (m.wl l) a n=loadCells m a n:=rfl
theorem se{l:Nat}{t:TypeId}{a:Addr}:loadVar E (m.wl l) t a=loadVar E m t a:=rfl
theorem cf{l:Nat}{a:Addr}:lI (m.wl l) a=lI m a:=rfl
theorem bH{l s n:Nat}{x:Value}:first? (m.wl l) s n x=first? m s n x:=rfl
theorem cV{l:Nat}{t:TypeId}{x:Value}:nF E (m.wl l) t x=nF E m t x:=rfl
theorem Dc{l:Nat}{t:TypeId}{x:Value}{a b c:Option Value}:slice? E (m.wl l) t x a b c=slice? E m t x a b c:=rfl
theorem Ar{l:Nat}{t:TypeId}{x k:Value}{ok:Bool}:dL E (m.wl l) t x k ok=dL E m t x k ok:=rfl
theorem MR{l:Nat}{s d:TypeId}{x:Value}:tb E (m.wl l) s d x=tb E m s d x:=rfl
theorem jm{v:Value}{a:Addr}{vs:List Value}:bd m (fun m=>(storeCells m a vs).map fun m=>(v,m)):=by
 unfold storeCells
 cases h:m.get a.block with
 |cells c e g=>
  cases hb:(a.spot.isNone && Nat.ble (a.off+vs.length) c.length && vs.all one)with
  |true=>exact(bd.set v a.block _).of_eq (fun l=>by simp only[M.bS,bs,bH,cV,cf, *,cond_true,cond_false,Option.map_some,Option.map_none] <;>rfl)
  |false=>exact bd.none.of_eq (fun l=>by simp only[M.bS,bs,bH,cV,cf, *,cond_true,cond_false,Option.map_some,Option.map_none] <;>rfl)
 |_=>exact bd.none.of_eq (fun l=>by simp only[M.bS,bs,bH,cV,cf, *,cond_true,cond_false,Option.map_some,Option.map_none] <;>rfl)
theorem DE{e k:Nat}{base:Option Addr}{sl sc need:Nat}{news:List Value}:bd m (fun m=>iH m e k base sl sc need news):=by
 unfold iH
 cases base with
 |none=>
  dsimp only
  cases (Nat.beq sl 0 && Nat.beq sc 0)with
  |true=>exact bd.of_eq (bd.push (.slice (some ⟨m.n,0,none⟩) need need) _) (fun l=>rfl)
  |false=>exact bd.none
 |some a=>
  dsimp only
  cases h:m.get a.block with
  |cells c te g=>
   cases ho:(bif Nat.beq sl 0 then some []else loadCells m a (sl*k))with
   |none=>exact bd.none.of_eq (fun l=>by simp only[M.bS,bs,bH,cV,cf, *,cond_true,cond_false,Option.map_some,Option.map_none] <;>rfl)
   |some eO=>
    cases h1:(g.isNone ||(g==some k && Nat.blt (a.off+sc*k) c.length))with
    |true=>exact bd.of_eq (bd.push (.slice (some ⟨m.n,0,none⟩) need need) (.cells (eO++news) e (some k))) (fun l=>by simp only[M.bS,bs,bH,cV,cf, *,cond_true,cond_false,Option.map_some,Option.map_none] <;>rfl)
    |false=>
     cases h2:(g==some k && Nat.beq a.off 0 && a.spot.isNone && Nat.beq (sl*k) c.length && Nat.beq sc sl && Nat.beq te e)with
     |true=>exact bd.of_eq (bd.Ja (.slice (some ⟨m.n,0,none⟩) need need) a.block .dead (.cells (eO++news) e (some k))) (fun l=>by simp only[M.bS,bs,bH,cV,cf, *,cond_true,cond_false,Option.map_some,Option.map_none] <;>rfl)
     |false=>exact bd.none.of_eq (fun l=>by simp only[M.bS,bs,bH,cV,cf, *,cond_true,cond_false,Option.map_some,Option.map_none] <;>rfl)
  |_=>exact bd.none.of_eq (fun l=>by simp only[M.bS,bs,bH,cV,cf, *,cond_true,cond_false,Option.map_some,Option.map_none] <;>rfl)
theorem zp{t u:TypeId}{s x:Value}:bd m (fun m=>da E m t u s x):=by
 unfold da
 split
 ·rename_i ti ui base sl sc n _ _ _
  split
  ·exact bd.none
  ·rename_i e _ _
   cases h1:E.ty.get e with
   |none=>exact bd.none
   |some ei=>
    cases h2:first? m ti.es n x with
    |none=>exact bd.none.of_eq (fun l=>by simp only[M.bS,bs,bH,cV,cf, *,cond_true,cond_false,Option.map_some,Option.map_none] <;>rfl)
    |some news=>
     cases h3:(Nat.beq ti.es 0 ||Nat.blt 65536 ei.bytes || !news.all one ||Nat.blt 268435456 (sl+n) || !Nat.beq news.length (n*ti.es) || !ff ei.zero ti.es)with
     |true=>exact bd.none.of_eq (fun l=>by simp only[M.bS,bs,bH,cV,cf, *,cond_true,cond_false,Option.map_some,Option.map_none] <;>rfl)
     |false=>
      cases h4:Nat.ble (sl+n) sc with
      |false=>exact DE.of_eq (fun l=>by simp only[M.bS,bs,bH,cV,cf, *,cond_true,cond_false,Option.map_some,Option.map_none] <;>rfl)
      |true=>
       cases base with
       |none=>
        cases h5:Nat.beq n 0 with
        |true=>exact bd.of_eq (bd.same (.slice none sl sc)) (fun l=>by simp only[M.bS,bs,bH,cV,cf, *,cond_true,cond_false,Option.map_some,Option.map_none] <;>rfl)
        |false=>exact bd.none.of_eq (fun l=>by simp only[M.bS,bs,bH,cV,cf, *,cond_true,cond_false,Option.map_some,Option.map_none] <;>rfl)
       |some a=>
        cases h5:Nat.beq n 0 with
        |true=>exact bd.of_eq (bd.same (.slice (some a) (sl+n) sc)) (fun l=>by simp only[M.bS,bs,bH,cV,cf, *,cond_true,cond_false,Option.map_some,Option.map_none] <;>rfl)
        |false=>exact bd.of_eq (jm (v:=.slice (some a) (sl+n) sc) (a:=a.add (sl*ti.es)) (vs:=news)) (fun l=>by simp only[M.bS,bs,bH,cV,cf, *,cond_true,cond_false,Option.map_some,Option.map_none] <;>rfl)
  ·exact bd.none
 ·exact bd.none
theorem Em{t:TypeId}{d x:Value}:bd m (fun m=>sO E m t d x):=by
 unfold sO
 split
 ·rename_i ti base dl _ xl _ _
  cases h2:first? m ti.es (min xl dl) x with
  |none=>exact bd.none.of_eq (fun l=>by cases hd:ti.d <;>simp only[bH,h2,hd])
  |some cs=>
   cases hd:ti.d with
   |slice e=>
    cases h3:Nat.beq ti.es 0 with
    |true=>exact bd.none.of_eq (fun l=>by simp only[M.bS,bs,bH,cV,cf, *,cond_true,cond_false,Option.map_some,Option.map_none] <;>rfl)
    |false=>
     cases base with
     |none=>exact bd.of_eq (bd.same (.int .i64 (min xl dl:Nat))) (fun l=>by simp only[M.bS,bs,bH,cV,cf, *,cond_true,cond_false,Option.map_some,Option.map_none] <;>rfl)
     |some a=>
      cases h5:Nat.beq (min xl dl) 0 with
      |true=>exact bd.of_eq (bd.same (.int .i64 (min xl dl:Nat))) (fun l=>by simp only[M.bS,bs,bH,cV,cf, *,cond_true,cond_false,Option.map_some,Option.map_none] <;>rfl)
      |false=>exact bd.of_eq (jm (v:=.int .i64 (min xl dl:Nat)) (a:=a) (vs:=cs)) (fun l=>by simp only[M.bS,bs,bH,cV,cf, *,cond_true,cond_false,Option.map_some,Option.map_none] <;>rfl)
   |_=>exact bd.none.of_eq (fun l=>by simp only[M.bS,bs,bH,cV,cf, *,cond_true,cond_false,Option.map_some,Option.map_none] <;>rfl)
 ·exact bd.none
theorem AR{t:TypeId}{x:Value}:bd m (fun m=>nL E m t x):=by
 unfold nL
 split
 ·exact bd.same _
 ·rename_i ti a n _ _
  cases Nat.beq n 0 with
  |true=>exact bd.same _
  |false=>
   dsimp only[cond_false]
   split
   ·split
    ·exact jm
    ·exact bd.none
   ·exact bd.none
 ·exact bd.none
theorem tn{t:TypeId}{x k:Value}:bd m (fun m=>dF E m t x k):=by
 unfold dF
 split
 ·rename_i ti r _
  cases h:m.get r with
  |map es clock=>
   cases ti.d with
   |map kt et=>
    cases h1:keyed E kt k with
    |false=>exact bd.none.of_eq (fun l=>by simp only[M.bS, *,cond_true,cond_false] <;>rfl)
    |true=>
     cases h2:findKey E kt k es 0 with
     |none=>exact bd.none.of_eq (fun l=>by simp only[M.bS, *,cond_true,cond_false] <;>rfl)
     |some r2=>
      cases r2 with
      |none=>
       cases hz:fQ E et with
       |none=>exact bd.none.of_eq (fun l=>by simp only[M.bS, *,cond_true,cond_false,Option.map_none] <;>rfl)
       |some z=>exact(bd.set (.tuple #[z,.int .i64 clock]) r _).of_eq (fun l=>by simp only[M.bS, *,cond_true,cond_false,Option.map_some] <;>rfl)
      |some p=>exact(bd.set (.tuple #[p.2,.int .i64 (((es[p.1]?).map (·.born)).getD 0)]) r _).of_eq (fun l=>by simp only[M.bS, *,cond_true,cond_false] <;>rfl)
   |_=>exact bd.none.of_eq (fun l=>by simp only[M.bS, *] <;>rfl)
  |_=>exact bd.none.of_eq (fun l=>by cases hd:ti.d <;>simp only[M.bS,h,hd])
 ·exact bd.none
theorem qG{v x s y:Value}:bd m (fun m=>(cD m x s y).map fun m=>(v,m)):=by
 unfold cD
 split
 ·rename_i r k b
  cases h:m.get r with
  |map es clock=>
   cases h1:fA b es 0 with
   |none=>exact bd.none.of_eq (fun l=>by simp only[M.bS, *,Option.map_none] <;>rfl)
   |some i=>exact(bd.set v r _).of_eq (fun l=>by simp only[M.bS, *,Option.map_some] <;>rfl)
  |_=>exact bd.none.of_eq (fun l=>by simp only[M.bS, *,Option.map_none] <;>rfl)
 ·exact bd.none
theorem rZ{t:TypeId}{x y:Value}:bd m (fun m=>dK E m t x y):=by
 unfold dK
 cases E.ty.get t with
 |none=>exact bd.none
 |some ti=>
  dsimp only
  split
  ·rename_i e k l k' c hd
   cases E.ty.get e with
   |none=>exact bd.none
   |some ei=>
    dsimp only
    cases ei.zero with
    |none=>exact bd.none
    |some z=>
     dsimp only
     split
     ·exact bd.of_eq (bd.push (.slice (some ⟨m.n,0,none⟩) l.toNat c.toNat) (.cells (fJ (cells z) c.toNat) e none)) (fun l=>rfl)
     ·exact bd.none
  ·exact bd.none
theorem wo{b:Builtin}{ts:List TypeId}{args:List Value}:bd m (fun m=>an E m b ts args):=by
 unfold an
 split
 ·exact zp
 ·exact Em
 ·exact AR
 ·rename_i t x
  cases h:nF E m t x with
  |none=>exact bd.none.of_eq (fun l=>by simp only[M.bS,bs,bH,cV,cf, *,cond_true,cond_false,Option.map_some,Option.map_none] <;>rfl)
  |some v=>exact(bd.same v).of_eq (fun l=>by simp only[M.bS,bs,bH,cV,cf, *,cond_true,cond_false,Option.map_some,Option.map_none] <;>rfl)
 ·cases h:(db (fun x y=>if y < x then y else x) args)with
  |none=>exact bd.none
  |some v=>exact bd.same v
 ·cases h:(db (fun x y=>if y >x then y else x) args)with
  |none=>exact bd.none
  |some v=>exact bd.same v
 ·split
  ·split
   ·rename_i e a y c _
    cases h:lI m a with
    |true=>exact bd.none.of_eq (fun l=>by simp only[cf,h,cond_true])
    |false=>exact(bd.same (.int .i64 c)).of_eq (fun l=>by simp only[cf,h,cond_false])
   ·exact bd.same _
   ·exact bd.none
  ·exact bd.none
 ·exact bd.none
end
end Go.D
namespace Go.D
open Go
noncomputable section
variable {E:Env} {m:M}
end
end Go.D
namespace Go.D
open Go
inductive KV where
 |u
 |v (x:Value)
def KV.val:KV->Value
 |.u=>undef
 |.v x=>x
inductive KT where
 |e
 |c (t:Nat) (x:Option KV) (r:KT)
noncomputable def KT.get(K:KT):Nat->Option KV:=
 KT.rec (motive:=fun _=>Nat->Option KV) (fun _=>none) (fun t x _ g i=>bif Nat.beq t i then x else g i) K
noncomputable def KT.set(K:KT)(t:Nat)(x:KV):KT:=.c t (some x) K
noncomputable def KT.del(K:KT)(t:Nat):KT:=.c t none K
theorem KT.GV{t i:Nat}{x:Option KV}{r:KT}:(KT.c t x r).get i=if i=t then x else r.get i:=by
 show(bif Nat.beq t i then x else r.get i)=_
 cases h:Nat.beq t i with
 |true=>rw[if_pos (Nat.eq_of_beq_eq_true h).symm];rfl
 |false=>rw[if_neg fun e=>Nat.ne_of_beq_eq_false h e.symm];rfl
theorem KT.bL(K:KT)(t i:Nat)(x:KV):(K.set t x).get i=if i=t then some x else K.get i:=KT.GV
theorem KT.Jt(K:KT)(t i:Nat):(K.del t).get i=if i=t then none else K.get i:=KT.GV
structure St where
 K:KT
 m:M
 lo:Nat
def Kn(K:KT)(T:Tr Value):Prop:=∀t v,K.get t=some v->T.get t=some v.val
noncomputable section
def Jd(K:KT)(dst:Option Tmp)(v:KV):KT:=
 match dst with
 |some d=>K.set d v
 |none=>K
def jG(K:KT):Operand->Option Value
 |.tmp t=>match K.get t with |some k=>some k.val |none=>none
 |.const v=>some v
 |.global g=>some (.pointer (some ⟨g,0,none⟩))
 |.func f=>some (.func (.func f) #[] #[])
def vU(K:KT):List Operand->Option (List Value)
 |[]=>some []
 |x::xs=>match jG K x with
  |some v=>match vU K xs with
   |some vs=>some (v::vs)
   |none=>none
  |none=>none
def HP(K:KT):List (Nat×Operand)->Option (List (Nat×Value))
 |[]=>some []
 |p::xs=>match jG K p.2 with
  |some v=>match HP K xs with
   |some vs=>some ((p.1,v)::vs)
   |none=>none
  |none=>none
def O4(K:KT):Option Operand->Option (Option Value)
 |none=>some none
 |some x=>match jG K x with |some v=>some (some v) |none=>none
variable (E:Env) (X:aF)
def Cl(f:Fn)(args:List Value)(m:M)(b:Nat)(v:Value)(m':M):Prop:=
 m.n<=m'.n/\b<=m.n/\∃n0,∀n,n0<=n->∀l,l<=m.n->bN E X n f args (m.wl l)=some (v,m'.wl (min l b))
def V(c:Code)(s:St)(Q:Ex->St->Prop):Prop:=
 ∀T,Kn s.K T->s.lo<=s.m.n->∃e s' T',Q e s'/\Kn s'.K T'/\s.m.n<=s'.m.n/\s'.lo<=s'.m.n/\∃n0,∀n,n0<=n->
  aZ E (bN E X n) n c ⟨T,s.m.wl s.lo⟩=some (e,⟨T',s'.m.wl s'.lo⟩)
def ah{α:Type}(r:Option α)(P:α->Prop):Prop:=match r with |some x=>P x |none=>False
def aK{α β:Type}(r:Option (α×β))(P:α->β->Prop):Prop:=match r with |some x=>P x.1 x.2 |none=>False
def bW(m:M)(P:M->Prop):Prop:=P m
def LJ(b:Bool)(P Q:Prop):Prop:=match b with |true=>P |false=>Q
def aW(v:Value)(P Q:Prop):Prop:=match v with |.bool b=>LJ b P Q |_=>False
def oG(v:Value)(P:Fn->Array Value->Array Value->Prop):Prop:=match v with |.func g fi ca=>P g fi ca |_=>False
def bz(f:Fn)(args:List Value)(m:M)(P:Value->M->Nat->Prop):Prop:=∃v m' b,Cl E X f args m b v m'/\P v m' b
def JL(br:Bool)(c:Prop)(P:Prop):Prop:=match br with |true=>c/\P |false=>P
def un(vs:List Value)(P:Value->List Value->Prop):Prop:=match vs with |v::r=>P v r |[]=>False
variable {E}
def lO(v:Value):Option Value:=match v with |.pointer (some a)=>some (.pointer (some a)) |.func (.func f) a b=>some (.func (.func f) a b) |_=>none
def cj(v:Value)(i:Nat):Option Value:=match v with |.tuple vs=>vs.toList[i]? |_=>none
variable (E)
def ag(m:M)(t:TypeId)(a:Value):Option Value:=match a with |.pointer (some a)=>loadVar E m t a |_=>none
def aw(m:M)(t:TypeId)(a x:Value):Option (M×Nat):=match a with |.pointer (some a)=>(match storeVar E m t a x with |some m1=>some (m1,a.block) |none=>none) |_=>none
def qT(m:M)(t:TypeId)(x k y:Value):Option (M×Nat):=match x with |.map (some r)=>(match ew E m t x k y with |some m1=>some (m1,r) |none=>none) |_=>none
def ptrTo(b:Nat):Value:=.pointer (some ⟨b,0,none⟩)
def jn(G:(List Value->M->Nat->Prop)->Prop)(k:List Value->M->Nat->Prop):Prop:=G k
def Lp(F:(List Value->M->Nat->Prop)->List Value->M->Nat->Prop)(vs:List Value)(m:M)(lo:Nat):Prop:=
 ∃(γ:Type) (μ:γ->Nat) (I:γ->List Value->M->Nat->Prop),(∃g,I g vs m lo)/\
  ∀g vs m lo,I g vs m lo->F (fun vs m lo=>∃g',μ g' < μ g/\I g' vs m lo) vs m lo
def Ex.Kr(e:Ex)(P Q:Prop):Prop:=match e with |.normal=>P |_=>Q
structure Ky(y:Nat)(m m':M):Prop where
 n:m.n<=m'.n
 get:∀c,c < m.n->c≠y->m'.get c=m.get c
structure Ext(m m':M):Prop where
 n:m.n<=m'.n
 get:∀b,b < m.n->m'.get b=m.get b
def JX(fr:Ob->Prop)(g:Fn)(fi ca:List Value)(xs:List (List Value))(Dt:M->Prop):Prop:=
 ∀(y n0 B:Nat) (I:Nat->M->Prop) (J:M->Prop) (m:M),(∀i m1,I i m1->Dt m1)->(∀i m1 m2,I i m1->Ext m1 m2->I i m2)->(∀m1 m2,J m1->Ext m1 m2->J m2)->
  y < n0->n0<=m.n->B<=n0->
  (∀i args m1,n0<=m1.n->xs[i]?=some args->I i m1->∃v m2 b,Cl E X (.yield y) args m1 b v m2/\B<=b/\b<=y/\(∀c,n0<=c->c < m1.n->fr (m1.get c)->m2.get c=m1.get c)/\((v=.bool true/\I (i+1) m2)\/(v=.bool false/\J m2)))->
  I 0 m->∃v m2 b,Cl E X g (fi++ .func (.yield y) #[] #[]::ca) m b v m2/\B<=b/\(I xs.length m2\/J m2)
def RF(g:Fn)(fi ca:List Value)(m:M)(lo:Nat)(F:List Value->M->(M->Ex->M->Nat->Prop)->Prop)(Q:M->Nat->Prop)(Qs:List (Ex×(M->Nat->Prop))):Prop:=
 ∃(fr:Ob->Prop) (xs:List (List Value)) (Dt:M->Prop) (I:Nat->M->Prop) (J:Ex->M->Prop) (B:Nat),(∃k,g=.func k)/\JX E X fr g fi ca xs Dt/\B<=m.n/\
  (∀i m1,I i m1->Dt m1)/\(∀i m1 m2,I i m1->Ky m.n m1 m2->I i m2)/\(∀e m1 m2,J e m1->Ky m.n m1 m2->J e m2)/\I 0 m/\
  (∀i args m1,m.n+1<=m1.n->xs[i]?=some args->I i m1->F args m1 fun m2 e m3 lo3=>B<=lo3/\(∀c,m.n<=c->c < m1.n->(c=m.n\/fr (m2.get c))->m3.get c=m2.get c)/\e.Kr (I (i+1) m3) (J e m3))/\
  (∀m2 lo2,I xs.length m2->min lo B<=lo2->Q m2 lo2)/\(∀e m2 lo2,e≠.normal->J e m2->min lo B<=lo2->∃p∈Qs,p.1=e/\p.2 m2 lo2)
def Kq(y:Nat)(m1 m:M)(P:M->Prop):Prop:=(∀c,y<=c->c < m1.n->m.get c=m1.get c)/\∀m2,m2.n=m.n->(∀c,c≠y->m2.get c=m.get c)->P m2
def zD(vs:List Value)(P:Prop):Prop:=match vs with |[]=>P |_=>False
structure Words where
 ah:{α:Type}->Option α->(α->Prop)->Prop
 aK:{α β:Type}->Option (α×β)->(α->β->Prop)->Prop
 bW:M->(M->Prop)->Prop
 bz:Fn->List Value->M->(Value->M->Nat->Prop)->Prop
 un:List Value->(Value->List Value->Prop)->Prop
 zD:List Value->Prop->Prop
 jn:((List Value->M->Nat->Prop)->Prop)->(List Value->M->Nat->Prop)->Prop
 Lp:((List Value->M->Nat->Prop)->List Value->M->Nat->Prop)->List Value->M->Nat->Prop
 RF:Fn->List Value->List Value->M->Nat->(List Value->M->(M->Ex->M->Nat->Prop)->Prop)->(M->Nat->Prop)->List (Ex×(M->Nat->Prop))->Prop
 Kq:Nat->M->M->(M->Prop)->Prop
@[reducible] def aI:Words:=⟨D.ah,D.aK,D.bW,D.bz E X,D.un,D.zD,D.jn,D.Lp,D.RF E X,D.Kq⟩
variable (W:Words)
abbrev fO:=Bool×Nat×Option (Nat×Bool)
def oh(ops:Array Oper)(j i t:Nat):Bool:=ops.toList.zipIdx.all fun(q,k)=> !(Nat.ble i k && Nat.blt k j && q.dst==some t)
def Gf(bf:Array Nat)(ops:Array Oper)(j:Nat)(x:Oper×Nat)(acc:Option (List fO)):Option (List fO):=
 bif x.2==j ||er x.1.op ||(bf.getD j 0).testBit x.2 ||(bf.getD x.2 0).testBit j then acc
 else bif Nat.blt x.2 j then(match x.1.op with
  |.alloc _ |.box _ _=>acc
  |.load _ (.tmp t)=>bif oh ops j x.2 t then(match x.1.guard with
    |none=>acc.map ((true,t,none)::·)
    |some (g,want)=>match(ops.toList[g]?).bind (·.dst)with
     |some d=>bif oh ops j x.2 d then acc.map ((true,t,some (d,want))::·)else none
     |none=>none)else none
  |_=>bif kM x.1.op then acc else match lenOf x.1.op with
   |some t=>bif oh ops j x.2 t then acc.map ((false,t,none)::·)else none
   |none=>none)
 else none
def Ae(ops:Array Oper)(j:Nat):Option (List fO):=ops.toList.zipIdx.foldr (Gf (Region.before ops) ops j) (some [])
def fq(k:Option KV)(b:Nat):Prop:=match k with |some (.v (.pointer (some a)))=>a.block≠b |_=>False
def vj(k:Option KV):Prop:=match k with |some (.v (.map _))=>False |some _=>True |none=>False
def wD(k:Option KV)(want:Bool)(P:Prop):Prop:=match k with
 |some (.v (.bool b))=>(match b==want with |true=>P |false=>True)
 |some .u=>True
 |_=>False
def iE(K:KT)(b:Nat):List fO->Prop
 |[]=>True
 |(true,t,none)::ts=>fq (K.get t) b/\iE K b ts
 |(true,t,some (d,want))::ts=>wD (K.get d) want (fq (K.get t) b)/\iE K b ts
 |(false,t,_)::ts=>vj (K.get t)/\iE K b ts
def Pa(br:Bool)(pt:Option (List fO))(K:KT)(c:Prop)(b:Nat)(P:Prop):Prop:=
 match br with
 |true=>(match pt with |none=>c |some ts=>c\/iE K b ts)/\P
 |false=>P
def Bt(c:Call):Bool:=match c.callee,c.args.toList with |.value (.func g),[_]=>Nat.beq g tI |_,_=>false
def sS(m:M)(args:List Value):Option Nat:=match args with |[.pointer (some a)]=>ma m a |_=>none
def O9(br:Bool)(pt:Option (List fO))(K:KT)(c:Prop)(bo:Option Nat)(b:Nat)(P:Prop):Prop:=
 match br with
 |true=>(match pt with |none=>c |some ts=>c\/(bo=some b/\iE K b ts))/\P
 |false=>P
def NP(b:Builtin)(ts:List TypeId)(args:List Value)(br:Bool)(m:M)(lo:Nat)(P:Value->M->Nat->Prop):Prop:=
 match b with
 |.len |.cap |.min |.max=>W.aK (an E m b ts args) fun v _=>P v m lo
 |_=>W.aK (an E (m.wl m.n) b ts args) fun v m1=>JL br (m.n<=m1.low) (P v m1 (min lo m1.low))
def KH(E:Env)(t:TypeId)(ok:Bool)(x:Value):Option Value:=match x with
 |.nilIface=>bif ok then(match fQ E t with |some z=>some (.tuple #[z,.bool false]) |none=>none)else none
 |.iface t' (.agg cs)=>bif ok && (Nat.beq t' t && cs.toList.isEmpty)then(match E.ty.get t with
  |some ti=>(match ti.d with |.struct _=>some (.tuple #[.agg #[],.bool true]) |_=>none)
  |none=>none)else none
 |_=>none
def Qz(o:Op)(br:Bool)(pt:Option (List fO))(K:KT)(m:M)(lo:Nat)(P:Value->M->Nat->Prop):Prop:=
 match o with
 |.move x |.assign x=>ah (jG K x) fun x=>P x m lo
 |.pick c a b=>ah (jG K c) fun c=>aW c (ah (jG K a) fun a=>P a m lo) (ah (jG K b) fun b=>P b m lo)
 |.alloc t=>ah (fQ E t) fun z=>W.bW (m.push (.cells (cells z) t none)) fun m1=>P (ptrTo m.n) m1 lo
 |.box t x=>ah (jG K x) fun x=>W.bW (m.push (.cells (cells x) t none)) fun m1=>P (ptrTo m.n) m1 lo
 |.build t ps=>ah (HP K ps.toList) fun ps=>W.ah (aO E t ps) fun v=>P v m lo
 |.buildSlice t n ps=>ah (HP K ps.toList) fun ps=>W.aK (az E m t n ps) fun v m1=>P v m1 lo
 |.load t a=>ah (jG K a) fun a=>W.ah (ag E m t a) fun v=>P v m lo
 |.store t a x=>ah (jG K a) fun a=>ah (jG K x) fun x=>W.aK (aw E m t a x) fun m1 b=>Pa br pt K (m.n<=b) b (P undef m1 (min lo b))
 |.nilCheck x=>ah (jG K x) fun x=>ah (lO x) fun v=>P v m lo
 |.binOp op t x y _=>ah (jG K x) fun x=>ah (jG K y) fun y=>W.ah (aq E op t x y) fun v=>P v m lo
 |.unOp op _ x=>ah (jG K x) fun x=>W.ah (fK op x) fun v=>P v m lo
 |.convert s d x=>ah (jG K x) fun x=>W.ah (tb E m s d x) fun v=>P v m lo
 |.makeFunc f a b=>ah (vU K a.toList) fun a=>ah (vU K b.toList) fun b=>match f with
  |.func f=>P (.func (.func f) a.toArray b.toArray) m lo
  |_=>False
 |.makeMap _ r=>match r with
  |none=>W.bW (m.push (.map [] 0)) fun m1=>P (.map (some m.n)) m1 lo
  |some _=>False
 |.makeSlice t l c=>ah (jG K l) fun l=>ah (jG K c) fun c=>W.aK (dK E m t l c) fun v m1=>P v m1 lo
 |.slice t x a b c=>ah (jG K x) fun x=>ah (O4 K a) fun a=>ah (O4 K b) fun b=>ah (O4 K c) fun c=>W.ah (slice? E m t x a b c) fun v=>P v m lo
 |.fieldAddr s x f=>ah (jG K x) fun x=>W.ah (ae E s x f) fun v=>P v m lo
 |.field t x f=>ah (jG K x) fun x=>W.ah (vS E t x f) fun v=>P v m lo
 |.indexAddr t x i=>ah (jG K x) fun x=>ah (jG K i) fun i=>W.ah (ai E t x i) fun v=>P v m lo
 |.index t x i=>ah (jG K x) fun x=>ah (jG K i) fun i=>W.ah (index? E t x i) fun v=>P v m lo
 |.lookup t x i ok=>ah (jG K x) fun x=>ah (jG K i) fun i=>W.ah (dL E m t x i ok) fun v=>P v m lo
 |.mapUpdate t x k y=>ah (jG K x) fun x=>ah (jG K k) fun k=>ah (jG K y) fun y=>W.aK (qT E m t x k y) fun m1 b=>JL br (m.n<=b) (P undef m1 (min lo b))
 |.insert t x k y=>ah (jG K x) fun x=>ah (jG K k) fun k=>ah (jG K y) fun y=>W.aK (qT E m t x k y) fun m1 b=>JL br (m.n<=b) (P undef m1 (min lo b))
 |.mapEntry t x k=>ah (jG K x) fun x=>ah (jG K k) fun k=>W.aK (dF E (m.wl m.n) t x k) fun v m1=>JL br (m.n<=m1.low) (P v m1 (min lo m1.low))
 |.entryStore _ x s y=>ah (jG K x) fun x=>ah (jG K s) fun s=>ah (jG K y) fun y=>W.ah (cD (m.wl m.n) x s y) fun m1=>JL br (m.n<=m1.low) (P undef m1 (min lo m1.low))
 |.extract x i=>ah (jG K x) fun x=>W.ah (cj x i) fun v=>P v m lo
 |.typeAssert x _ t ok=>ah (jG K x) fun x=>W.ah (KH E t ok x) fun v=>P v m lo
 |.call c=>match c.callee with
  |.value f=>ah (jG K f) fun f=>oG f fun g fi ca=>ah (vU K c.args.toList) fun args=>W.bz g (fi.toList++(args++ca.toList)) m fun v m1 b=>bif Bt c then O9 br pt K (m.n<=b) (sS m args) b (P v m1 (min lo b))else JL br (m.n<=b) (P v m1 (min lo b))
  |.builtin b=>ah (vU K c.args.toList) fun args=>NP E W b c.argTypes.toList args br m lo P
  |_=>False
 |_=>False
def EN(ops:Array Oper)(K:KT)(o:Oper)(P S:KT->Prop):Prop:=
 match o.guard with
 |none=>P K
 |some (j,want)=>match(ops.toList[j]?).bind (·.dst)with
  |some d=>match K.get d with
   |some (.v v)=>aW v (cond want (P (K.set d (.v (.bool true)))) (S (K.set d (.v (.bool true))))) (cond want (S (K.set d (.v (.bool false)))) (P (K.set d (.v (.bool false)))))
   |some .u=>S K
   |none=>False
  |none=>S K
def EO(d:Bool)(ops:Array Oper):List Oper->Nat->St->(St->Prop)->Prop
 |[],_,s,P=>P s
 |o::rest,j,s,P=>EN ops s.K o
   (fun K=>Qz E W o.op (d && !(dM ops j)) (bif d && !(dM ops j)then Ae ops j else none) K s.m s.lo fun v m lo=>EO d ops rest (j+1) ⟨Jd K o.dst (.v v),m,lo⟩ P)
   (fun K=>EO d ops rest (j+1) ⟨Jd K o.dst .u,s.m,s.lo⟩ P)
def Ex.Cg(id:Nat)(e:Ex):Ex:=match e with |.exit id'=>bif Nat.beq id' id then .normal else .exit id' |e=>e
def assigned:Code->List Nat
 |.region _ ops _=>ops.toList.filterMap (·.dst)
 |.seq a b=>assigned a++assigned b
 |.cond _ x y=>assigned x++assigned y
 |.block _ c |.loop c |.scope c=>assigned c
 |_=> []
def carried(K:KT):List Nat->List Nat->List Nat
 |[],acc=>acc
 |t::ts,acc=>bif acc.contains t then carried K ts acc else match K.get t with
  |some (.v _)=>carried K ts (acc++ [t])
  |_=>carried K ts acc
def forget(K:KT):List Nat->KT
 |[]=>K
 |t::ts=>forget (K.del t) ts
def zn:List Nat->List Value->KT->(KT->Prop)->Prop
 |[],_,K,f=>f K
 |t::ts,vs,K,f=>W.un vs fun v r=>zn ts r (K.set t (.v v)) f
def Ch:List Nat->List Value->KT->(KT->Prop)->Prop
 |[],vs,K,f=>W.zD vs (f K)
 |t::ts,vs,K,f=>W.un vs fun v r=>Ch ts r (K.set t (.v v)) f
def po(K:KT):List Nat->Option (List Value)
 |[]=>some []
 |t::ts=>match K.get t with
  |some (.v v)=>match po K ts with
   |some vs=>some (v::vs)
   |none=>none
  |_=>none
def zW(xs:List Operand):List Nat:=xs.filterMap fun |.tmp t=>some t |_=>none
def reads:Code->List Nat
 |.region _ ops _=>ops.toList.flatMap fun o=>zW o.op.operands.toList
 |.seq a b=>reads a++reads b
 |.cond c x y=>zW [c]++(reads x++reads y)
 |.block _ c |.loop c |.scope c=>reads c
 |.rangeFunc f _ a b=>zW [f]++(reads a++reads b)
 |_=> []
def parts:Code->Bool
 |.region _ ops _=>ops.toList.any fun o=>o.guard.isSome
 |_=>false
def dedup:List Nat->List Nat->List Nat
 |[],acc=>acc
 |t::ts,acc=>bif acc.contains t then dedup ts acc else dedup ts (acc++ [t])
def GG(a:Code)(rd:List Nat):List Nat:=(dedup (assigned a) []).filter rd.contains
def Nf(e:Ex)(l:List Ex):List Ex:=bif l.any (·==e)then l else l++ [e]
def ij:Code->List Ex->List Ex
 |.exit id,acc=>Nf (.exit id) acc
 |.ret,acc=>Nf .ret acc
 |.seq a b,acc=>ij b (ij a acc)
 |.cond _ x y,acc=>ij y (ij x acc)
 |.block id c,acc=>(ij c []).foldl (fun acc e=>bif e==.exit id then acc else Nf e acc) acc
 |.loop c,acc |.scope c,acc=>ij c acc
 |.rangeFunc _ _ _ b,acc=>ij b acc
 |_,acc=>acc
def leaves(c:Code):List Ex:=ij c []
def ta:Code->List Nat->St->(Ex->St->Prop)->Prop
 |.skip,_,s,Q=>Q .normal s
 |.label _,_,s,Q=>Q .normal s
 |.region _ ops d,_,s,Q=>EO E W d ops ops.toList 0 s (Q .normal)
 |.seq a b,rd,s,Q=>
  bif parts a then
   W.jn (fun R=>ta a (reads b++rd) s fun e s'=>e.Kr (ah (po s'.K (GG a (reads b++rd))) fun vs=>R vs s'.m s'.lo) (Q e s'))
    (fun vs m lo=>zn W (GG a (reads b++rd)) vs (forget s.K (assigned a)) fun K=>ta b rd ⟨K,m,lo⟩ Q)
  else ta a (reads b++rd) s fun e s=>e.Kr (ta b rd s Q) (Q e s)
 |.cond c x y,rd,s,Q=>ah (jG s.K c) fun v=>aW v (ta x rd s Q) (ta y rd s Q)
 |.block id c,rd,s,Q=>ta c rd s fun e s=>Q (e.Cg id) s
 |.exit id,_,s,Q=>Q (.exit id) s
 |.ret,_,s,Q=>Q .ret s
 |.loop c,rd,s,Q=>
  ah (po s.K (carried s.K (assigned c) [])) fun vs=>W.Lp (fun P vs m lo=>zn W (carried s.K (assigned c) []) vs (forget s.K (assigned c)) fun K=>ta c (carried s.K (assigned c) []++rd) ⟨K,m,lo⟩ fun e s'=>
   e.Kr (ah (po s'.K (carried s.K (assigned c) [])) fun vs=>P vs s'.m s'.lo) (Q e s')) vs s.m s.lo
 |.scope c,rd,s,Q=>ta c rd s Q
 |.rangeFunc f ps a b,_,s,Q=>ah (jG s.K f) fun f=>oG f fun g fi ca=>W.RF g fi.toList ca.toList s.m s.lo
   (fun args m1 Qb=>Ch W ps.toList args s.K fun K1=>ta a (reads b) ⟨K1,m1,m1.n⟩ fun e s1=>e.Kr (W.Kq s.m.n m1 s1.m fun m2=>ta b [] ⟨s1.K,m2,min s1.lo s.m.n⟩ fun e2 s2=>Qb m2 e2 s2.m s2.lo) False)
   (fun m lo=>Q .normal ⟨s.K,m,lo⟩) ((leaves b).map fun e=>(e,fun m lo=>Q e ⟨s.K,m,lo⟩))
 |_,_,_,_=>False
end
section
variable {E:Env} {X:aF}
theorem aa{α:Type}{x:α}{P:α->Prop}:ah (some x) P=P x:=rfl
theorem ar{α β:Type}{x:α}{y:β}{P:α->β->Prop}:aK (some (x,y)) P=P x y:=rfl
theorem aS{α:Type}{r:Option α}{P:α->Prop}:ah r P↔∃x,r=some x/\P x:=by
 cases r with
 |none=>exact⟨fun h=>h.elim,fun⟨x,h,_⟩=>by cases h⟩
 |some y=>exact⟨fun h=>⟨y,rfl,h⟩,fun⟨x,h,hp⟩=>by cases h;exact hp⟩
theorem jO{α β:Type}{r:Option (α×β)}{P:α->β->Prop}:aK r P↔∃x y,r=some (x,y)/\P x y:=by
 cases r with
 |none=>exact⟨fun h=>h.elim,fun⟨x,y,h,_⟩=>by cases h⟩
 |some y=>exact⟨fun h=>⟨y.1,y.2,rfl,h⟩,fun⟨x,y,h,hp⟩=>by cases h;exact hp⟩
theorem Jp{b:Bool}{P Q:Prop}:LJ b P Q↔(b=true->P)/\(b=false->Q):=by
 cases b with
 |true=>exact⟨fun h=>⟨fun _=>h,fun e=>by cases e⟩,fun h=>h.1 rfl⟩
 |false=>exact⟨fun h=>⟨(fun e=>by cases e),fun _=>h⟩,fun h=>h.2 rfl⟩
theorem vQ{v:Value}{P Q:Prop}:aW v P Q↔∃b,v=.bool b/\LJ b P Q:=by
 constructor
 ·intro h
  cases v with
  |bool b=>exact⟨b,rfl,h⟩
  |_=>exact h.elim
 ·rintro⟨b,rfl,h⟩;exact h
theorem xZ{v:Value}{P:Fn->Array Value->Array Value->Prop}:oG v P↔∃g fi ca,v=.func g fi ca/\P g fi ca:=by
 constructor
 ·intro h
  cases v with
  |func g fi ca=>exact⟨g,fi,ca,rfl,h⟩
  |_=>exact h.elim
 ·rintro⟨g,fi,ca,rfl,h⟩;exact h
theorem EV{vs:List Value}{P:Value->List Value->Prop}:un vs P↔∃v r,vs=v::r/\P v r:=by
 cases vs with
 |nil=>exact⟨fun h=>h.elim,fun⟨v,r,h,_⟩=>by cases h⟩
 |cons v r=>exact⟨fun h=>⟨v,r,rfl,h⟩,fun⟨v,r,h,hp⟩=>by cases h;exact hp⟩
theorem qX{br:Bool}{c P:Prop}:JL br c P↔(br=true->c)/\P:=by
 cases br with
 |true=>exact⟨fun h=>⟨fun _=>h.1,h.2⟩,fun h=>⟨h.1 rfl,h.2⟩⟩
 |false=>exact⟨fun h=>⟨(fun e=>by cases e),h⟩,fun h=>h.2⟩
theorem Kn.put{K:KT}{T:Tr Value}(h:Kn K T)(d:Option Tmp)(v:KV):Kn (Jd K d v) (put T d v.val):=by
 cases d with
 |none=>exact h
 |some d=>
  intro t x hx
  simp only[D.put,Jd,Tr.bL,KT.bL]at hx⊢
  split
  ·rename_i e;rw[if_pos e]at hx;cases hx;rfl
  ·rename_i e;rw[if_neg e]at hx;exact h t x hx
theorem Kn.again{K:KT}{T:Tr Value}(h:Kn K T){d:Nat}{v:Value}(hd:K.get d=some (.v v)):Kn (K.set d (.v v)) T:=by
 intro t x hx
 simp only[KT.bL]at hx
 split at hx
 ·rename_i e;cases hx;rw[e];exact h d _ hd
 ·exact h t x hx
theorem Kn.set{K:KT}{T:Tr Value}(h:Kn K T){d:Nat}{v:Value}(hd:T.get d=some v):Kn (K.set d (.v v)) T:=by
 intro t x hx
 simp only[KT.bL]at hx
 split at hx
 ·rename_i e;cases hx;rw[e];exact hd
 ·exact h t x hx
theorem aT{K:KT}{T:Tr Value}(h:Kn K T){x:Operand}{v:Value}(hx:jG K x=some v):ev T x=v:=by
 cases x with
 |tmp t=>
  simp only[jG]at hx
  split at hx
  ·rename_i k hk
   cases hx
   simp only[ev,gk,h t k hk,Option.getD_some]
  ·cases hx
 |const c=>cases hx;rfl
 |global g=>cases hx;rfl
 |func f=>cases hx;rfl
theorem jA{K:KT}{T:Tr Value}(h:Kn K T):∀{xs:List Operand} {vs:List Value},vU K xs=some vs->xs.map (ev T)=vs
 |[],vs,hx=>by cases hx;rfl
 |x::xs,vs,hx=>by
  unfold vU at hx
  split at hx
  ·rename_i v h1
   split at hx
   ·rename_i vs' h2
    cases hx
    simp only[List.map_cons,aT h h1,jA h h2]
   ·cases hx
  ·cases hx
theorem nJ{K:KT}{T:Tr Value}(h:Kn K T):∀{xs:List (Nat×Operand)} {vs:List (Nat×Value)},HP K xs=some vs->xs.map (fun p=>(p.1,ev T p.2))=vs
 |[],vs,hx=>by cases hx;rfl
 |x::xs,vs,hx=>by
  unfold HP at hx
  split at hx
  ·rename_i v h1
   split at hx
   ·rename_i vs' h2
    cases hx
    simp only[List.map_cons,aT h h1,nJ h h2]
   ·cases hx
  ·cases hx
theorem pV{K:KT}{T:Tr Value}(h:Kn K T){x:Option Operand}{v:Option Value}(hx:O4 K x=some v):x.map (ev T)=v:=by
 cases x with
 |none=>cases hx;rfl
 |some x=>
  unfold O4 at hx
  dsimp only at hx
  split at hx
  ·rename_i w h1
   cases hx
   simp only[Option.map_some,aT h h1]
  ·cases hx
def KK(E:Env)(X:aF)(o:Op)(br:Bool)(pt:Option (List fO))(K:KT)(T:Tr Value)(m:M)(lo:Nat)(P:Value->M->Nat->Prop):Prop:=
 ∃v m1 w,P v m1 (min lo w)/\m.n<=m1.n/\(br=true->m.n<=w\/∃ts,pt=some ts/\iE K w ts/\eJ m T o=some w)/\
  ∃n0,∀n,n0<=n->∀l,l<=m.n->cS o E (bN E X n) T (m.wl l)=some (v,m1.wl (min l w))
theorem KK.push{o:Op}{br:Bool}{pt:Option (List fO)}{K:KT}{T:Tr Value}{m:M}{lo:Nat}{P:Value->M->Nat->Prop}{v:Value}{m1:M}(hlo:lo<=m.n)(hP:P v m1 lo)(hn:m.n<=m1.n)(h:∀n l,cS o E (bN E X n) T (m.wl l)=some (v,m1.wl l)):KK E X o br pt K T m lo P:=
 ⟨v,m1,m.n,by rw[Nat.min_eq_left hlo];exact hP,hn,fun _=> .inl (Nat.le_refl _),0,fun n _ l hl=>by rw[Nat.min_eq_left hl];exact h n l⟩
theorem KK.bt{o:Op}{br:Bool}{pt:Option (List fO)}{K:KT}{T:Tr Value}{m:M}{lo:Nat}{P:Value->M->Nat->Prop}{v:Value}(hlo:lo<=m.n)(hP:P v m lo)(h:∀n l,cS o E (bN E X n) T (m.wl l)=some (v,m.wl l)):KK E X o br pt K T m lo P:=
 .push hlo hP (Nat.le_refl _) h
theorem qd{m m1:M}{t:TypeId}{a:Addr}{x:Value}(h:storeVar E m t a x=some m1)(l:Nat):storeVar E (m.wl l) t a x=some (m1.wl (min l a.block))/\m1.n=m.n:=by
 unfold storeVar at h⊢
 cases ht:E.ty.get t with
 |none=>rw[ht]at h;cases h
 |some ti=>
  rw[ht]at h
  dsimp only at h⊢
  cases hb:Nat.beq (cells x).length ti.size with
  |false=>rw[hb]at h;cases h
  |true=>
   rw[hb]at h
   simp only[cond_true]at h⊢
   unfold storeCells at h⊢
   rw[M.bS]
   cases hg:m.get a.block with
   |cells c e g=>
    rw[hg]at h
    dsimp only at h⊢
    cases hc:(a.spot.isNone && Nat.ble (a.off+(cells x).length) c.length && (cells x).all one)with
    |false=>rw[hc]at h;cases h
    |true=>rw[hc]at h;cases h;exact⟨rfl,rfl⟩
   |_=>rw[hg]at h;cases h
theorem gW{m m1:M}{t:TypeId}{r:Nat}{k y:Value}(h:ew E m t (.map (some r)) k y=some m1)(l:Nat):ew E (m.wl l) t (.map (some r)) k y=some (m1.wl (min l r))/\m1.n=m.n:=by
 unfold ew at h⊢
 cases ht:E.ty.get t with
 |none=>rw[ht]at h;cases h
 |some ti=>
  rw[ht]at h
  dsimp only at h⊢
  rw[M.bS]
  cases hd:ti.d with
  |map kt et=>
   cases hg:m.get r with
   |map es clock=>
    rw[hd,hg]at h
    dsimp only at h⊢
    cases hk:keyed E kt k with
    |false=>rw[hk]at h;cases h
    |true=>
     rw[hk]at h
     simp only[cond_true]at h⊢
     cases hf:findKey E kt k es 0 with
     |none=>rw[hf]at h;cases h
     |some p=>
      rw[hf]at h
      cases p with
      |none=>cases h;exact⟨rfl,rfl⟩
      |some q=>cases h;exact⟨rfl,rfl⟩
   |_=>rw[hd,hg]at h;cases h
  |_=>rw[hd]at h;cases h
theorem lZ{m m1:M}{t:TypeId}{n:Nat}{ps:List (Nat×Value)}{v:Value}(h:az E m t n ps=some (v,m1))(l:Nat):az E (m.wl l) t n ps=some (v,m1.wl l)/\m.n<=m1.n:=by
 unfold az at h⊢
 split at h
 ·cases h
 ·split at h
  ·split at h
   ·cases h
   ·rename_i ti ht _ e hd _ z hz
    cases hb:(Nat.beq (cells z).length ti.es && Nat.ble (n*ti.es) 1048576)with
    |false=>rw[hb]at h;cases h
    |true=>
     rw[hb]at h
     simp only[cond_true]at h
     cases hf:fill (fun i=>some (i*ti.es,ti.es)) (fJ (cells z) n) ps with
     |none=>rw[hf]at h;cases h
     |some cs=>
      rw[hf]at h
      cases h
      refine⟨?_,Nat.le_succ _⟩
      simp only[ht,hd,hz,hb,cond_true,hf]
      rfl
  ·cases h
theorem mU{m m1:M}{t:TypeId}{x y v:Value}(h:dK E m t x y=some (v,m1))(l:Nat):dK E (m.wl l) t x y=some (v,m1.wl l)/\m.n<=m1.n:=by
 have hl:=(rZ (E:=E) (m:=m) (t:=t) (x:=x) (y:=y))
 unfold dK at h⊢
 cases ht:E.ty.get t with
 |none=>rw[ht]at h;cases h
 |some ti=>
  rw[ht]at h
  dsimp only at h⊢
  split at h
  ·rename_i e k a k' c hd
   cases he:E.ty.get e with
   |none=>rw[he]at h;cases h
   |some ei=>
    rw[he]at h
    dsimp only at h
    cases hz:ei.zero with
    |none=>rw[hz]at h;cases h
    |some z=>
     rw[hz]at h
     dsimp only at h
     split at h
     ·rename_i hc
      cases h
      refine⟨?_,Nat.le_succ _⟩
      simp only[hd,he,hz]
      rw[if_pos hc]
      rfl
     ·cases h
  ·cases h
theorem tw{m m1:M}{b:Builtin}{ts:List TypeId}{args:List Value}{v:Value}(hb:b=.len\/b=.cap\/b=.min\/b=.max)(h:an E m b ts args=some (v,m1))(l:Nat):an E (m.wl l) b ts args=some (v,m.wl l):=by
 rcases hb with rfl |rfl |rfl |rfl
 ·unfold an at h⊢
  split at h
  all_goals try (rename_i hq;first |cases hq |skip)
  all_goals first |(simp only[cV];cases hl:nF E m _ _ with |none=>rw[hl]at h;cases h |some w=>rw[hl]at h;cases h;rfl) |cases h |skip
 ·unfold an at h⊢
  split at h
  all_goals try (rename_i hq;first |cases hq |skip)
  ·split at h
   ·split at h
    ·rename_i ti ht _ _ e a n c hd
     cases hs:lI m a with
     |true=>rw[hs]at h;cases h
     |false=>
      rw[hs]at h;cases h
      simp only[ht,hd,cf,hs,cond_false]
    ·rename_i ti ht _ _ e n c hd
     cases h
     simp only[ht,hd]
    ·cases h
   ·cases h
  ·cases h
 ·have h:(db (fun x y=>if y < x then y else x) args).map (·,m)=some (v,m1):=h
  show(db (fun x y=>if y < x then y else x) args).map (·,m.wl l)=some (v,m.wl l)
  cases hl:db (fun x y=>if y < x then y else x) args with
  |none=>rw[hl]at h;cases h
  |some w=>rw[hl]at h;cases h;rfl
 ·have h:(db (fun x y=>if y >x then y else x) args).map (·,m)=some (v,m1):=h
  show(db (fun x y=>if y >x then y else x) args).map (·,m.wl l)=some (v,m.wl l)
  cases hl:db (fun x y=>if y >x then y else x) args with
  |none=>rw[hl]at h;cases h
  |some w=>rw[hl]at h;cases h;rfl
noncomputable section
def AF:List Value->Nat->KT
 |[],_=> .e
 |v::vs,i=>(AF vs (i+1)).set i (.v v)
def Df(E:Env)(K:KT)(m:M):List ResultVar->(List Value->Prop)->Prop
 |[],f=>f []
 |.tmp t::rs,f=>ah (match K.get t with |some k=>some k.val |none=>none) fun v=>Df E K m rs fun vs=>f (v::vs)
 |.cell a t::rs,f=>ah (match K.get a with |some k=>some k.val |none=>none) fun a=>ah (ag E m t a) fun v=>Df E K m rs fun vs=>f (v::vs)
def aR:List Value->Value
 |[v]=>v
 |vs=> .tuple vs.toArray
def post(E:Env)(rs:List ResultVar)(R:List Value->M->Nat->Prop):Ex->St->Prop:=fun e s=>match e with
 |.exit _=>False
 |_=>Df E s.K s.m rs fun vs=>R vs s.m s.lo
def Bw(rs:List ResultVar):List Nat:=rs.map fun |.tmp t=>t |.cell a _=>a
def dt(E:Env)(W:Words)(fn:Func)(args:List Value)(m:M)(R:List Value->M->Nat->Prop):Prop:=
 match fn.body with
 |some body=>ta E W body (Bw fn.results.toList) ⟨AF args 0,m,m.n⟩ (post E fn.results.toList R)
 |none=>False
end
end
end Go.D
namespace Go.D
open Go
section
variable {E:Env} {X:aF}
theorem Ie{br:Bool}{pt:Option (List fO)}{K:KT}{c P:Prop}{b:Nat}:Pa br pt K c b P↔(br=true->c\/∃ts,pt=some ts/\iE K b ts)/\P:=by
 cases br with
 |true=>
  cases pt with
  |none=>exact⟨fun h=>⟨fun _=> .inl h.1,h.2⟩,fun h=>⟨(h.1 rfl).elim id (fun⟨_,h,_⟩=>by cases h),h.2⟩⟩
  |some ts=>exact⟨fun h=>⟨fun _=>h.1.imp id (fun x=>⟨ts,rfl,x⟩),h.2⟩,fun h=>⟨(h.1 rfl).imp id (fun⟨_,h,x⟩=>by cases h;exact x),h.2⟩⟩
 |false=>exact⟨fun h=>⟨(fun e=>by cases e),h⟩,fun h=>h.2⟩
theorem Ic{br:Bool}{pt:Option (List fO)}{K:KT}{c P:Prop}{bo:Option Nat}{b:Nat}:O9 br pt K c bo b P↔(br=true->c\/∃ts,pt=some ts/\iE K b ts/\bo=some b)/\P:=by
 cases br with
 |true=>
  cases pt with
  |none=>exact⟨fun h=>⟨fun _=> .inl h.1,h.2⟩,fun h=>⟨(h.1 rfl).elim id (fun⟨_,h,_⟩=>by cases h),h.2⟩⟩
  |some ts=>exact⟨fun h=>⟨fun _=>h.1.imp id (fun x=>⟨ts,rfl,x.2,x.1⟩),h.2⟩,fun h=>⟨(h.1 rfl).imp id (fun⟨_,h,x⟩=>by cases h;exact⟨x.2,x.1⟩),h.2⟩⟩
 |false=>exact⟨fun h=>⟨(fun e=>by cases e),h⟩,fun h=>h.2⟩
theorem tz{c:Call}{K:KT}{T:Tr Value}{m:M}{args:List Value}{b:Nat}(hk:Kn K T)(hs:Bt c=true)(ha:vU K c.args.toList=some args)(hb:sS m args=some b):eJ m T (.call c)=some b:=by
 unfold Bt at hs
 split at hs
 ·rename_i g x hc hx
  have hg:=Nat.eq_of_beq_eq_true hs
  rw[hx]at ha
  unfold vU at ha
  split at ha
  ·rename_i v hv
   have ha:some [v]=some args:=ha
   cases ha
   unfold sS at hb
   split at hb
   ·rename_i a he
    cases he
    unfold eJ
    dsimp only
    rw[hc,hx]
    dsimp only
    rw[aT hk hv]
    have h2:Nat.beq g tI=true:=hs
    show(bif Nat.beq g tI && true && true then ma m a else none)=some b
    rw[h2]
    exact hb
   ·cases hb
  ·cases ha
 ·cases hs
def JV(ops:Array Oper)(j i:Nat)(o:Oper)(ts:List fO):Prop:=
 (∃t,o.op=.alloc t)\/(∃t y,o.op=.box t y)\/(∃t s g,o.op=.load t (.tmp s)/\oh ops j i s=true/\((o.guard=none/\g=none)\/∃q want d,o.guard=some (q,want)/\(ops.toList[q]?).bind (·.dst)=some d/\oh ops j i d=true/\g=some (d,want))/\(true,s,g)∈ts)\/
  kM o.op=true\/∃s,lenOf o.op=some s/\oh ops j i s=true/\(false,s,none)∈ts
theorem JV.more{ops:Array Oper}{j i:Nat}{o:Oper}{ts:List fO}{x:fO}(h:JV ops j i o ts):JV ops j i o (x::ts):=by
 rcases h with h |h |⟨t,s,g,h1,h2,h3,h4⟩ |h |⟨s,h1,h2,h3⟩
 ·exact .inl h
 ·exact .inr (.inl h)
 ·exact .inr (.inr (.inl ⟨t,s,g,h1,h2,h3,List.mem_cons_of_mem _ h4⟩))
 ·exact .inr (.inr (.inr (.inl h)))
 ·exact .inr (.inr (.inr (.inr ⟨s,h1,h2,List.mem_cons_of_mem _ h3⟩)))
theorem eg{bf:Array Nat}{ops:Array Oper}{j:Nat}:∀(l:List (Oper×Nat)) (ts:List fO),
  l.foldr (Gf bf ops j) (some [])=some ts->∀o i,(o,i)∈l->(i==j ||er o.op ||(bf.getD j 0).testBit i ||(bf.getD i 0).testBit j)=true\/
    (Nat.blt i j=true/\JV ops j i o ts)
 |[],ts,_,o,i,hm=>by cases hm
 |(o',i')::l,ts,h,o,i,hm=>by
  rw[List.foldr_cons]at h
  unfold Gf at h
  dsimp only at h
  cases hc:(i'==j ||er o'.op ||(bf.getD j 0).testBit i' ||(bf.getD i' 0).testBit j)with
  |true=>
   rw[hc]at h
   simp only[cond_true]at h
   rcases List.mem_cons.1 hm with e |hm
   ·cases e;exact .inl hc
   ·exact eg l ts h o i hm
  |false=>
   rw[hc]at h
   simp only[cond_false]at h
   cases hb:Nat.blt i' j with
   |false=>rw[hb]at h;cases h
   |true=>
    rw[hb]at h
    simp only[cond_true]at h
    split at h
    ·rename_i t hop
     rcases List.mem_cons.1 hm with e |hm
     ·cases e;exact .inr ⟨hb,.inl ⟨t,hop⟩⟩
     ·exact eg l ts h o i hm
    ·rename_i t y hop
     rcases List.mem_cons.1 hm with e |hm
     ·cases e;exact .inr ⟨hb,.inr (.inl ⟨t,y,hop⟩)⟩
     ·exact eg l ts h o i hm
    ·rename_i t s hop
     cases hs:oh ops j i' s with
     |false=>rw[hs]at h;cases h
     |true=>
      rw[hs]at h
      simp only[cond_true]at h
      cases hg:o'.guard with
      |none=>
       rw[hg]at h
       simp only[Option.map_eq_some_iff]at h
       obtain⟨ts',h,rfl⟩:=h
       rcases List.mem_cons.1 hm with e |hm
       ·cases e;exact .inr ⟨hb,.inr (.inr (.inl ⟨t,s,none,hop,hs,.inl ⟨hg,rfl⟩,List.mem_cons_self⟩))⟩
       ·exact(eg l ts' h o i hm).imp id (fun⟨q1,q2⟩=>⟨q1,q2.more⟩)
      |some gw=>
       obtain⟨q,want⟩:=gw
       rw[hg]at h
       dsimp only at h
       cases hd:(ops.toList[q]?).bind (·.dst)with
       |none=>rw[hd]at h;cases h
       |some d=>
        rw[hd]at h
        dsimp only at h
        cases hs2:oh ops j i' d with
        |false=>rw[hs2]at h;cases h
        |true=>
         rw[hs2]at h
         simp only[cond_true,Option.map_eq_some_iff]at h
         obtain⟨ts',h,rfl⟩:=h
         rcases List.mem_cons.1 hm with e |hm
         ·cases e;exact .inr ⟨hb,.inr (.inr (.inl ⟨t,s,some (d,want),hop,hs,.inr ⟨q,want,d,hg,hd,hs2,rfl⟩,List.mem_cons_self⟩))⟩
         ·exact(eg l ts' h o i hm).imp id (fun⟨q1,q2⟩=>⟨q1,q2.more⟩)
    ·cases hmm:kM o'.op with
     |true=>
      rw[hmm,cond_true]at h
      rcases List.mem_cons.1 hm with e |hm
      ·cases e;exact .inr ⟨hb,.inr (.inr (.inr (.inl hmm)))⟩
      ·exact eg l ts h o i hm
     |false=>
      rw[hmm,cond_false]at h
      split at h
      ·rename_i s hop
       cases hs:oh ops j i' s with
       |false=>rw[hs]at h;cases h
       |true=>
        rw[hs]at h
        simp only[cond_true,Option.map_eq_some_iff]at h
        obtain⟨ts',h,rfl⟩:=h
        rcases List.mem_cons.1 hm with e |hm
        ·cases e;exact .inr ⟨hb,.inr (.inr (.inr (.inr ⟨s,hop,hs,List.mem_cons_self⟩)))⟩
        ·exact(eg l ts' h o i hm).imp id (fun⟨q1,q2⟩=>⟨q1,q2.more⟩)
      ·cases h
theorem nR{K:KT}{b:Nat}:∀{ts:List fO} {c:Bool} {t:Nat} {g:Option (Nat×Bool)},iE K b ts->(c,t,g)∈ts->
  match c,g with |true,none=>fq (K.get t) b |true,some (d,want)=>wD (K.get d) want (fq (K.get t) b) |false,_=>vj (K.get t)
 |(c',t',g')::ts,c,t,g,h,hm=>by
  rcases List.mem_cons.1 hm with e |hm
  ·cases e
   cases c' with
   |false=>exact h.1
   |true=>
    cases g' with
    |none=>exact h.1
    |some p=>obtain⟨d,want⟩:=p;exact h.1
  ·have h2:iE K b ts:=by
    cases c' with
    |false=>exact h.2
    |true=>
     cases g' with
     |none=>exact h.2
     |some p=>obtain⟨d,want⟩:=p;exact h.2
   exact nR h2 hm
theorem Dh{ops:Array Oper}{j b:Nat}{K:KT}{T:Tr Value}{ts:List fO}(h:Ae ops j=some ts)(ha:iE K b ts)(hk:Kn K T):jX ops j b T=true:=by
 unfold Ae at h
 unfold jX
 refine List.all_eq_true.2 fun x hx=>?_
 obtain⟨o,i⟩:=x
 dsimp only
 rcases eg _ _ h o i hx with h1 |⟨h1,h2⟩
 ·rw[h1];rfl
 ·rcases h2 with⟨t,h2⟩ |⟨t,y,h2⟩ |⟨t,s,g,h2,h3,h4,h5⟩ |h2 |⟨s,h2,h3,h5⟩
  ·rw[h1,h2];simp
  ·rw[h1,h2];simp
  ·have h3:(ops.toList.zipIdx.all fun(q,k)=> !(Nat.ble i k && Nat.blt k j && q.dst==some s))=true:=h3
   have hmem:=nR ha h5
   have hap:fq (K.get s) b->∃a:Addr,gk T s=.pointer (some a)/\(a.block==b)=false:=fun hav=>by
    unfold fq at hav
    split at hav
    ·rename_i a hg
     exact⟨a,by simp only[gk,hk s _ hg,Option.getD_some,KV.val],by simpa using hav⟩
    ·exact hav.elim
   rcases h4 with⟨h4,rfl⟩ |⟨q,want,d,h4,h6,h7,rfl⟩
   ·obtain⟨a,e,hne⟩:=hap hmem
    rw[h1,h2]
    dsimp only
    rw[h3,h4,e]
    dsimp only
    rw[hne]
    simp
   ·have hav:wD (K.get d) want (fq (K.get s) b):=hmem
    have h7:(ops.toList.zipIdx.all fun(q,k)=> !(Nat.ble i k && Nat.blt k j && q.dst==some d))=true:=h7
    have hw:bT ops T o=false\/fq (K.get s) b:=by
     unfold bT
     rw[h4]
     dsimp only
     rw[h6]
     dsimp only
     unfold wD at hav
     split at hav
     ·rename_i b' hg
      have e:gk T d=.bool b':=by simp only[gk,hk d _ hg,Option.getD_some,KV.val]
      rw[e]
      dsimp only
      cases hbw:b'==want with
      |false=>exact .inl rfl
      |true=>rw[hbw]at hav;exact .inr hav
     ·rename_i hg
      have e:gk T d=undef:=by simp only[gk,hk d _ hg,Option.getD_some,KV.val]
      rw[e]
      exact .inl rfl
     ·exact hav.elim
    rcases hw with hw |hav
    ·rw[h1,h2]
     dsimp only
     rw[h3,hw,h4]
     dsimp only
     rw[h6]
     dsimp only
     rw[h7]
     simp
    ·obtain⟨a,e,hne⟩:=hap hav
     rw[h1,h2]
     dsimp only
     rw[h3,h4,e]
     dsimp only
     rw[h6]
     dsimp only
     rw[h7,hne]
     simp
  ·have:∃c,o.op=.call c:=by
    cases ho:o.op <;>rw[ho]at h2 <;>first |exact⟨_,rfl⟩ |cases h2
   obtain⟨c,hc⟩:=this
   rw[h1,hc]
   rw[hc]at h2
   dsimp only
   rw[h2]
   simp
  ·have:∃c,o.op=.call c:=by
    cases ho:o.op <;>rw[ho]at h2 <;>first |exact⟨_,rfl⟩ |cases h2
   obtain⟨c,hc⟩:=this
   have h3:(ops.toList.zipIdx.all fun(q,k)=> !(Nat.ble i k && Nat.blt k j && q.dst==some s))=true:=h3
   have hav:vj (K.get s):=nR ha h5
   rw[h1,hc]
   rw[hc]at h2
   dsimp only
   rw[h2]
   dsimp only
   rw[h3]
   have hnm:∀r,gk T s≠.map r:=by
    intro r hr
    unfold vj at hav
    cases hg:K.get s with
    |none=>rw[hg]at hav;exact hav.elim
    |some k=>
     have e2:gk T s=k.val:=by simp only[gk,hk s _ hg,Option.getD_some]
     rw[hg]at hav
     cases k with
     |u=>rw[hr]at e2;cases e2
     |v x=>
      rw[hr]at e2
      have e2:Value.map r=x:=e2
      subst e2
      exact hav.elim
   cases hq:gk T s <;>first |exact absurd hq (hnm _) |simp
theorem qa{o:Op}{br:Bool}{pt:Option (List fO)}{K:KT}{T:Tr Value}{m:M}{lo:Nat}{P:Value->M->Nat->Prop}{v:Value}{m1:M}{f:M->Option (Value×M)}
  (hop:∀n m,cS o E (bN E X n) T m=f m) (hl:bd m f) (h1:f (m.wl m.n)=some (v,m1)) (hP:JL br (m.n<=m1.low) (P v m1 (min lo m1.low))):KK E X o br pt K T m lo P:=by
 obtain⟨hc,hP⟩:=qX.1 hP
 refine⟨v,m1,m1.low,hP,hl.EG _ h1,fun hb=> .inl (hc hb),0,fun n _ l hl'=>?_⟩
 rw[hop,hl.eq l hl',h1]
 rfl
theorem Cs{o:Op}{br:Bool}{pt:Option (List fO)}{K:KT}{T:Tr Value}{m:M}{lo:Nat}{P:Value->M->Nat->Prop}(h:Qz E (aI E X) o br pt K m lo P)(hk:Kn K T)(hlo:lo<=m.n):KK E X o br pt K T m lo P:=by
 cases o <;>dsimp only[Qz]at h
 case move x=>
  obtain⟨x',hx,h⟩:=aS.1 h
  exact .bt hlo h fun n l=>by simp only[cS,uZ,aT hk hx]
 case assign x=>
  obtain⟨x',hx,h⟩:=aS.1 h
  exact .bt hlo h fun n l=>by simp only[cS,uZ,aT hk hx]
 case pick c a b=>
  obtain⟨c',hc,h⟩:=aS.1 h
  obtain⟨q,rfl,h⟩:=vQ.1 h
  cases q with
  |true=>
   obtain⟨x',hx,h⟩:=aS.1 h
   exact .bt hlo h fun n l=>by simp only[cS,nz,aT hk hc,aT hk hx,cond_true]
  |false=>
   obtain⟨x',hx,h⟩:=aS.1 h
   exact .bt hlo h fun n l=>by simp only[cS,nz,aT hk hc,aT hk hx,cond_false]
 case alloc t=>
  obtain⟨z,hz,h⟩:=aS.1 h
  exact .push hlo h (Nat.le_succ _) fun n l=>by simp only[cS,oE,hz];rfl
 case box t x=>
  obtain⟨x',hx,h⟩:=aS.1 h
  exact .push hlo h (Nat.le_succ _) fun n l=>by simp only[cS,Gs,aT hk hx];rfl
 case build t ps=>
  obtain⟨ps',hp,h⟩:=aS.1 h
  obtain⟨v,hv,h⟩:=aS.1 h
  exact .bt hlo h fun n l=>by simp only[cS,oD,nJ hk hp,hv]
 case buildSlice t k ps=>
  obtain⟨ps',hp,h⟩:=aS.1 h
  obtain⟨v,m1,hv,h⟩:=jO.1 h
  exact .push hlo h (lZ hv 0).2 fun n l=>by simp only[cS,kK,nJ hk hp,(lZ hv l).1]
 case insert t x k y=>
  obtain⟨x',hx,h⟩:=aS.1 h
  obtain⟨k',hk',h⟩:=aS.1 h
  obtain⟨y',hy,h⟩:=aS.1 h
  obtain⟨m1,b,hv,hQ⟩:=jO.1 h
  obtain⟨hc,hP⟩:=qX.1 hQ
  unfold qT at hv
  split at hv
  ·rename_i r
   split at hv
   ·rename_i m2 hu
    cases hv
    refine⟨undef,m1,b,hP,by rw[(gW hu 0).2];exact Nat.le_refl _,fun hb=> .inl (hc hb),0,fun n _ l hl=>?_⟩
    simp only[cS,eh,aT hk hx,aT hk hk',aT hk hy,(gW hu l).1]
   ·cases hv
  ·cases hv
 case load t a=>
  obtain⟨a',ha,h⟩:=aS.1 h
  obtain⟨v,hv,hP⟩:=aS.1 h
  unfold ag at hv
  split at hv
  ·exact .bt hlo hP fun n l=>by simp only[cS,rU,aT hk ha,se,hv]
  ·cases hv
 case store t a x=>
  obtain⟨a',ha,h⟩:=aS.1 h
  obtain⟨x',hx,h⟩:=aS.1 h
  obtain⟨m1,b,hv,hQ⟩:=jO.1 h
  obtain⟨hc,hP⟩:=Ie.1 hQ
  unfold aw at hv
  split at hv
  ·rename_i ad _
   split at hv
   ·rename_i m2 hu
    cases hv
    refine⟨undef,m1,ad.block,hP,by rw[(qd hu 0).2];exact Nat.le_refl _,fun hb=>(hc hb).imp id (fun⟨ts,h1,h2⟩=>⟨ts,h1,h2,by simp only[eJ,aT hk ha]⟩),0,fun n _ l hl=>?_⟩
    simp only[cS,kI,aT hk ha,aT hk hx,(qd hu l).1]
   ·cases hv
  ·cases hv
 case nilCheck x=>
  obtain⟨x',hx,h⟩:=aS.1 h
  obtain⟨v,hv,h⟩:=aS.1 h
  unfold lO at hv
  split at hv
  ·cases hv;exact .bt hlo h fun n l=>by simp only[cS,fE,aT hk hx]
  ·cases hv;exact .bt hlo h fun n l=>by simp only[cS,fE,aT hk hx]
  ·cases hv
 case binOp op t x y _=>
  obtain⟨x',hx,h⟩:=aS.1 h
  obtain⟨y',hy,h⟩:=aS.1 h
  obtain⟨v,hv,h⟩:=aS.1 h
  exact .bt hlo h fun n l=>by simp only[cS,xY,aT hk hx,aT hk hy,hv]
 case unOp op t x=>
  obtain⟨x',hx,h⟩:=aS.1 h
  obtain⟨v,hv,h⟩:=aS.1 h
  exact .bt hlo h fun n l=>by simp only[cS,Gr,aT hk hx,hv]
 case convert s d x=>
  obtain⟨x',hx,h⟩:=aS.1 h
  obtain⟨v,hv,h⟩:=aS.1 h
  exact .bt hlo h fun n l=>by simp only[cS,Ak,aT hk hx,MR,hv]
 case makeFunc f a b=>
  obtain⟨a',ha,h⟩:=aS.1 h
  obtain⟨b',hb,h⟩:=aS.1 h
  split at h
  ·exact .bt hlo h fun n l=>by simp only[cS,gG,jA hk ha,jA hk hb]
  ·exact h.elim
 case makeMap t r=>
  cases r with
  |none=>exact .push (m1:=m.push (.map [] 0)) hlo h (Nat.le_succ _) fun n l=>by simp only[cS,mw];rfl
  |some r=>exact h.elim
 case makeSlice t x y=>
  obtain⟨x',hx,h⟩:=aS.1 h
  obtain⟨y',hy,h⟩:=aS.1 h
  obtain⟨v,m1,hv,h⟩:=jO.1 h
  exact .push hlo h (mU hv 0).2 fun n l=>by simp only[cS,qi,aT hk hx,aT hk hy,(mU hv l).1]
 case slice t x a b c=>
  obtain⟨x',hx,h⟩:=aS.1 h
  obtain⟨a',ha,h⟩:=aS.1 h
  obtain⟨b',hb,h⟩:=aS.1 h
  obtain⟨c',hc,h⟩:=aS.1 h
  obtain⟨v,hv,h⟩:=aS.1 h
  exact .bt hlo h fun n l=>by simp only[cS,uY,aT hk hx,pV hk ha,pV hk hb,pV hk hc,Dc,hv]
 case fieldAddr s x f=>
  obtain⟨x',hx,h⟩:=aS.1 h
  obtain⟨v,hv,h⟩:=aS.1 h
  exact .bt hlo h fun n l=>by simp only[cS,ic,aT hk hx,hv]
 case field t x f=>
  obtain⟨x',hx,h⟩:=aS.1 h
  obtain⟨v,hv,h⟩:=aS.1 h
  exact .bt hlo h fun n l=>by simp only[cS,oC,aT hk hx,hv]
 case indexAddr t x i=>
  obtain⟨x',hx,h⟩:=aS.1 h
  obtain⟨i',hi,h⟩:=aS.1 h
  obtain⟨v,hv,h⟩:=aS.1 h
  exact .bt hlo h fun n l=>by simp only[cS,ib,aT hk hx,aT hk hi,hv]
 case index t x i=>
  obtain⟨x',hx,h⟩:=aS.1 h
  obtain⟨i',hi,h⟩:=aS.1 h
  obtain⟨v,hv,h⟩:=aS.1 h
  exact .bt hlo h fun n l=>by simp only[cS,oB,aT hk hx,aT hk hi,hv]
 case lookup t x i ok=>
  obtain⟨x',hx,h⟩:=aS.1 h
  obtain⟨i',hi,h⟩:=aS.1 h
  obtain⟨v,hv,h⟩:=aS.1 h
  exact .bt hlo h fun n l=>by simp only[cS,rT,aT hk hx,aT hk hi,Ar,hv]
 case mapUpdate t x k y=>
  obtain⟨x',hx,h⟩:=aS.1 h
  obtain⟨k',hk',h⟩:=aS.1 h
  obtain⟨y',hy,h⟩:=aS.1 h
  obtain⟨m1,b,hv,hQ⟩:=jO.1 h
  obtain⟨hc,hP⟩:=qX.1 hQ
  unfold qT at hv
  split at hv
  ·rename_i r
   split at hv
   ·rename_i m2 hu
    cases hv
    refine⟨undef,m1,b,hP,by rw[(gW hu 0).2];exact Nat.le_refl _,fun hb=> .inl (hc hb),0,fun n _ l hl=>?_⟩
    simp only[cS,eh,aT hk hx,aT hk hk',aT hk hy,(gW hu l).1]
   ·cases hv
  ·cases hv
 case mapEntry t x k=>
  obtain⟨x',hx,h⟩:=aS.1 h
  obtain⟨k',hk',h⟩:=aS.1 h
  obtain⟨v,m1,hv,h⟩:=jO.1 h
  exact qa (f:=fun m=>dF E m t x' k') (fun n m=>by simp only[cS,nA,aT hk hx,aT hk hk']) tn hv h
 case entryStore t x s y=>
  obtain⟨x',hx,h⟩:=aS.1 h
  obtain⟨s',hs',h⟩:=aS.1 h
  obtain⟨y',hy,h⟩:=aS.1 h
  obtain⟨m1,hv,h⟩:=aS.1 h
  refine qa (v:=undef) (m1:=m1) (f:=fun m=>(cD m x' s' y').map fun m=>(undef,m)) (fun n m=>?_) qG (by rw[hv];rfl) h
  simp only[cS,iO,aT hk hx,aT hk hs',aT hk hy]
  cases cD m x' s' y' <;>rfl
 case typeAssert x s t ok=>
  obtain⟨x',hx,h⟩:=aS.1 h
  obtain⟨v,hv,hP⟩:=aS.1 h
  refine .bt hlo hP fun n l=>?_
  show lN x t ok E (bN E X n) T (m.wl l)=_
  unfold lN
  rw[aT hk hx]
  unfold KH at hv
  split at hv
  ·dsimp only
   cases ok with
   |false=>cases hv
   |true=>
    simp only[cond_true]at hv⊢
    cases hz:fQ E t with
    |none=>rw[hz]at hv;cases hv
    |some z=>rw[hz]at hv;cases hv;rfl
  ·rename_i t' cs
   dsimp only
   cases hc:(ok && (Nat.beq t' t && cs.toList.isEmpty))with
   |false=>rw[hc]at hv;cases hv
   |true=>
    rw[hc]at hv
    simp only[cond_true]at hv⊢
    split at hv
    ·rename_i ti hti
     rw[hti]
     dsimp only
     cases hd:ti.d with
     |struct fs=>rw[hd]at hv;cases hv;rfl
     |_=>rw[hd]at hv;cases hv
    ·cases hv
  ·cases hv
 case extract x i=>
  obtain⟨x',hx,h⟩:=aS.1 h
  obtain⟨v,hv,hP⟩:=aS.1 h
  unfold cj at hv
  split at hv
  ·exact .bt hlo hP fun n l=>by simp only[cS,ja,aT hk hx,hv]
  ·cases hv
 case call c=>
  split at h
  ·rename_i f hf
   obtain⟨f',h1,h⟩:=aS.1 h
   obtain⟨g,fi,ca,rfl,h⟩:=xZ.1 h
   obtain⟨args,h2,v,m1,b,⟨hnle,_,n0,hc⟩,h⟩:=aS.1 h
   have hh:(br=true->m.n<=b\/∃ts,pt=some ts/\iE K b ts/\eJ m T (.call c)=some b)/\P v m1 (min lo b):=by
    cases hs:Bt c with
    |false=>
     rw[hs,cond_false]at h
     obtain⟨hbr,hP⟩:=qX.1 h
     exact⟨fun hb=> .inl (hbr hb),hP⟩
    |true=>
     rw[hs,cond_true]at h
     obtain⟨hbr,hP⟩:=Ic.1 h
     refine⟨fun hb=>(hbr hb).imp id fun⟨ts,x1,x2,x3⟩=>⟨ts,x1,x2,?_⟩,hP⟩
     have hz:sS m args=some b:=x3
     exact tz hk hs h2 hz
   obtain⟨hbr,hP⟩:=hh
   refine⟨v,m1,b,hP,hnle,hbr,n0,fun n hn l hl=>?_⟩
   simp only[cS,kJ,hf,aT hk h1,jA hk h2,hc n hn l hl]
  ·rename_i b hb
   obtain⟨args,h2,h⟩:=aS.1 h
   have hop:∀n m,cS (.call c) E (bN E X n) T m=an E m b c.argTypes.toList args:=fun n m=>by simp only[cS,kJ,hb,jA hk h2]
   have bt:(b=.len\/b=.cap\/b=.min\/b=.max)->(aK (an E m b c.argTypes.toList args) fun v _=>P v m lo)->KK E X (.call c) br pt K T m lo P:=fun hbk h=>by
    obtain⟨v,m1,hv,h⟩:=jO.1 h
    exact .bt hlo h fun n l=>by rw[hop];exact tw hbk hv l
   have gen:(aK (an E (m.wl m.n) b c.argTypes.toList args) fun v m1=>JL br (m.n<=m1.low) (P v m1 (min lo m1.low)))->KK E X (.call c) br pt K T m lo P:=fun h=>by
    obtain⟨v,m1,hv,h⟩:=jO.1 h
    exact qa hop wo hv h
   unfold NP at h
   split at h
   ·exact bt (.inl rfl) h
   ·exact bt (.inr (.inl rfl)) h
   ·exact bt (.inr (.inr (.inl rfl))) h
   ·exact bt (.inr (.inr (.inr rfl))) h
   ·exact gen h
  ·exact h.elim
 all_goals exact h.elim
theorem qL{ops:Array Oper}{T:Tr Value}{o:Oper}{b:Bool}(h:bT ops T o=b){m:M}:bT ops (Fr.T ⟨T,m⟩) o=b:=h
theorem wO{ops:Array Oper}{K:KT}{T:Tr Value}{o:Oper}{P S:KT->Prop}(h:EN ops K o P S)(hk:Kn K T):∃K',Kn K' T/\((bT ops T o=true/\P K')\/(bT ops T o=false/\S K')):=by
 unfold EN at h
 unfold bT
 split at h
 ·rename_i hg
  rw[hg];exact⟨K,hk,.inl ⟨rfl,h⟩⟩
 ·rename_i j want hg
  rw[hg]
  dsimp only
  split at h
  ·rename_i d hd
   rw[hd]
   dsimp only
   split at h
   ·rename_i v hv
    obtain⟨b,rfl,h⟩:=vQ.1 h
    have e:gk T d=.bool b:=by simp only[gk,hk d _ hv,Option.getD_some,KV.val]
    rw[e]
    have hk':=hk.again hv
    cases b with
    |true=>
     cases want with
     |true=>exact⟨_,hk',.inl ⟨rfl,h⟩⟩
     |false=>exact⟨_,hk',.inr ⟨rfl,h⟩⟩
    |false=>
     cases want with
     |true=>exact⟨_,hk',.inr ⟨rfl,h⟩⟩
     |false=>exact⟨_,hk',.inl ⟨rfl,h⟩⟩
   ·rename_i hv
    have e:gk T d=undef:=by simp only[gk,hk d _ hv,Option.getD_some,KV.val]
    rw[e]
    exact⟨K,hk,.inr ⟨rfl,h⟩⟩
   ·exact h.elim
  ·rename_i hd
   rw[hd]
   exact⟨K,hk,.inr ⟨rfl,h⟩⟩
theorem nh{d:Bool}{ops:Array Oper}:∀(l:List Oper) (j:Nat) (s:St) (P:St->Prop),EO E (aI E X) d ops l j s P->∀T,Kn s.K T->s.lo<=s.m.n->
  ∃s' T',P s'/\Kn s'.K T'/\s.m.n<=s'.m.n/\s'.lo<=s'.m.n/\∃n0,∀n,n0<=n->
   (bif d then eZ E (bN E X n) ops l j ⟨T,s.m.wl s.lo⟩else th E (bN E X n) ops l ⟨T,s.m.wl s.lo⟩)=some ⟨T',s'.m.wl s'.lo⟩
 |[],j,s,P,h,T,hk,hlo=>⟨s,T,h,hk,Nat.le_refl _,hlo,0,fun n _=>by cases d <;>rfl⟩
 |o::rest,j,s,P,h,T,hk,hlo=>by
  unfold EO at h
  obtain⟨K1,hk,⟨hw,h⟩ |⟨hw,h⟩⟩:=wO h hk
  ·obtain⟨v,m1,w,hrest,hnle,hbr,n1,hop⟩:=Cs h hk hlo
   obtain⟨s',T',hP,hk',hnle',hlo',n2,hr⟩:=nh rest (j+1) _ P hrest (put T o.dst v) (hk.put _ (.v v)) (by show min s.lo w<=m1.n;omega)
   dsimp only at hnle' hr
   refine⟨s',T',hP,hk',by omega,hlo',max n1 n2,fun n hn=>?_⟩
   have e2:=hr n (by omega)
   cases d with
   |false=>
    rw[cond_false]at e2⊢
    rw[kj,qL hw]
    dsimp only[cond_true]
    rw[hop n (by omega) s.lo hlo]
    exact e2
   |true=>
    rw[cond_true]at e2⊢
    rw[eY,qL hw]
    dsimp only[cond_true]
    have e1':cS o.op E (bN E X n) T {s.m.wl s.lo with low:=(s.m.wl s.lo).n}=some (v,m1.wl (min s.m.n w)):=hop n (by omega) s.m.n (Nat.le_refl _)
    rw[e1']
    dsimp only
    have hcond:(Nat.ble (s.m.wl s.lo).n (m1.wl (min s.m.n w)).low ||(dM ops j ||rG ops j (s.m.wl s.lo) T o.op))=true:=by
     cases hb:dM ops j with
     |true=>rw[Bool.true_or,Bool.or_true]
     |false=>
      rcases hbr (by rw[hb];rfl)with this |⟨ts,h1,h2,h3⟩
      ·have:Nat.ble (s.m.wl s.lo).n (m1.wl (min s.m.n w)).low=true:=Nat.ble_eq_true_of_le (by show s.m.n<=min s.m.n w;omega)
       rw[this];rfl
      ·rw[hb]at h1
       have:rG ops j (s.m.wl s.lo) T o.op=true:=by
        unfold rG
        have h3:eJ (s.m.wl s.lo) T o.op=some w:=h3
        rw[h3]
        exact Dh h1 h2 hk
       rw[this]
       simp
    rw[hcond]
    have e3:m1.wl (min s.lo w)={m1.wl (min s.m.n w)with low:=min (s.m.wl s.lo).low (m1.wl (min s.m.n w)).low}:=by
     show m1.wl (min s.lo w)=m1.wl (min s.lo (min s.m.n w))
     congr 1
     omega
    rw[e3]at e2
    exact e2
  ·obtain⟨s',T',hP,hk',hnle',hlo',n2,hr⟩:=nh rest (j+1) _ P h (put T o.dst undef) (hk.put _ .u) hlo
   refine⟨s',T',hP,hk',hnle',hlo',n2,fun n hn=>?_⟩
   have e2:=hr n hn
   cases d with
   |false=>
    rw[cond_false]at e2⊢
    rw[kj,qL hw]
    exact e2
   |true=>
    rw[cond_true]at e2⊢
    rw[eY,qL hw]
    exact e2
theorem V.mono{c:Code}{s:St}{Q R:Ex->St->Prop}(h:V E X c s Q)(hq:∀e s,Q e s->R e s):V E X c s R:=fun T hk hlo=>by
 obtain⟨e,s',T',h1,h2⟩:=h T hk hlo
 exact⟨e,s',T',hq _ _ h1,h2⟩
theorem V.seq{a b:Code}{s:St}{Q:Ex->St->Prop}(h:V E X a s fun e s=>e.Kr (V E X b s Q) (Q e s)):V E X (.seq a b) s Q:=fun T hk hlo=>by
 obtain⟨e,s1,T1,h1,hk1,hn1,hlo1,n1,hr1⟩:=h T hk hlo
 cases e with
 |normal=>
  obtain⟨e,s2,T2,h2,hk2,hn2,hlo2,n2,hr2⟩:=h1 T1 hk1 hlo1
  exact⟨e,s2,T2,h2,hk2,by omega,hlo2,max n1 n2,fun n hn=>by simp only[aZ,hr1 n (by omega),hr2 n (by omega)]⟩
 |exit id=>exact⟨_,s1,T1,h1,hk1,hn1,hlo1,n1,fun n hn=>by simp only[aZ,hr1 n hn]⟩
 |ret=>exact⟨_,s1,T1,h1,hk1,hn1,hlo1,n1,fun n hn=>by simp only[aZ,hr1 n hn]⟩
theorem V.N0{c:Code}{s:St}{Q:Ex->St->Prop}{γ:Type}(μ:γ->Nat)(A:γ->Tr Value->M->Nat->Prop)(g0:γ)
  (h0:∀T,Kn s.K T->A g0 T s.m s.lo)
  (hstep:∀g T m lo,A g T m lo->lo<=m.n->∃e s' T',(e.Kr (∃g',μ g' < μ g/\A g' T' s'.m s'.lo) (Q e s'))/\Kn s'.K T'/\m.n<=s'.m.n/\s'.lo<=s'.m.n/\∃n0,∀n,n0<=n->
   aZ E (bN E X n) n c ⟨T,m.wl lo⟩=some (e,⟨T',s'.m.wl s'.lo⟩)):
  V E X (.loop c) s Q:=by
 have key:∀k g,μ g<=k->∀T m lo,A g T m lo->lo<=m.n->∃e s' T',Q e s'/\Kn s'.K T'/\m.n<=s'.m.n/\s'.lo<=s'.m.n/\∃n0,∀n,n0<=n->∀j,k+1<=j->
   ig (aZ E (bN E X n) n c) j ⟨T,m.wl lo⟩=some (e,⟨T',s'.m.wl s'.lo⟩):=by
  intro k
  induction k with
  |zero=>
   intro g hg T m lo hA hlo
   obtain⟨e,s1,T1,hQ,hk1,hn1,hlo1,n1,hr⟩:=hstep g T m lo hA hlo
   cases e with
   |normal=>obtain⟨g',hlt,_⟩:=hQ;omega
   |exit id=>exact⟨_,s1,T1,hQ,hk1,hn1,hlo1,n1,fun n hn j hj=>by
     obtain⟨j,rfl⟩:∃j',j=j'+1:=⟨j-1,by omega⟩
     simp only[ig,hr n hn]⟩
   |ret=>exact⟨_,s1,T1,hQ,hk1,hn1,hlo1,n1,fun n hn j hj=>by
     obtain⟨j,rfl⟩:∃j',j=j'+1:=⟨j-1,by omega⟩
     simp only[ig,hr n hn]⟩
  |succ k ih=>
   intro g hg T m lo hA hlo
   obtain⟨e,s1,T1,hQ,hk1,hn1,hlo1,n1,hr⟩:=hstep g T m lo hA hlo
   cases e with
   |normal=>
    obtain⟨g',hlt,hA'⟩:=hQ
    obtain⟨e,s2,T2,hQ2,hk2,hn2,hlo2,n2,hr2⟩:=ih g' (by omega) T1 s1.m s1.lo hA' hlo1
    refine⟨e,s2,T2,hQ2,hk2,Nat.le_trans hn1 hn2,hlo2,max n1 n2,fun n hn j hj=>?_⟩
    obtain⟨j,rfl⟩:∃j',j=j'+1:=⟨j-1,by omega⟩
    simp only[ig,hr n (by omega),hr2 n (by omega) j (by omega)]
   |exit id=>exact⟨_,s1,T1,hQ,hk1,hn1,hlo1,n1,fun n hn j hj=>by
     obtain⟨j,rfl⟩:∃j',j=j'+1:=⟨j-1,by omega⟩
     simp only[ig,hr n hn]⟩
   |ret=>exact⟨_,s1,T1,hQ,hk1,hn1,hlo1,n1,fun n hn j hj=>by
     obtain⟨j,rfl⟩:∃j',j=j'+1:=⟨j-1,by omega⟩
     simp only[ig,hr n hn]⟩
 intro T hk hlo
 obtain⟨e,s',T',hQ,hk',hn,hlo',n0,hr⟩:=key (μ g0) g0 (Nat.le_refl _) T s.m s.lo (h0 T hk) hlo
 exact⟨e,s',T',hQ,hk',hn,hlo',max n0 (μ g0+1),fun n hn=>by simp only[aZ,hr n (by omega) n (by omega)]⟩
theorem mo(T:Tr Value)(dst:Option Tmp)(v:Value)(t:Nat)(h:∀d,dst=some d->d≠t):(put T dst v).get t=T.get t:=by
 cases dst with
 |none=>rfl
 |some d=>simp only[put,Tr.bL];rw[if_neg (fun e=>h d rfl e.symm)]
theorem ny{call:aF}{ops:Array Oper}{t:Nat}:∀(l:List Oper) (fr fr':Fr),th E call ops l fr=some fr'->(∀o∈l,∀d,o.dst=some d->d≠t)->fr'.T.get t=fr.T.get t
 |[],fr,fr',h,_=>by cases h;rfl
 |o::rest,fr,fr',h,hd=>by
  have hr:=fun o' ho'=>hd o' (List.mem_cons_of_mem _ ho')
  have h0:=hd o List.mem_cons_self
  rw[kj]at h
  cases hw:bT ops fr.T o with
  |true=>
   rw[hw,cond_true]at h
   split at h
   ·rw[ny rest _ _ h hr];exact mo _ _ _ _ h0
   ·cases h
  |false=>
   rw[hw,cond_false]at h
   rw[ny rest _ _ h hr];exact mo _ _ _ _ h0
theorem lV{call:aF}{ops:Array Oper}{t:Nat}:∀(l:List Oper) (j:Nat) (fr fr':Fr),eZ E call ops l j fr=some fr'->(∀o∈l,∀d,o.dst=some d->d≠t)->fr'.T.get t=fr.T.get t
 |[],j,fr,fr',h,_=>by cases h;rfl
 |o::rest,j,fr,fr',h,hd=>by
  have hr:=fun o' ho'=>hd o' (List.mem_cons_of_mem _ ho')
  have h0:=hd o List.mem_cons_self
  rw[eY]at h
  cases hw:bT ops fr.T o with
  |true=>
   rw[hw,cond_true]at h
   split at h
   ·rename_i v m _
    cases hb:(Nat.ble fr.m.n m.low ||(dM ops j ||rG ops j fr.m fr.T o.op))with
    |true=>
     rw[hb,cond_true]at h
     rw[lV rest _ _ _ h hr];exact mo _ _ _ _ h0
    |false=>rw[hb,cond_false]at h;cases h
   ·cases h
  |false=>
   rw[hw,cond_false]at h
   rw[lV rest _ _ _ h hr];exact mo _ _ _ _ h0
theorem qj{body:Fr->Option (Ex×Fr)}{t:Nat}(hb:∀fr e fr',body fr=some (e,fr')->fr'.T.get t=fr.T.get t):∀(n:Nat) (fr:Fr) (e:Ex) (fr':Fr),ig body n fr=some (e,fr')->fr'.T.get t=fr.T.get t
 |0,_,_,_,h=>by cases h
 |n+1,fr,e,fr',h=>by
  unfold ig at h
  split at h
  ·rename_i fr1 h1
   rw[qj hb n _ _ _ h,hb _ _ _ h1]
  ·exact hb _ _ _ h
theorem du{call:aF}{n t:Nat}:∀(c:Code) (fr:Fr) (e:Ex) (fr':Fr),aZ E call n c fr=some (e,fr')->t∉assigned c->fr'.T.get t=fr.T.get t
 |.skip,fr,e,fr',h,_=>by cases h;rfl
 |.label _,fr,e,fr',h,_=>by cases h;rfl
 |.exit id,fr,e,fr',h,_=>by cases h;rfl
 |.ret,fr,e,fr',h,_=>by cases h;rfl
 |.goto _,fr,e,fr',h,_=>by cases h
 |.refuse _,fr,e,fr',h,_=>by cases h
 |.scope c,fr,e,fr',h,ht=>by
  simp only[aZ]at h
  exact du c _ _ _ h ht
 |.region id ops d,fr,e,fr',h,ht=>by
  have hd:∀o∈ops.toList,∀d,o.dst=some d->d≠t:=fun o ho d hd he=>ht (List.mem_filterMap.2 ⟨o,ho,by rw[hd,he]⟩)
  cases d with
  |true=>
   simp only[aZ,cond_true]at h
   cases hq:eZ E call ops ops.toList 0 fr with
   |none=>rw[hq]at h;cases h
   |some fr1=>rw[hq]at h;cases h;exact lV _ _ _ _ hq hd
  |false=>
   simp only[aZ,cond_false]at h
   cases hq:th E call ops ops.toList fr with
   |none=>rw[hq]at h;cases h
   |some fr1=>rw[hq]at h;cases h;exact ny _ _ _ hq hd
 |.seq a b,fr,e,fr',h,ht=>by
  simp only[assigned,List.mem_append,not_or]at ht
  simp only[aZ]at h
  split at h
  ·rename_i fr1 h1
   rw[du b _ _ _ h ht.2,du a _ _ _ h1 ht.1]
  ·exact du a _ _ _ h ht.1
 |.cond c x y,fr,e,fr',h,ht=>by
  simp only[assigned,List.mem_append,not_or]at ht
  simp only[aZ]at h
  split at h
  ·rename_i b _
   cases b with
   |true=>exact du x _ _ _ h ht.1
   |false=>exact du y _ _ _ h ht.2
  ·cases h
 |.block id c,fr,e,fr',h,ht=>by
  simp only[aZ]at h
  split at h
  ·rename_i id' fr1 h1
   have:=du c _ _ _ h1 ht
   cases hb:Nat.beq id' id with
   |true=>rw[hb]at h;cases h;exact this
   |false=>rw[hb]at h;cases h;exact this
  ·exact du c _ _ _ h ht
 |.loop c,fr,e,fr',h,ht=>by
  simp only[aZ]at h
  exact qj (fun fr e fr' h=>du c fr e fr' h ht) _ _ _ _ h
 |.rangeFunc g ps a b,fr,e,fr',h,ht=>by
  simp only[aZ]at h
  split at h
  ·split at h
   ·split at h
    ·split at h
     ·cases h
     ·cases h;rfl
    ·cases h
   ·cases h
  ·cases h
theorem jw:∀(ts:List Nat) (K:KT) {t:Nat} {k:KV},(forget K ts).get t=some k->t∉ts/\K.get t=some k
 |[],K,t,k,h=>⟨by simp,h⟩
 |a::ts,K,t,k,h=>by
  obtain⟨h1,h2⟩:=jw ts (K.del a) h
  rw[KT.Jt]at h2
  split at h2
  ·cases h2
  ·rename_i hne
   exact⟨by simp only[List.mem_cons,not_or];exact⟨hne,h1⟩,h2⟩
end
end Go.D
