/- One operation: D's and the model's. -/
import Derived.Test.YtmdfgncoekfgdaaGreatDoorG0J
import Derived.TacticsIn
import Derived.RangeFuncRecord
import Derived.Scope
import Derived.RecoverIn
import Derived.RangeFuncNested
noncomputable section
namespace Go.D
open Go
section
def dk(ro:Option Nat):Fence:={Fence.wide with round:=ro}
section
variable {E:Env} {P:Program} {σ:Sg} {m m':M} {w:World}
def dX(P:Program)(σ:Sg)(m:M)(w:World)(r:Result Next)(v:aed)(m':M):Prop:=
 (∃σ' w' F,aS σ' v F/\Ev P σ m w σ' m' w')/\
 ∀(ro:Option Nat) (n:Nat) (o:Oper) (a:Act) (next:Act->World->Prop) (Q:Exit->Act->World->Prop),
  (∀σ' w' F,aS σ' v F->Ev P σ m w σ' m' w'->next (a.put o.dst F) w')->o.uponIn (dk ro) n P a next Q r
def db(P:Program)(σ:Sg)(m:M)(w:World)(v:aed)(m':M):Ending->World->Prop:=λe w'=>∃F σ',e=.returned F/\aS σ' v F/\Ev P σ m w σ' m' w'
structure cQ(P:Program)(call:aG):Prop where
 func:∀f args m v m',call (.func f) args m=some (v,m')->∀σ w (args':Array aed),dY P σ m w->bC σ args args'.toList->
  CallsIn Fence.wide 0 P f args' w (db P σ m w v m')/\(callFunc f args').run P w=.ok (.enter f args') w
 yield:∀l args m v m',call (.yield l) args m=some (v,m')->∀σ w i (args':Array aed),dY P σ m w->σ l=some i->bC σ args args'.toList->dX P σ m w ((Instr.yield i.dg args').run P w) v m'
 bH:fC call
 IJ:∀a m v m' b,call (.func tP) [.pointer (some a)] m=some (v,m')->pR m a=some b->m.get b≠.dead/\m'=m.set b .dead/\∀σ w (args':Array aed),dY P σ m w->bC σ [.pointer (some a)] args'.toList->
  ∃i,σ b=some i/\CallsIn Fence.wide 0 P tP args' w (λe w'=>db P σ m w v m' e w'/\∀B,B≠i.dg->w'.heap[B]?=w.heap[B]?)/\(callFunc tP args').run P w=.ok (.enter tP args') w
theorem dX.enter{f:FuncId}{args:Array aed}{v:aed}(h:CallsIn Fence.wide 0 P f args w (db P σ m w v m')):dX P σ m w (.ok (.enter f args) w) v m':=by
 refine⟨?_,λro n o a next Q hk=>?_⟩
 ·obtain⟨e,w',fr,⟨F,σ',_,H,he⟩,_⟩:=h.2 [] (room_wide _);exact⟨σ',w',F,H,he⟩
 refine⟨λhh=>by simp[dk,Fence.wide]at hh,?_⟩;have h2:CallsIn (dk ro) (n-1) P f args w (db P σ m w v m'):=⟨trivial,λcs _=>h.2 cs (room_wide _)⟩
 refine h2.mono λe w' he=>?_;obtain⟨F,σ',rfl,H,a0⟩:=he;exact hk σ' w' F H a0
theorem Ek{F:Ending->World->Prop}{f:FuncId}{args:Array aed}(h:CallsIn Fence.wide 0 P f args w F)(ro:Option Nat)(n:Nat)(o:Oper)(a:Act)(next:Act->World->Prop)(Q:Exit->Act->World->Prop)
  (H:∀e w',F e w'->∃v',e=.returned v'/\next (a.put o.dst v') w'):o.uponIn (dk ro) n P a next Q (.ok (.enter f args) w):=by
 refine⟨λhh=>by simp[dk,Fence.wide]at hh,?_⟩;have h2:CallsIn (dk ro) (n-1) P f args w F:=⟨trivial,λcs _=>h.2 cs (room_wide _)⟩
 refine h2.mono λe w' he=>?_;obtain⟨v',rfl,hn⟩:=H e w' he;exact hn
theorem cQ.op{call:aG}(F:cQ P call)(f:FuncId)(args:aee)(m:M)(v:aed)(m':M)(h:call (.func f) args m=some (v,m'))(σ:Sg)(w:World)(args':Array aed)(H:dY P σ m w)(hl:bC σ args args'.toList):dX P σ m w ((callFunc f args').run P w) v m':=by obtain⟨h1,h2⟩:=F.func f args m v m' h σ w args' H hl;rw[h2];exact .enter h1
theorem dX.value{v v':aed}{σ':Sg}{w':World}(F:aS σ' v v')(he:Ev P σ m w σ' m' w'):dX P σ m w (.ok (.value v') w') v m':=
 ⟨⟨σ',w',v',F,he⟩,λ_ _ _ _ _ _ h=>h σ' w' v' F he⟩
theorem dX.skip{σ':Sg}{w':World}(he:Ev P σ m w σ' m' w'):dX P σ m w (.ok .skip w') undef m':=
 ⟨⟨σ',w',undef,aS.undef,he⟩,λ_ _ _ _ _ _ h=>h σ' w' undef aS.undef he⟩
theorem xW.op{s:Sem aed}{v:aed}(h:xW P σ m w s v m'):dX P σ m w ((do let x<-s;Pure.pure (Next.value x):Sem Next).run P w) v m':=by obtain⟨σ',w',v',F,H,h3⟩:=h;rw[aan,F];exact .value H h3
theorem dX.same(F:dY P σ m w){s:Sem aed}{v v':aed}(h:s.run P w=.ok v' w)(H:aS σ v v'):dX P σ m w ((do let x<-s;pure (Next.value x):Sem Next).run P w) v m:=
 (xW.pure F h H).op
def di(σ:Sg)(T:Tr aed)(a:Act)(nt:Nat):Prop:=a.tmps.size=nt/\∀t,t < nt->aS σ (gn T t) (a.eval (.tmp t))
theorem di.mono{F:Sg}{T:Tr aed}{a:Act}{nt:Nat}(h:di σ T a nt)(hle:σ.le F):di F T a nt:=⟨h.1,λt H=>(h.2 t H).mono hle⟩
theorem wY(T:Tr aed)(d:Tmp)(v:aed)(t:Nat):gn (put T (some d) v) t=if t=d then v else gn T t:=by unfold gn D.put;rw[Tr.cD];by_cases h:t=d <;>simp[h]
theorem di.put{T:Tr aed}{a:Act}{nt:Nat}{v v':aed}{dst:Option Tmp}(h:di σ T a nt)(hd:∀d,dst=some d->d < nt)(hv:aS σ v v'):di σ (put T dst v) (a.put dst v') nt:=by
 cases dst with
 |none=>exact h
 |some d=>
  have H:=hd d rfl;refine⟨by simp[Act.put,h.1],λt ht=>?_⟩;rw[wY];by_cases F:t=d
  ·subst F;have:(a.put (some t) v').eval (.tmp t)=v':=by simp[Act.put,Act.eval,h.1,H]
   rw[aaf rfl,this];exact hv
  rw[aaa F,Act.eval_put (λe he=>by cases he;simpa using F)];exact h.2 t ht
theorem wD{nt:Nat}{T:Tr aed}{a:Act}{x:Operand}(H:dY P σ m w)(hT:∀t,x=.tmp t->aS σ (gn T t) (a.eval (.tmp t)))(F:qj nt P.globals.size x=true):aS σ (ev T x) (a.eval x):=by
 cases x with
 |tmp t=>exact hT t rfl
 |const v=>exact .jB F
 |global g=>
  have hg:g < P.globals.size:=by have h:Nat.blt g P.globals.size=true:=F;rw[eK]at h;simpa using h
  exact .ptr ⟨g,0,none⟩ ⟨g,none⟩ (H.jE g hg) rfl
 |func f=>exact .flat _ rfl
theorem iC{T:Tr aed}{a:Act}(l:List Operand)(h:∀x∈l,aS σ (ev T x) (a.eval x)):bC σ (l.map (ev T)) (l.map a.eval):=by refine⟨by simp,λj u u' hu F=>?_⟩;simp only[aaA,aaj]at hu F;obtain⟨x,H,rfl⟩:=hu;obtain⟨y,hy,rfl⟩:=F;rw[H]at hy;cases hy;exact h x (aac H)
theorem xQ(hE:E.OK P)(hs:dY P σ m w){b:Builtin}{ts:Array TypeId}{ty:TypeId}{cs:Array Bool}{args args':aee}{v:aed}(h:av E m b ts.toList args=some (v,m'))(hl:bC σ args args'):
  dX P σ m w ((Go.builtin b ts ty cs args'.toArray).run P w) v m':=by
 unfold av at h;split at h
 ·rename_i t u s x H;obtain⟨s',l1,rfl,h1,d0⟩:=hl.cases;obtain⟨x',l2,rfl,h2,a0⟩:=d0.cases;obtain rfl:=a0.nil_eq;have F:ts= #[t,u]:=abl H;subst F;exact(Ax (ty:=ty) hE hs h h1 h2).op
 ·rename_i t rest d x H;obtain⟨s',l1,rfl,h1,d0⟩:=hl.cases;obtain⟨x',l2,rfl,h2,a0⟩:=d0.cases;obtain rfl:=a0.nil_eq;have F:ts[0]?=some t:=by rw[<-aaY,H];rfl
  exact(En (ty:=ty) hE hs F h h1 h2).op
 ·rename_i t x H;obtain⟨x',l2,rfl,h2,a0⟩:=hl.cases;obtain rfl:=a0.nil_eq;have F:ts= #[t]:=abl H;subst F;exact(CC (ty:=ty) hE hs h h2).op
 ·rename_i t x H;obtain⟨x',l2,rfl,h2,a0⟩:=hl.cases;obtain rfl:=a0.nil_eq;have F:ts= #[t]:=abl H;subst F;simp only[aaj,aaG]at h;obtain⟨v0,h,rfl,rfl⟩:=h;obtain⟨q1,q2⟩:=HA (ty:=ty) hE hs h h2;exact dX.same hs q1 (.flat _ q2)
 ·simp only[aaj,aaG]at h;obtain⟨v0,h,rfl,rfl⟩:=h;obtain⟨x,rest,rfl,q1,q2⟩:=oj (P:=P) (w:=w) (op:=Builtin.min2) (λk x k' y=>rfl) hl h;exact dX.same hs (s:=Builtin.min_ ts ty (x::rest).toArray) (by simpa[Builtin.min_]using q1) (.flat _ q2)
 ·simp only[aaj,aaG]at h;obtain⟨v0,h,rfl,rfl⟩:=h;obtain⟨x,rest,rfl,q1,q2⟩:=oj (P:=P) (w:=w) (op:=Builtin.max2) (λk x k' y=>rfl) hl h;exact dX.same hs (s:=Builtin.max_ ts ty (x::rest).toArray) (by simpa[Builtin.max_]using q1) (.flat _ q2)
 ·rename_i t x H;obtain⟨x',l2,rfl,h2,a0⟩:=hl.cases;obtain rfl:=a0.nil_eq;have F:ts= #[t]:=abl H;subst F;split at h
  ·rename_i ti h0;obtain⟨i,u,f⟩:=hE.lz h0;split at h
   ·rename_i e a n c hd
    rw[f.d]at hd
    obtain rfl:=dG hd
    cases b0:nM m a with
    |true=>rw[b0]at h;simp at h
    |false=>
     rw[b0]at h;simp only[cond_false,aae,aaG]at h;obtain⟨rfl,rfl⟩:=h;obtain⟨bi,a',c',i0,rfl,e0⟩:=h2.dK
     have g0:bi.gr=none:=by
      unfold nM at b0;split at b0
      ·rename_i cs te hg;obtain⟨_,_,_,_,j0⟩:=hs.cells i0 hg;exact j0.1
      cases b0
     have k0:c'=c:=by
      rcases e0 with⟨_,_,⟨_,rfl⟩ |⟨k,sz,N,hk,_⟩⟩ |⟨_,_,k,sz,N,hk,_⟩;·rfl
      ·rw[g0]at hk;cases hk
      rw[g0]at hk;cases hk
     subst k0;exact dX.same hs (s:=Builtin.cap_ #[t] ty #[.slice (some a') n c']) (by simp[Builtin.cap_,aak f.fh,goInt]) (.flat _ rfl)
   ·rename_i e n c hd;rw[f.d]at hd;obtain rfl:=dG hd;cases h;obtain⟨rfl,rfl,rfl⟩:=h2.e6;exact dX.same hs (s:=Builtin.cap_ #[t] ty #[aeg]) (by simp[Builtin.cap_,aak f.fh,goInt]) (.flat _ rfl)
   cases h
  cases h
 cases h
theorem xE.map{T:Tr aed}{a:Act}{x:Option Operand}(h:∀o,x=some o->aS σ (ev T o) (a.eval o)):xE σ (x.map (ev T)) (x.map a.eval):=by
 cases x with
 |none=>trivial
 |some o=>exact h o rfl
theorem Ez(hE:E.OK P){call:aG}(cz:cQ P call)(hs:dY P σ m w){T:Tr aed}{a:Act}{c:Call}{ty:TypeId}{v:aed}(h:kM c E call T m=some (v,m'))
  (hT:∀x∈c.operands.toList,aS σ (ev T x) (a.eval x)):dX P σ m w ((do let d<-resolve a.eval c ty;invoke d.target d.args:Sem Next).run P w) v m':=by
 unfold kM at h;have F:bC σ (c.args.toList.map (ev T)) (c.args.toList.map a.eval):=iC _ (λx hx=>hT x (by simp[Call.operands];exact .inr (by simpa using hx)));have a0:c.args.map a.eval=(c.args.toList.map a.eval).toArray:=by apply abl;simp
 unfold resolve;split at h
 ·rename_i b hc;rw[hc];simp only[aan,aaL,aai,invoke,a0];exact xQ hE hs h F
 ·rename_i f hc;rw[hc];have hf:aS σ (ev T f) (a.eval f):=hT f (by simp[Call.operands,hc]);split at h
  ·rename_i g first captured hg
   rw[hg]at hf
   obtain⟨fv,b0⟩:∃x,a.eval f=x:=⟨_,rfl⟩
   rw[b0]at hf
   cases hf with
   |flat _ hh=>
    cases g with
    |func g=>simp only[b0,Deferred.ofValue,aan,aaL,aai,invoke];refine cz.op g _ m v m' h σ w _ hs ?_;rw[a0];simp only[cy,Ψ,acq]at hh;simp only[abO,hh.1,hh.2,abz,abk];exact F
    |_=>simp[cy]at hh
   |func g _ _ d0 H ha hb h1 h2=>
    simp only[b0,Deferred.ofValue,aan,aaL,aai,invoke];refine cz.op g _ m v m' h σ w _ hs ?_;rw[a0];simp only[abO];have e1:bC σ first.toList d0.toList:=⟨by simpa using ha,λj u u' x y=>h1 j u u' (by simpa using x) (by simpa using y)⟩
    have e2:bC σ captured.toList H.toList:=⟨by simpa using hb,λj u u' x y=>h2 j u u' (by simpa using x) (by simpa using y)⟩
    rw[aa7];exact e1.append (F.append e2)
   |yield l i hl=>simp only[b0,Deferred.ofValue,aan,aaL,aai,invoke];refine cz.yield l _ m v m' h σ w i _ hs hl ?_;rw[a0];simp only[abO,abz,abk];simpa using F
  cases h
 cases h
theorem nV(hE:E.OK P){call:aG}(cz:cQ P call)(hs:dY P σ m w){T:Tr aed}{a:Act}{o:Oper}{v:aed}(h:dt o.op E call T m=some (v,m'))
  (F:∀x∈o.op.operands.toList,aS σ (ev T x) (a.eval x)):dX P σ m w ((execOp a.eval o).run P w) v m':=by
 unfold execOp
 cases ho:o.op with
 |move x=>rw[ho]at h F;dsimp only;cases h;exact .value (F x (by simp[Op.operands])) (Ev.refl hs)
 |assign x=>rw[ho]at h F;dsimp only;cases h;exact .value (F x (by simp[Op.operands])) (Ev.refl hs)
 |pick c x y=>
  rw[ho]at h F;dsimp only;simp only[dt,nW]at h;split at h
  ·rename_i t hc;simp only[aae,aaG]at h;obtain⟨rfl,rfl⟩:=h;have h1:=F c (by simp[Op.operands]);rw[hc]at h1;rw[h1.bool];simp only[asBool,aan,aaL,aai];refine .value ?_ (Ev.refl hs);cases t;·exact F y (by simp[Op.operands])
   exact F x (by simp[Op.operands])
  cases h
 |alloc t=>
  rw[ho]at h;dsimp only;simp only[dt,rp]at h;split at h
  ·rename_i z H;cases h;exact(tK hE hs H).op
  cases h
 |box t x=>rw[ho]at h F;dsimp only;cases h;exact(Iz hs (F x (by simp[Op.operands]))).op
 |build t ps=>
  rw[ho]at h F;dsimp only;simp only[dt,oV]at h;split at h
  ·rename_i z H;cases h;obtain⟨v',h1,h2⟩:=tG (w:=w) hE (T:=ev T) (A:=a.eval) (λp hp=>F p.2 (by simp only[Op.operands];exact ab9 hp)) H;exact dX.same hs h1 h2
  cases h
 |buildSlice t n ps=>rw[ho]at h F;dsimp only;simp only[dt,mW]at h;exact(tb hE hs (T:=ev T) (A:=a.eval) (λp hp=>F p.2 (by simp only[Op.operands];exact ab9 hp)) h).op
 |load t x=>
  rw[ho]at h F;dsimp only;simp only[dt,qi]at h;split at h
  ·rename_i ad hx;split at h
   ·rename_i z H;cases h;have h1:=F x (by simp[Op.operands]);rw[hx]at h1;obtain⟨i,hi,_,he⟩:=h1.eP;obtain⟨v',q1,q2,_⟩:=lT (w:=w) hE hs hi H;refine dX.same hs (s:=Instr.loadAt t (a.eval x)) ?_ q2;rw[he];simpa[Instr.loadAt,Instr.sureAddr]using q1
   cases h
  cases h
 |store t x y=>
  rw[ho]at h F;dsimp only;simp only[dt,mV]at h;split at h
  ·rename_i ad hx;split at h
   ·rename_i m2 H;cases h;have h1:=F x (by simp[Op.operands]);rw[hx]at h1;obtain⟨i,hi,_,he⟩:=h1.eP;obtain⟨w',q1,q2,_⟩:=nL hE hs hi (F y (by simp[Op.operands])) H
    have hr:(Instr.storeAt t (a.eval x) (a.eval y)).run P w=.ok () w':=by rw[he];simpa[Instr.storeAt,Instr.sureAddr]using q1
    simp only[aan,hr,aai,aaL];exact .skip q2
   cases h
  cases h
 |nilCheck x=>
  rw[ho]at h F;dsimp only;have h1:=F x (by simp[Op.operands]);simp only[dt,fS]at h;split at h
  ·rename_i ad hx;cases h;rw[hx]at h1;have h2:=h1;obtain⟨i,hi,_,he⟩:=h1.eP;rw[he]at h2⊢;exact .value h2 (Ev.refl hs)
  ·rename_i g a1 b1 hx;cases h;rw[hx]at h1;have h2:=h1;obtain⟨a',b',he,_⟩:=h1.wz;rw[he]at h2⊢;exact .value h2 (Ev.refl hs)
  cases h
 |binOp op t x y yt=>
  rw[ho]at h F;dsimp only;simp only[dt,yQ]at h;split at h
  ·rename_i z H;cases h;obtain⟨q1,q2⟩:=zp (w:=w) hE H (F x (by simp[Op.operands])) (F y (by simp[Op.operands])) x y;exact dX.same hs q1 (.flat _ q2)
  cases h
 |unOp op t x=>
  rw[ho]at h F;dsimp only;simp only[dt,Hm]at h;split at h
  ·rename_i z H;cases h;obtain⟨q1,q2⟩:=AO (P:=P) (w:=w) H (F x (by simp[Op.operands]));exact dX.same hs q1 (.flat _ q2)
  cases h
 |convert s d x=>
  rw[ho]at h F;dsimp only;simp only[dt,DK]at h;split at h
  ·rename_i z H;cases h;obtain⟨q1,q2⟩:=MQ (P:=P) (w:=w) hE hs H (F x (by simp[Op.operands]));exact dX.same hs q1 (.flat _ q2)
  cases h
 |makeFunc f x y=>
  rw[ho]at h F;dsimp only;simp only[dt,ia]at h;split at h
  ·rename_i g;cases h;have e1:bC σ (x.toList.map (ev T)) (x.toList.map a.eval):=iC _ (λo hx=>F o (by simp[Op.operands];exact .inl (by simpa using hx)));have e2:bC σ (y.toList.map (ev T)) (y.toList.map a.eval):=iC _ (λo hx=>F o (by simp[Op.operands];exact .inr (by simpa using hx)));refine dX.same hs (s:=Instr.makeFunc (.func g) (x.map a.eval) (y.map a.eval)) rfl ?_;refine .func g _ _ _ _ (by simp) (by simp) (λj u u' p q=>e1.2 j u u' (by simpa using p) (by simpa using q)) (λj u u' p q=>e2.2 j u u' (by simpa using p) (by simpa using q))
  cases h
 |makeMap t r=>
  rw[ho]at h;dsimp only;simp only[dt,oS]at h;split at h
  ·cases h;exact(xK hs t).op
  cases h
 |makeSlice t l c=>rw[ho]at h F;dsimp only;exact(tV hE hs (F l (by simp[Op.operands])) (F c (by simp[Op.operands])) h).op
 |slice t x lo hi mx=>
  rw[ho]at h F;dsimp only;simp only[dt,zJ]at h;split at h
  ·rename_i z H;cases h;obtain⟨v',q1,q2⟩:=Ba (w:=w) hE hs H (F x (by simp[Op.operands])) (xE.map (a:=a) (λo he=>F o (by simp[Op.operands,he]))) (xE.map (a:=a) (λo he=>F o (by simp[Op.operands,he]))) (xE.map (a:=a) (λo he=>F o (by simp[Op.operands,he])));exact dX.same hs q1 q2
  cases h
 |fieldAddr s x f=>
  rw[ho]at h F;dsimp only;simp only[dt,iA]at h;split at h
  ·rename_i z H;cases h;obtain⟨v',q1,q2⟩:=nB (w:=w) hE H (F x (by simp[Op.operands]));exact dX.same hs q1 q2
  cases h
 |field t x f=>
  rw[ho]at h F;dsimp only;simp only[dt,oU]at h;split at h
  ·rename_i z H;cases h;obtain⟨v',q1,q2⟩:=tA (w:=w) hE H (F x (by simp[Op.operands]));exact dX.same hs q1 q2
  cases h
 |indexAddr t x y=>
  rw[ho]at h F;dsimp only;simp only[dt,iz]at h;split at h
  ·rename_i z H;cases h;obtain⟨v',q1,q2⟩:=nA (w:=w) hE H (F x (by simp[Op.operands])) (F y (by simp[Op.operands]));exact dX.same hs q1 q2
  cases h
 |index t x y=>
  rw[ho]at h F;dsimp only;simp only[dt,oT]at h;split at h
  ·rename_i z H;cases h;obtain⟨v',q1,q2⟩:=tw (w:=w) hE H (F x (by simp[Op.operands])) (F y (by simp[Op.operands]));exact dX.same hs q1 q2
  cases h
 |lookup t x y ok=>
  rw[ho]at h F;dsimp only;simp only[dt,vO]at h;split at h
  ·rename_i z H;cases h;obtain⟨v',q1,q2⟩:=zS hE hs H (F x (by simp[Op.operands])) (F y (by simp[Op.operands]));exact dX.same hs q1 q2
  cases h
 |mapUpdate t x k y=>
  rw[ho]at h F;dsimp only;simp only[dt,fo]at h;split at h
  ·rename_i m2 H;cases h;obtain⟨w',q1,q2⟩:=ny hE hs H (F x (by simp[Op.operands])) (F k (by simp[Op.operands])) (F y (by simp[Op.operands]));simp only[aan,q1,aai,aaL];exact .skip q2
  cases h
 |insert t x k y=>
  rw[ho]at h F;dsimp only;simp only[dt,fo]at h;split at h
  ·rename_i m2 H;cases h;obtain⟨w',q1,q2⟩:=ny hE hs H (F x (by simp[Op.operands])) (F k (by simp[Op.operands])) (F y (by simp[Op.operands]));simp only[aan,q1,aai,aaL];exact .skip q2
  cases h
 |extract x i=>
  rw[ho]at h F;dsimp only;simp only[dt,jg]at h;split at h
  ·rename_i vs hx;split at h
   ·rename_i z H;cases h;have h1:=F x (by simp[Op.operands]);rw[hx]at h1;obtain⟨e0,he,hl⟩:=h1.su;obtain⟨u',hu,hr⟩:=hl.get H;refine dX.same hs (s:=Instr.extract (a.eval x) i) (v':=u') ?_ hr;rw[he];have:e0[i]?=some u':=by simpa using hu
    simp[Instr.extract,this]
   cases h
  cases h
 |call c=>rw[ho]at h F;dsimp only;exact Ez hE cz hs h F
 |mapEntry t x k=>rw[ho]at h F;dsimp only;simp only[dt,qh]at h;obtain⟨w',v',q1,q2,q3⟩:=vU hE hs h (F x (by simp[Op.operands])) (F k (by simp[Op.operands]));exact xW.op ⟨_,w',v',q1,q2,q3⟩
 |entryStore t x s y=>
  rw[ho]at h F;dsimp only;simp only[dt,kc]at h;split at h
  ·rename_i m2 H;cases h;obtain⟨w',q1,q2⟩:=sW (t:=t) hs H (F x (by simp[Op.operands])) (F s (by simp[Op.operands])) (F y (by simp[Op.operands]));simp only[aan,q1,aai,aaL];exact .skip q2
  cases h
 |typeAssert x xt t ok=>
  rw[ho]at h F;dsimp only;simp only[dt,nZ]at h;have h1:=F x (by simp[Op.operands]);split at h
  ·rename_i hx
   rw[hx]at h1
   rw[h1.aU rfl]
   cases ok with
   |false=>cases h
   |true=>
    simp only[cond_true]at h;split at h
    ·rename_i z H
     cases h
     unfold eZ at H
     cases a0:E.ty.get t with
     |none=>rw[a0]at H;cases H
     |some ti=>
      rw[a0]at H;simp only[acb]at H;obtain⟨i,u,f⟩:=hE.lz a0;have g0:=aS.fG (σ:=σ) (hE.flat a0 H);have b0:=dV (w:=w) f.info (by rw[<-f.zero];exact H);refine dX.same hs (s:=Instr.typeAssert .nilIface xt t true) (v':=.tuple #[z,aei]) ?_ (bC.cons g0 (bC.cons (.flat _ rfl) bC.nil)).tuple;unfold Instr.typeAssert;rw[aan,aak f.fh,aai];split <;>first |(rename_i h3;cases h3;done) |skip
      all_goals first |(simp only[abq,aan,b0,aai,aaL];done) |(exfalso;simp_all;done)
    cases h
  ·rename_i t' cs hx
   cases hc:(ok && (Nat.beq t' t && cs.toList.isEmpty))with
   |false=>rw[hc]at h;cases h
   |true=>
    rw[hc,cond_true]at h;simp only[Ψ,acq]at hc;obtain⟨rfl,ht,h0⟩:=hc;obtain rfl:=aab ht;have d0:cs= #[]:=abm (by rw[<-aas,h0];rfl);subst d0;rw[hx]at h1;rw[h1.aU rfl];split at h
    ·rename_i ti a0;split at h
     ·rename_i fs i0;cases h;obtain⟨i,u,f⟩:=hE.lz a0;obtain⟨gs,rfl,_⟩:=fT (f.d.symm.trans i0);refine dX.same hs (s:=Instr.typeAssert (.iface t' (.agg #[])) xt t' true) (v':=.tuple #[.agg #[],aeh]) ?_ (bC.cons (aS.jB rfl) (bC.cons (.flat _ rfl) bC.nil)).tuple;unfold Instr.typeAssert;rw[aan,aak f.fh,aai];simp only[abq];rfl
     cases h
    cases h
  cases h
 |_=>rw[ho]at h;simp[dt]at h
end
end
section
section
variable {E:Env} {P:Program} {σ:Sg} {m m':M} {w:World}
theorem aS.NT{v:aed}{b:Bool}(h:aS σ v (.bool b)):v=.bool b:=by cases h;rfl
theorem mM{ops:Array Oper}{T:Tr aed}{a:Act}{o:Oper}
  (hT:∀j want d,o.guard=some (j,want)->(ops[j]?).bind (·.dst)=some d->d < a.tmps.size/\aS σ (gn T d) (a.eval (.tmp d))):
  bV ops T o=Region.wanted o (yielded ops a.tmps):=by
 unfold bV Region.wanted
 cases hg:o.guard with
 |none=>rfl
 |some p=>
  obtain⟨j,want⟩:=p
  dsimp only
  unfold yielded
  simp only[aaY]
  cases hd:(ops[j]?).bind (·.dst)with
  |none=>rfl
  |some d=>
   obtain⟨h1,F⟩:=hT j want d hg hd
   have he:a.tmps[d]?=some (a.eval (.tmp d)):=by simp[Act.eval,h1]
   simp only[acb,he]
   generalize a.eval (.tmp d)=u at F
   cases H:gn T d with
   |bool b=>rw[H]at F;rw[F.bool];simp
   |_=>
    rw[H]at F
    cases u with
    |bool b=>have:=F.NT;cases this
    |_=>simp
theorem du{nt G:Nat}{o:Oper}(h:eD nt G o=true):∀d,o.dst=some d->d < nt:=by intro d F;unfold eD at h;rw[F]at h;simp only[Ψ]at h;have:=h.2;rw[eK]at this;simpa using this
theorem eC{nt G:Nat}{o:Oper}(h:eD nt G o=true):∀x∈o.op.operands.toList,qj nt G x=true:=by intro x F;unfold eD at h;simp only[Ψ]at h;exact aay.1 h.1 x F
theorem mY{nt G t:Nat}(h:qj nt G (.tmp t)=true):t < nt:=by have h:Nat.blt t nt=true:=h;rw[eK]at h;simpa using h
theorem di.vN{T:Tr aed}{a:Act}{nt:Nat}(h:di σ T a nt)(H:dY P σ m w){x:Operand}(F:qj nt P.globals.size x=true):aS σ (ev T x) (a.eval x):=
 wD H (λt ht=>by subst ht;exact h.2 t (mY F)) F
theorem di.wanted{ops:Array Oper}{T:Tr aed}{a:Act}{nt:Nat}(h:di σ T a nt)(H:∀o∈ops.toList,eD nt P.globals.size o=true)(o:Oper):bV ops T o=Region.wanted o (yielded ops a.tmps):=by refine mM (σ:=σ) λj want d _ hd=>?_;simp only[acG]at hd;obtain⟨o',a0,b0⟩:=hd;have F:=du (H o' (by simpa using abx a0)) d b0;exact⟨by rw[h.1];exact F,h.2 d F⟩
theorem sM(hE:E.OK P){call:aG}(cz:cQ P call){nt:Nat}{ops:Array Oper}(a0:∀o∈ops.toList,eD nt P.globals.size o=true){ro:Option Nat}{n:Nat}{Q:Exit->Act->World->Prop}{ds:List Deferred}:
  ∀(l:List Oper),(∀o∈l,eD nt P.globals.size o=true)->∀(fr F:Fr),vM E call ops l fr=some F->∀(σ:Sg) (a:Act) (w:World),di σ fr.T a nt->a.defers=ds->dY P σ fr.m w->(∀σ' a' w',di σ' F.T a' nt->a'.defers=ds->Ev P σ fr.m w σ' F.m w'->Q .normal a' w')->wpListIn (dk ro) n P ops Q l a w
 |[],_,fr,F,h,σ,a,w,hf,hd,hs,k=>by
  simp only[Bw,aae]at h
  subst h
  exact k σ a w hf hd (Ev.refl hs)
 |o::l,hl,fr,F,h,σ,a,w,hf,hd,hs,k=>by
  rw[kr]at h
  have hw:=hf.wanted a0 o
  have H:=du (hl o aaP)
  have b0:=λo ho=>hl o (aaZ _ ho)
  unfold wpListIn
  rw[<-hw]
  cases d0:bV ops fr.T o with
  |false=>
   rw[d0]at h
   simp only[cond_false]at h
   rw[aaa (by simp)]
   refine⟨λ_ _=>trivial,?_⟩
   refine sM hE cz a0 l b0 _ _ h σ (a.put o.dst undef) w (hf.put H aS.undef) ?_ hs k
   rw[<-hd];cases o.dst <;>rfl
  |true=>
   rw[d0]at h
   simp only[cond_true]at h
   rw[aaf rfl]
   cases ho:dt o.op E call fr.T fr.m with
   |none=>rw[ho]at h;cases h
   |some p=>
    obtain⟨v,m1⟩:=p
    rw[ho]at h
    simp only at h
    refine⟨λ_ _=>trivial,?_⟩
    have e0:=nV hE cz hs ho (a:=a) (λx hx=>hf.vN hs (eC (hl o aaP) x hx))
    rw[Oper.semAt_eq _ _ _ (λc hc=>by rw[hc]at ho;simp[dt]at ho)]
    refine e0.2 ro n o a _ Q λσ' w' v' hv he=>?_
    refine sM hE cz a0 l b0 _ _ h σ' (a.put o.dst v') w' ((hf.mono he.ext).put H hv) ?_ he.mL λg0 a2 w2 h0 i0 j0=>k g0 a2 w2 h0 i0 (he.trans j0)
    rw[<-hd];cases o.dst <;>rfl
end
end
section
inductive Reach (ops:Array Oper):Nat->Nat->Prop where
 |one {j:Nat} {o:Oper} {e:Edge} (ho:ops[j]?=some o) (he:e∈o.after) (hb:Region.binds .any e=true):Reach ops e.on j
 |step {i j:Nat} {o:Oper} {e:Edge} (ho:ops[j]?=some o) (he:e∈o.after) (hb:Region.binds .any e=true) (h:Reach ops i e.on):Reach ops i j
theorem qS{acc:Array Nat}{i:Nat}:∀(l:List Edge) (s:Nat),(l.foldl (λs e=>if Region.binds .any e then s |||2 ^ e.on |||acc.getD e.on 0 else s) s).testBit i=true->
  s.testBit i=true\/∃e∈l,Region.binds .any e=true/\(i=e.on\/(acc.getD e.on 0).testBit i=true)
 |[],s,h=> .inl h
 |e::l,s,h=>by
  rw[ac8]at h
  rcases qS l _ h with F |⟨e',F,h2,h3⟩
  ·by_cases H:Region.binds .any e=true
   ·rw[aaf H]at F
    simp only[Nat.testBit_or,abW]at F
    rcases F with(F |F) |F
    ·exact .inl F
    ·rw[Nat.testBit_two_pow]at F
     exact .inr ⟨e,aaP,H,.inl (by simpa using(abe F).symm)⟩
    ·exact .inr ⟨e,aaP,H,.inr F⟩
   ·rw[aaa H]at F
    exact .inl F
  ·exact .inr ⟨e',aaZ _ F,h2,h3⟩
theorem tJ(ops:Array Oper):∀(l pre:List Oper) (acc:Array Nat),ops.toList=pre++l->acc.size=pre.length->(∀i j,(acc.getD j 0).testBit i=true->Reach ops i j)->
  ∀i j,((l.foldl (λacc o=>acc.push (o.after.foldl (λs e=>if Region.binds .any e then s |||2 ^ e.on |||acc.getD e.on 0 else s) 0)) acc).getD j 0).testBit i=true->Reach ops i j
 |[],pre,acc,_,_,h,i,j,hh=>h i j hh
 |o::l,pre,acc,hp,hs,h,i,j,hh=>by
  rw[ac8]at hh
  refine tJ ops l (pre++ [o]) _ (by simp[hp]) (by simp[hs]) ?_ i j hh
  intro i j F
  have ho:ops[pre.length]?=some o:=by
   rw[<-aaY,hp,aa1 (Ξ _)]
   simp
  rcases abS j acc.size with H |H |H
  ·refine h i j ?_
   rw[abd,ab2 H]at F
   rw[abd]
   simpa[H]using F
  ·subst H
   rw[abd,acY]at F
   simp only[abN]at F
   rw[<-acX]at F
   rcases qS o.after.toList 0 F with h1 |⟨e,h1,h2,h3⟩
   ·simp at h1
   ·rw[hs]
    rcases h3 with rfl |h3
    ·exact .one ho (by simpa using h1) h2
    ·exact .step ho (by simpa using h1) h2 (h _ _ h3)
  ·rw[abd,Array.getElem?_eq_none (by simp;omega)]at F
   simp at F
theorem gH{ops:Array Oper}{i j:Nat}(h:((Region.before ops).getD j 0).testBit i=true):Reach ops i j:=by unfold Region.before at h;rw[<-acX]at h;exact tJ ops ops.toList [] #[] (by simp) rfl (by intro i j h;simp at h) i j h
def xG(ops:Array Oper)(L:Nat->Prop):Prop:=∀j o,ops[j]?=some o->L j->∀e∈o.after,Region.binds .any e=true->L e.on
theorem Reach.listed{ops:Array Oper}{L:Nat->Prop}(hc:xG ops L){i j:Nat}(h:Reach ops i j):(∀o,ops[j]?=some o->∀e∈o.after,Region.binds .any e=true->L e.on)->L i:=by
 induction h with
 |one F he H=>exact λh=>h _ F _ he H
 |step F he H _ ih=>exact λh=>ih λo' a0 e' b0 d0=>hc _ o' a0 (h _ F _ he H) e' b0 d0
theorem Reach.gE{ops:Array Oper}{L:Nat->Prop}(F:xG ops L){i j:Nat}(h:Reach ops i j)(H:L j):L i:=h.listed F λo ho e he hb=>F j o ho H e he hb
theorem Reach.lt{ops:Array Oper}(hl:∀j o,ops[j]?=some o->∀e∈o.after,Region.binds .any e=true->e.on < j){i j:Nat}(h:Reach ops i j):i < j:=by
 induction h with
 |one F he H=>exact hl _ _ F _ he H
 |step F he H _ ih=>exact ad0 ih (hl _ _ F _ he H)
structure uH(ops:Array Oper):Prop where
 lt:∀j o,ops[j]?=some o->∀e∈o.after,Region.binds .any e=true->e.on < j
 apart:∀i j o' o,ops[i]?=some o'->ops[j]?=some o->i < j->Reach ops i j\/((∀d,o.dst=some d->d∉eI ops o')/\∀d,o'.dst=some d->d∉eI ops o)
theorem rq{ops:Array Oper}(h:qk ops=true):uH ops:=by
 unfold qk at h;have key:∀j o,ops[j]?=some o->_:=λj o H=>aay.1 h (o,j) (by rw[abK];simpa using H);simp only[Ψ]at key;refine⟨λj o H e he hb=>?_,λi j o' o hi hj a0=>?_⟩
 ·have:=aay.1 (key j o H).1 e (by simpa using he);rw[hb]at this;simp only[aal,aaE]at this;rw[eK]at this;simpa using this
 have:=aay.1 (key j o hj).2 (o',i) (by rw[abK];simpa using hi);dsimp only at this;rw[eK]at this;simp only[a0,decide_true,aal,aaE,abW,Ψ]at this;rcases this with F |⟨F,h2⟩;·exact .inl (gH F)
 refine .inr ⟨λd hd=>?_,λd hd=>?_⟩;·rw[hd]at F;simpa using F
 rw[hd]at h2;simpa using h2
theorem lZ{ops:Array Oper}{j:Nat}(h:eL ops j=true):∀i o,ops[i]?=some o->i=j\/eO o.op=true\/Reach ops i j\/Reach ops j i:=by
 intro i o H;unfold eL at h;have:=aay.1 h (o,i) (by rw[abK];simpa using H);simp only[abW,beq_iff_eq]at this;rcases this with((F |F) |F) |F;·exact .inl F
 ·exact .inr (.inl F)
 ·exact .inr (.inr (.inl (gH F)))
 exact .inr (.inr (.inr (gH F)))
section
variable {E:Env} {P:Program} {σ:Sg} {m m':M} {w:World}
theorem Bo{op:Op}{call:aG}{T:Tr aed}{v:aed}(F:eO op=true)(h:dt op E call T m=some (v,m')):m'=m:=by
 cases op <;>simp[eO]at F <;>simp only[dt]at h
 case move=>cases h;rfl
 case assign=>cases h;rfl
 case pick=>unfold nW at h;split at h <;>cases h;rfl
 case build=>unfold oV at h;split at h <;>cases h;rfl
 case nilCheck=>unfold fS at h;split at h <;>cases h <;>rfl
 case binOp=>unfold yQ at h;split at h <;>cases h;rfl
 case unOp=>unfold Hm at h;split at h <;>cases h;rfl
 case makeFunc=>unfold ia at h;split at h <;>cases h;rfl
 case fieldAddr=>unfold iA at h;split at h <;>cases h;rfl
 case field=>unfold oU at h;split at h <;>cases h;rfl
 case indexAddr=>unfold iz at h;split at h <;>cases h;rfl
 case index=>unfold oT at h;split at h <;>cases h;rfl
 case extract=>
  unfold jg at h;split at h;·split at h <;>cases h;rfl
  cases h
theorem vq(hE:E.OK P){call:aG}{T:Tr aed}{a:Act}{o:Oper}{v:aed}(hp:eO o.op=true)(h:dt o.op E call T m=some (v,m'))
  (F:∀x∈o.op.operands.toList,aS σ (ev T x) (a.eval x)):∃v',(execOp a.eval o).run P w=.ok (.value v') w/\aS σ v v':=by
 have val:∀{s:Sem aed} {v':aed},s.run P w=.ok v' w->(do let x<-s;pure (Next.value x):Sem Next).run P w=.ok (.value v') w:=by intro s v' hs;rw[aan,hs];rfl
 unfold execOp
 cases ho:o.op with
 |move x=>rw[ho]at h F;cases h;exact⟨_,rfl,F x (by simp[Op.operands])⟩
 |assign x=>rw[ho]at h F;cases h;exact⟨_,rfl,F x (by simp[Op.operands])⟩
 |pick c x y=>
  rw[ho]at h F;dsimp only;simp only[dt,nW]at h;split at h
  ·rename_i t hc;simp only[aae,aaG]at h;obtain⟨rfl,rfl⟩:=h;have h1:=F c (by simp[Op.operands]);rw[hc]at h1;rw[h1.bool];refine⟨_,rfl,?_⟩;cases t;·exact F y (by simp[Op.operands])
   exact F x (by simp[Op.operands])
  cases h
 |build t ps=>
  rw[ho]at h F;dsimp only;simp only[dt,oV]at h;split at h
  ·rename_i z H;cases h;obtain⟨v',h1,h2⟩:=tG (w:=w) hE (T:=ev T) (A:=a.eval) (λp hp=>F p.2 (by simp only[Op.operands];exact ab9 hp)) H;exact⟨_,val h1,h2⟩
  cases h
 |nilCheck x=>
  rw[ho]at h F;dsimp only;have h1:=F x (by simp[Op.operands]);simp only[dt,fS]at h;split at h
  ·rename_i ad hx;cases h;rw[hx]at h1;have h2:=h1;obtain⟨i,hi,_,he⟩:=h1.eP;rw[he]at h2⊢;exact⟨_,rfl,h2⟩
  ·rename_i g a1 b1 hx;cases h;rw[hx]at h1;have h2:=h1;obtain⟨a',b',he,_⟩:=h1.wz;rw[he]at h2⊢;exact⟨_,rfl,h2⟩
  cases h
 |binOp op t x y yt=>
  rw[ho]at h F;dsimp only;simp only[dt,yQ]at h;split at h
  ·rename_i z H;cases h;obtain⟨q1,q2⟩:=zp (w:=w) hE H (F x (by simp[Op.operands])) (F y (by simp[Op.operands])) x y;exact⟨_,val q1,.flat _ q2⟩
  cases h
 |unOp op t x=>
  rw[ho]at h F;dsimp only;simp only[dt,Hm]at h;split at h
  ·rename_i z H;cases h;obtain⟨q1,q2⟩:=AO (P:=P) (w:=w) H (F x (by simp[Op.operands]));exact⟨_,val q1,.flat _ q2⟩
  cases h
 |makeFunc f x y=>
  rw[ho]at h F;dsimp only;simp only[dt,ia]at h;split at h
  ·rename_i g;cases h;have e1:bC σ (x.toList.map (ev T)) (x.toList.map a.eval):=iC _ (λo hx=>F o (by simp[Op.operands];exact .inl (by simpa using hx)));have e2:bC σ (y.toList.map (ev T)) (y.toList.map a.eval):=iC _ (λo hx=>F o (by simp[Op.operands];exact .inr (by simpa using hx)));refine⟨_,rfl,?_⟩;refine .func g _ _ _ _ (by simp) (by simp) (λj u u' p q=>e1.2 j u u' (by simpa using p) (by simpa using q)) (λj u u' p q=>e2.2 j u u' (by simpa using p) (by simpa using q))
  cases h
 |fieldAddr s x f=>
  rw[ho]at h F;dsimp only;simp only[dt,iA]at h;split at h
  ·rename_i z H;cases h;obtain⟨v',q1,q2⟩:=nB (w:=w) hE H (F x (by simp[Op.operands]));exact⟨_,val q1,q2⟩
  cases h
 |field t x f=>
  rw[ho]at h F;dsimp only;simp only[dt,oU]at h;split at h
  ·rename_i z H;cases h;obtain⟨v',q1,q2⟩:=tA (w:=w) hE H (F x (by simp[Op.operands]));exact⟨_,val q1,q2⟩
  cases h
 |indexAddr t x y=>
  rw[ho]at h F;dsimp only;simp only[dt,iz]at h;split at h
  ·rename_i z H;cases h;obtain⟨v',q1,q2⟩:=nA (w:=w) hE H (F x (by simp[Op.operands])) (F y (by simp[Op.operands]));exact⟨_,val q1,q2⟩
  cases h
 |index t x y=>
  rw[ho]at h F;dsimp only;simp only[dt,oT]at h;split at h
  ·rename_i z H;cases h;obtain⟨v',q1,q2⟩:=tw (w:=w) hE H (F x (by simp[Op.operands])) (F y (by simp[Op.operands]));exact⟨_,val q1,q2⟩
  cases h
 |extract x i=>
  rw[ho]at h F;dsimp only;simp only[dt,jg]at h;split at h
  ·rename_i vs hx;split at h
   ·rename_i z H;cases h;have h1:=F x (by simp[Op.operands]);rw[hx]at h1;obtain⟨a0,he,hl⟩:=h1.su;obtain⟨u',hu,hr⟩:=hl.get H;refine⟨u',val ?_,hr⟩;rw[he];have:a0[i]?=some u':=by simpa using hu
    simp[Instr.extract,this]
   cases h
  cases h
 |_=>rw[ho]at hp;simp[eO]at hp
def DStep(E:Env)(call:aG)(ops:Array Oper)(fr:Fr)(o:Oper)(j:Nat)(F:Fr):Prop:=
 (bV ops fr.T o=false/\F={fr with T:=put fr.T o.dst undef})\/
 (bV ops fr.T o=true/\∃v m,dt o.op E call fr.T {fr.m with low:=fr.m.n}=some (v,m)/\(fr.m.n<=m.low\/eL ops j=true\/vu ops j fr.m fr.T o.op=true)/\
  F={T:=put fr.T o.dst v,m:={m with low:=min fr.m.low m.low}})
theorem wH{call:aG}{ops:Array Oper}:∀(l:List Oper) (j:Nat) (fr F:Fr),fO E call ops l j fr=some F->
  ∃tr:Nat->Fr,tr j=fr/\tr (j+l.length)=F/\∀i o,l[i]?=some o->DStep E call ops (tr (j+i)) o (j+i) (tr (j+i+1))
 |[],j,fr,F,h=>by
  simp only[zj,aae]at h
  subst h
  exact⟨λ_=>fr,rfl,rfl,λi o h=>by simp at h⟩
 |o::l,j,fr,F,h=>by
  have key:∀H,DStep E call ops fr o j H->fO E call ops l (j+1) H=some F->
    ∃tr:Nat->Fr,tr j=fr/\tr (j+(o::l).length)=F/\∀i o',(o::l)[i]?=some o'->DStep E call ops (tr (j+i)) o' (j+i) (tr (j+i+1)):=by
   intro H h1 h2
   obtain⟨tr,t1,t2,t3⟩:=wH l (j+1) H F h2
   refine⟨λk=>if k=j then fr else tr k,by simp,?_,?_⟩
   ·simp only[aaJ]
    rw[aaa (by omega),<-t2]
    congr 1;omega
   ·intro i o' hi
    cases i with
    |zero=>
     simp only[aad,aae]at hi
     subst hi
     simp only[abC,abq]
     rw[aaa (by omega),t1]
     exact h1
    |succ i=>
     have:=t3 i o' (by simpa using hi)
     simp only
     rw[aaa (by omega),aaa (by omega)]
     have e:j+1+i=j+(i+1):=by omega
     rw[e]at this
     exact this
  rw[fA]at h
  cases hw:bV ops fr.T o with
  |false=>
   rw[hw]at h
   exact key _ (.inl ⟨hw,rfl⟩) h
  |true=>
   rw[hw]at h
   simp only[cond_true]at h
   cases ho:dt o.op E call fr.T {fr.m with low:=fr.m.n}with
   |none=>rw[ho]at h;cases h
   |some p=>
    obtain⟨v,m⟩:=p
    rw[ho]at h
    simp only at h
    cases hb:(Nat.ble fr.m.n m.low ||(eL ops j ||vu ops j fr.m fr.T o.op))with
    |false=>rw[hb]at h;simp at h
    |true=>
     rw[hb]at h
     simp only[cond_true]at h
     refine key _ (.inr ⟨hw,v,m,ho,?_,rfl⟩) h
     simp only[abW]at hb
     exact hb.imp aar id
end
end
section
def Sg.cut(σ:Sg)(n:Nat):Sg:=λb=>if b < n then σ b else none
theorem Sg.cZ{σ:Sg}{n b:Nat}{i:BI}:(σ.cut n) b=some i↔b < n/\σ b=some i:=by unfold Sg.cut;by_cases h:b < n <;>simp[h]
theorem Sg.Al{σ F:Sg}{n k:Nat}(h:σ.le F)(hn:n<=k):(σ.cut n).le (F.cut k):=by intro b i H;rw[Sg.cZ]at H⊢;exact⟨by omega,h b i H.2⟩
def M.kill(m:M)(l:List Nat):M:={m with st:=l.foldl (λt b=>t.set b .dead) m.st}
theorem Fz:∀(l:List Nat) (t:Tr Ob) (b:Nat),((l.foldl (λt b=>t.set b Ob.dead) t).get b).getD .dead=if b∈l then .dead else(t.get b).getD .dead
 |[],t,b=>by simp
 |x::l,t,b=>by
  rw[ac8,Fz l,Tr.cD]
  by_cases F:b∈l
  ·simp[F]
  ·by_cases H:b=x
   ·subst H;simp
   ·simp[F,H]
theorem M.fU(m:M)(l:List Nat)(b:Nat):(m.kill l).get b=if b∈l then .dead else m.get b:=by rw[M.eY,M.eY];show(if b < m.n then((l.foldl (λt b=>t.set b Ob.dead) m.st).get b).getD .dead else .dead)=_;rw[Fz];by_cases F:b < m.n <;>by_cases H:b∈l <;>simp[F,H]
theorem M.wi(m:M):m.kill []=m:=rfl
theorem zC{E:Env}{call:aG}{T:Tr aed}{m0 m m1:M}{c:Call}{b:Nat}{v:aed}(F:fM m0 T (.call c)=some b)(h:dt (.call c) E call T m=some (v,m1)):
  ∃f x a,c.callee=.value f/\c.args.toList=[x]/\ev T f=.func (.func tP) #[] #[]/\ev T x=.pointer (some a)/\pR m0 a=some b/\call (.func tP) [.pointer (some a)] m=some (v,m1):=by
 unfold fM at F;dsimp only at F;split at F
 ·rename_i f x hf hx;split at F
  ·rename_i g first captured a hg H;rw[cond_eq_ite]at F;split at F
   ·rename_i hc;simp only[Ψ]at hc;obtain⟨⟨h1,h2⟩,h3⟩:=hc;obtain rfl:=aab h1;have e2:first= #[]:=by simpa using h2
    have e3:captured= #[]:=by simpa using h3
    subst e2;subst e3;refine⟨f,x,a,hf,hx,hg,H,F,?_⟩;simp only[dt,kM,hf,hg,hx,abT,adW,H]at h;simpa using h
   cases F
  cases F
 cases F
theorem GN{E:Env}{P:Program}{call:aG}(cz:cQ P call){T:Tr aed}{m0 m m1:M}{o:Op}{b:Nat}{v:aed}(d0:∀a,pR m0 a=pR m a)(H:fM m0 T o=some b)(h:dt o E call T m=some (v,m1))(hb:b < m.n):m1.n=m.n/\∀c,c≠b->m1.get c=m.get c:=by
 cases o with
 |store t a x=>
  unfold fM at H;dsimp only at H;split at H
  ·rename_i ad e0;cases H;simp only[dt,mV,e0]at h;split at h
   ·rename_i m2 F;cases h;unfold storeVar at F;split at F
    ·cases hq:Nat.beq (cells (ev T x)).length _ with
     |false=>rw[hq]at F;cases F
     |true=>
      rw[hq]at F;simp only[cond_true]at F;unfold storeCells at F;split at F
      ·cases b0:(ad.spot.isNone && Nat.ble (ad.off+(cells (ev T x)).length) _ && (cells (ev T x)).all one)with
       |false=>rw[b0]at F;cases F
       |true=>rw[b0]at F;cases F;exact⟨rfl,λc hc=>by rw[M.cD _ _ _ _ hb,aaa hc]⟩
      cases F
    cases F
   cases h
  cases H
 |call c=>obtain⟨f,x,a,_,_,_,_,a0,g0⟩:=zC H h;rw[d0]at a0;obtain⟨_,rfl,_⟩:=cz.IJ a m v m1 b g0 a0;exact⟨rfl,λc hc=>by rw[M.cD _ _ _ _ hb,aaa hc]⟩
 |_=>cases H
section
variable {E:Env} {P:Program} {call:aG} {ops:Array Oper} {nt:Nat} {tr:Nat->Fr}
structure Ctx(E:Env)(P:Program)(call:aG)(ops:Array Oper)(nt:Nat)(tr:Nat->Fr):Prop where
 hE:E.OK P
 cz:cQ P call
 ord:uH ops
 ok:∀o∈ops.toList,eD nt P.globals.size o=true
 step:∀j o,ops[j]?=some o->DStep E call ops (tr j) o j (tr (j+1))
 ghost:∀j,j<=ops.size->∃σ a w,dY P σ (tr j).m w/\di σ (tr j).T a nt
theorem dY.low{σ:Sg}{m:M}{w:World}(h:dY P σ m w)(x:Nat):dY P σ {m with low:=x} w:=⟨h.nG,h.obj,h.lt,h.inj,h.jE⟩
theorem zb(hE:E.OK P)(cz:cQ P call)(a0:∀o∈ops.toList,eD nt P.globals.size o=true)
  (F:∀j o,ops[j]?=some o->DStep E call ops (tr j) o j (tr (j+1))) {σ:Sg} {a:Act} {w:World} (hs:dY P σ (tr 0).m w) (hf:di σ (tr 0).T a nt):
  ∀j,j<=ops.size->∃σ a w,dY P σ (tr j).m w/\di σ (tr j).T a nt
 |0,_=>⟨σ,a,w,hs,hf⟩
 |j+1,hj=>by
  obtain⟨b0,a1,w1,h1,h2⟩:=zb hE cz a0 F hs hf j (by omega)
  have ho:ops[j]?=some ops[j]:=by simp[show j < ops.size by omega]
  have H:=a0 ops[j] (by simp)
  rcases F j _ ho with⟨_,h⟩ |⟨_,v,m,d0,_,h⟩
  ·rw[h]
   exact⟨b0,a1.put ops[j].dst undef,w1,h1,h2.put (du H) aS.undef⟩
  ·rw[h]
   obtain⟨σ',w',v',hv,he⟩:=(nV hE cz (h1.low (tr j).m.n) d0 (a:=a1) (λx hx=>h2.vN h1 (eC H x hx))).1
   exact⟨σ',a1.put ops[j].dst v',w',he.mL.low _,(h2.mono he.ext).put (du H) hv⟩
def Wr(E:Env)(call:aG)(ops:Array Oper)(tr:Nat->Fr)(j:Nat):Prop:=
 ∃o v m,ops[j]?=some o/\bV ops (tr j).T o=true/\dt o.op E call (tr j).T {(tr j).m with low:=(tr j).m.n}=some (v,m)/\¬(tr j).m.n<=m.low
def NA(E:Env)(call:aG)(ops:Array Oper)(tr:Nat->Fr)(j:Nat):Prop:=Wr E call ops tr j/\eL ops j=true
def uG(E:Env)(call:aG)(ops:Array Oper)(tr:Nat->Fr)(j b:Nat):Prop:=
 Wr E call ops tr j/\eL ops j=false/\∃o,ops[j]?=some o/\fM (tr j).m (tr j).T o.op=some b/\lQ ops j b (tr j).T=true
theorem Ctx.wr(c:Ctx E P call ops nt tr){j:Nat}(h:Wr E call ops tr j):NA E call ops tr j\/∃b,uG E call ops tr j b:=by
 cases hb:eL ops j with
 |true=>exact .inl ⟨h,hb⟩
 |false=>
  refine .inr ?_;obtain⟨o,v,m,ho,hw,a0,hn⟩:=id h;rcases c.step j o ho with⟨h0,_⟩ |⟨_,v',m',H,F,_⟩;·rw[hw]at h0;cases h0
  rw[a0]at H;cases H;rcases F with F |F |F;·exact absurd F hn
  ·rw[hb]at F;cases F
  unfold vu at F;split at F
  ·rename_i b b0;exact⟨b,h,hb,o,ho,b0,F⟩
  cases F
theorem Wr.lt{j:Nat}(h:Wr E call ops tr j):j < ops.size:=by obtain⟨o,_,_,F,_⟩:=h;exact(aaF.1 F).1
theorem uG.kE{j b b':Nat}(h:uG E call ops tr j b)(h':uG E call ops tr j b'):b'=b:=by obtain⟨_,_,o,ho,hs,_⟩:=h;obtain⟨_,_,o',F,H,_⟩:=h';rw[ho]at F;cases F;rw[hs]at H;cases H;rfl
theorem Ctx.QU(c:Ctx E P call ops nt tr){j b:Nat}(h:uG E call ops tr j b):b < (tr j).m.n:=by
 obtain⟨⟨o,v,m,ho,hw,a0,hn⟩,_,o',g0,F,_⟩:=h
 rw[ho]at g0
 cases g0
 cases b0:o.op with
 |store t a x=>
  rw[b0]at F a0;unfold fM at F;dsimp only at F;split at F
  ·rename_i ad i0;cases F;simp only[dt,mV,i0]at a0;split at a0
   ·rename_i m2 H;refine aaO λd0=>?_
    have hd:({(tr j).m with low:=(tr j).m.n}:M).get ad.block=.dead:=by rw[M.eY,aaa d0]
    unfold storeVar at H;split at H
    ·cases hq:Nat.beq (cells (ev (tr j).T x)).length _ with
     |false=>rw[hq]at H;cases H
     |true=>rw[hq]at H;simp only[cond_true]at H;unfold storeCells at H;rw[hd]at H;cases H
    cases H
   cases a0
  cases F
 |call cc=>rw[b0]at F a0;obtain⟨f,x,a,_,_,_,_,h0,j0⟩:=zC F a0;obtain⟨e0,_⟩:=c.cz.IJ a _ v m b j0 h0;refine aaO λd0=>e0 ?_;rw[M.eY,aaa d0]
 |_=>rw[b0]at F;cases F
theorem Ctx.fact(c:Ctx E P call ops nt tr){j:Nat}{o:Oper}(ho:ops[j]?=some o):(tr j).m.n<=(tr (j+1)).m.n/\(tr (j+1)).m.low<=(tr j).m.low/\
  (∀b,b < (tr (j+1)).m.low->b < (tr j).m.n->(tr (j+1)).m.get b=(tr j).m.get b)/\
  (¬NA E call ops tr j->∀b,b < (tr j).m.n->¬uG E call ops tr j b->(tr (j+1)).m.get b=(tr j).m.get b):=by
 have k0:j < ops.size:=(aaF.1 ho).1;have a0:=c.ok o (by simpa using abx ho);rcases c.step j o ho with⟨_,h⟩ |⟨hw,v,m,F,hb,h⟩
 ·rw[h];exact⟨Ξ _,Ξ _,λ_ _ _=>rfl,λ_ _ _ _=>rfl⟩
 obtain⟨l0,a1,w1,h1,h2⟩:=c.ghost j (by omega);obtain⟨σ',w',v',hv,he⟩:=(nV c.hE c.cz (h1.low (tr j).m.n) F (a:=a1) (λx hx=>h2.vN h1 (eC a0 x hx))).1;have hn:=he.IL;have ha:=he.abs;rw[h];refine⟨hn,acI _ _,λb hb H=>ha b (by simp only at hb;omega) H,λe0 b H g0=>?_⟩;by_cases h0:(tr j).m.n<=m.low;·exact ha b (by omega) H
 have hW:Wr E call ops tr j:=⟨o,v,m,ho,hw,F,h0⟩
 rcases c.wr hW with hB |⟨b',hP⟩;·exact absurd hB e0
 have i0:=c.QU hP;obtain⟨_,_,o',b0,j0,_⟩:=id hP;rw[ho]at b0;cases b0;have d0:=(GN (m0:=(tr j).m) (m:={(tr j).m with low:=(tr j).m.n}) c.cz (λ_=>rfl) j0 F i0).2 b λe=>g0 (e ▸ hP);exact d0
theorem Ctx.pr(c:Ctx E P call ops nt tr){j:Nat}{o:Oper}(ho:ops[j]?=some o)(hp:eO o.op=true):(tr (j+1)).m.n=(tr j).m.n/\¬Wr E call ops tr j:=by
 constructor
 ·rcases c.step j o ho with⟨_,h⟩ |⟨hw,v,m,F,hb,h⟩;·rw[h]
  rw[h,Bo hp F]
 rintro⟨o',v,m,H,_,F,hn⟩;rw[ho]at H;cases H;rw[Bo hp F]at hn;exact hn (Ξ _)
theorem Ctx.bar(c:Ctx E P call ops nt tr){j:Nat}(h:NA E call ops tr j):eL ops j=true/\j < ops.size:=⟨h.2,h.1.lt⟩
theorem wZ{j:Nat}(h:j < ops.size):∃o,ops[j]?=some o:=⟨ops[j],by simp[h]⟩
theorem Ctx.mono(c:Ctx E P call ops nt tr){i:Nat}:∀k,i<=k->k<=ops.size->(tr i).m.n<=(tr k).m.n/\(tr k).m.low<=(tr i).m.low
 |0,h,_=>by
  obtain rfl:i=0:=by omega
  exact⟨Ξ _,Ξ _⟩
 |k+1,h,hk=>by
  by_cases F:i=k+1
  ·subst F;exact⟨Ξ _,Ξ _⟩
  ·obtain⟨h1,h2⟩:=c.mono (i:=i) k (by omega) (by omega)
   obtain⟨o,H⟩:=wZ (ops:=ops) (show k < ops.size by omega)
   obtain⟨h3,h4,_⟩:=c.fact H
   omega
theorem Ctx.mH(c:Ctx E P call ops nt tr){i:Nat}:∀k,i<=k->k<=ops.size->(∀b,i<=b->b < k->¬NA E call ops tr b)->∀x,x < (tr i).m.n->(∀p,i<=p->p < k->¬uG E call ops tr p x)->(tr k).m.get x=(tr i).m.get x
 |0,h,_,_,x,_,_=>by
  obtain rfl:i=0:=by omega
  rfl
 |k+1,h,hk,hb,x,hx,hp=>by
  by_cases H:i=k+1
  ·subst H;rfl
  ·obtain⟨o,ho⟩:=wZ (ops:=ops) (show k < ops.size by omega)
   have F:=(c.mono k (show i<=k by omega) (by omega)).1
   rw[(c.fact ho).2.2.2 (hb k (show i<=k by omega) (acU k)) x (acf hx F) (hp k (by omega) (acU k))]
   exact c.mH k (by omega) (by omega) (λb F h2=>hb b F (by omega)) x hx (λp F h2=>hp p F (by omega))
theorem Ctx.abs(c:Ctx E P call ops nt tr):∀k,k<=ops.size->∀x,x < (tr k).m.low->x < (tr 0).m.n->(tr k).m.get x=(tr 0).m.get x
 |0,_,_,_,_=>rfl
 |k+1,hk,x,F,H=>by
  obtain⟨o,ho⟩:=wZ (ops:=ops) (show k < ops.size by omega)
  have h1:=(c.mono (i:=0) k (by omega) (by omega)).1
  obtain⟨_,h2,h3,_⟩:=c.fact ho
  rw[h3 x F (by omega)]
  exact c.abs k (by omega) x (by omega) H
theorem Ki(T:Tr aed){dst:Option Tmp}{t:Tmp}(h:dst≠some t)(v:aed):gn (put T dst v) t=gn T t:=by
 cases dst with
 |none=>rfl
 |some d=>rw[wY,aaa (λe=>h (by rw[e]))]
theorem Ctx.pz(c:Ctx E P call ops nt tr){i t:Nat}:∀k,i<=k->k<=ops.size->(∀j o,i<=j->j < k->ops[j]?=some o->o.dst≠some t)->gn (tr k).T t=gn (tr i).T t
 |0,h,_,_=>by
  obtain rfl:i=0:=by omega
  rfl
 |k+1,h,hk,hb=>by
  by_cases H:i=k+1
  ·subst H;rfl
  ·obtain⟨o,ho⟩:=wZ (ops:=ops) (show k < ops.size by omega)
   have F:=hb k o (by omega) (by omega) ho
   have ih:=c.pz k (by omega) (by omega) (λj o h1 h2=>hb j o h1 (by omega))
   rw[<-ih]
   rcases c.step k o ho with⟨_,h⟩ |⟨_,v,m,_,_,h⟩
   ·rw[h];exact Ki _ F _
   ·rw[h];exact Ki _ F _
structure Inv(E:Env)(P:Program)(call:aG)(ops:Array Oper)(nt:Nat)(tr:Nat->Fr)(σ0:Sg)(w0:World)(ds:List Deferred)(L:Nat->Prop)(σ:Sg)(a:Act)(w:World):Prop where
 lt:∀i,L i->i < ops.size
 closed:xG ops L
 Dd:a.tmps.size=nt
 defs:a.defers=ds
 tmp:∀t,t < nt->∃k,k<=ops.size/\aS (σ.cut (tr k).m.n) (gn (tr k).T t) (a.eval (.tmp t))/\(∀i o,L i->ops[i]?=some o->o.dst=some t->i < k)/\(k=0\/∃o,L (k-1)/\ops[k-1]?=some o/\o.dst=some t)
 win:∀k l,k<=ops.size->(∀b,NA E call ops tr b->(b < k↔L b))->(∀p b,uG E call ops tr p b->(p < k↔L p)\/b∈l)->dY P (σ.cut (tr k).m.n) ((tr k).m.kill l) w
 IJ:∀p b,L p->uG E call ops tr p b->∃i,σ b=some i
 nG:∀b i,σ b=some i->b < (tr 0).m.n\/∃j,L j/\(tr j).m.n<=b/\b < (tr (j+1)).m.n
 base:σ0.le σ
 new:∀b i,σ b=some i->σ0 b=none->(tr 0).m.n<=b/\(w0.heap.size<=i.dg\/∃b0 i0,σ0 b0=some i0/\i0.dg=i.dg/\(tr ops.size).m.low<=b0)
 hle:w0.heap.size<=w.heap.size
 heap:∀B,B < w0.heap.size->(∀b i,σ0 b=some i->i.dg=B->b < (tr ops.size).m.low)->w.heap[B]?=w0.heap[B]?
 os:w.os=w0.os
 tape:w.tape=w0.tape
 output:w.output=w0.output
 jE:∀g,g < P.globals.size->g < (tr 0).m.n/\σ0 g=some ⟨g,none⟩
variable {σ0 σ:Sg} {w0 w:World} {ds:List Deferred} {L:Nat->Prop} {a:Act}
theorem Inv.names(c:Ctx E P call ops nt tr)(h:Inv E P call ops nt tr σ0 w0 ds L σ a w){j:Nat}{o:Oper}(hj:¬L j)(ho:ops[j]?=some o)(d0:∀e∈o.after,Region.binds .any e=true->L e.on)
  {t:Nat} (ht:t < nt) (hn:t∈eI ops o):aS (σ.cut (tr j).m.n) (gn (tr j).T t) (a.eval (.tmp t)):=by
 have e0:j < ops.size:=(aaF.1 ho).1;obtain⟨k,hk,hv,hw,H⟩:=h.tmp t ht
 have a0:k<=j:=by
  rcases H with rfl |⟨o',hL,F,hd⟩;·omega
  refine aaO λhc=>?_;have g0:k-1≠j:=λe=>hj (e ▸ hL);rcases c.ord.apart j (k-1) o o' ho F (by omega)with hr |⟨h1,_⟩;·exact hj (hr.gE h.closed hL)
  exact h1 t hd hn
 have hT:gn (tr j).T t=gn (tr k).T t:=c.pz j a0 (by omega) λi oi h1 h2 b0 hd=>by
  rcases c.ord.apart i j oi o b0 ho h2 with hr |⟨_,h3⟩
  ·have:=hr.listed h.closed (λo' F=>by rw[ho]at F;cases F;exact d0);have:=hw i oi this b0 hd;omega
  exact h3 t hd hn
 rw[hT];exact hv.mono (Sg.Al (λ_ _ x=>x) (c.mono j a0 (by omega)).1)
theorem Inv.BB(c:Ctx E P call ops nt tr)(h:Inv E P call ops nt tr σ0 w0 ds L σ a w){j:Nat}{o:Oper}(hj:¬L j)(ho:ops[j]?=some o){v v':aed}(hT:(tr (j+1)).T=put (tr j).T o.dst v)
  {σ':Sg} (hle:σ.le σ') (hv:aS (σ'.cut (tr (j+1)).m.n) v v'):∀t,t < nt->∃k,k<=ops.size/\aS (σ'.cut (tr k).m.n) (gn (tr k).T t) ((a.put o.dst v').eval (.tmp t))/\
   (∀i H,(i=j\/L i)->ops[i]?=some H->H.dst=some t->i < k)/\(k=0\/∃H,(k-1=j\/L (k-1))/\ops[k-1]?=some H/\H.dst=some t):=by
 intro t ht;have d0:j < ops.size:=(aaF.1 ho).1;by_cases hd:o.dst=some t
 ·refine⟨j+1,by omega,?_,?_,.inr ⟨o,.inl rfl,ho,hd⟩⟩
  ·rw[hT,hd,wY,aaf rfl];have:(a.put (some t) v').eval (.tmp t)=v':=by simp[Act.put,Act.eval,h.Dd,ht]
   rw[this];exact hv
  rintro i H (rfl |hL) a0 F;·omega
  refine aaO λhc=>?_;rcases c.ord.apart j i o H ho a0 (by omega)with hr |⟨h1,_⟩;·exact hj (hr.gE h.closed hL)
  exact h1 t F (by unfold eI;rw[hd];simp)
 obtain⟨k,hk,hv,hw,b0⟩:=h.tmp t ht;refine⟨k,hk,?_,?_,b0.imp id (λ⟨H,x,y,z⟩=>⟨H,.inr x,y,z⟩)⟩
 ·rw[Act.eval_put (λd F he=>by cases he;exact hd F)];exact hv.mono (Sg.Al hle (Ξ _))
 rintro i H (rfl |hL) a0 F;·rw[ho]at a0;cases a0;exact absurd F hd
 exact hw i H hL a0 F
end
end
section
section
variable {E:Env} {P:Program} {call:aG} {ops:Array Oper} {nt:Nat} {tr:Nat->Fr} {σ0 σ:Sg} {w0 w:World} {ds:List Deferred} {L:Nat->Prop} {a:Act}
theorem put_defers(a:Act)(dst:Option Tmp)(v:aed):(a.put dst v).defers=a.defers:=by cases dst <;>rfl
theorem rh(a:Act)(dst:Option Tmp)(v:aed):(a.put dst v).tmps.size=a.tmps.size:=by cases dst <;>simp[Act.put]
theorem Inv.tE(h:Inv E P call ops nt tr σ0 w0 ds L σ a w){j:Nat}{o:Oper}(ho:ops[j]?=some o)(H:∀e∈o.after,Region.binds .any e=true->L e.on):xG ops (λi=>i=j\/L i):=by
 rintro i o' F (rfl |hL) e he hb
 ·rw[ho]at F;cases F;exact .inr (H e he hb)
 exact .inr (h.closed i o' F hL e he hb)
theorem Inv.same(c:Ctx E P call ops nt tr)(h:Inv E P call ops nt tr σ0 w0 ds L σ a w){j:Nat}{o:Oper}(hj:¬L j)(ho:ops[j]?=some o)(b0:∀e∈o.after,Region.binds .any e=true->L e.on)
  {v v':aed} (hT:(tr (j+1)).T=put (tr j).T o.dst v) (F:¬Wr E call ops tr j) (hv:aS (σ.cut (tr (j+1)).m.n) v v'):
  Inv E P call ops nt tr σ0 w0 ds (λi=>i=j\/L i) σ (a.put o.dst v') w where
 lt:=by
  rintro i (rfl |hL)
  ·exact(aaF.1 ho).1
  ·exact h.lt i hL
 closed:=h.tE ho b0
 Dd:=by rw[rh];exact h.Dd
 defs:=by rw[put_defers];exact h.defs
 tmp:=h.BB c hj ho hT (λ_ _ x=>x) hv
 win:=λk l hk hw hp=>h.win k l hk (λb H=>(hw b H).trans ⟨λx=>x.resolve_left (λe=>F (e ▸ H.1)),.inr⟩) (λp b a0=>(hp p b a0).imp (λx=>x.trans ⟨λx=>x.resolve_left (λe=>F (e ▸ a0.1)),.inr⟩) id)
 IJ:=by
  rintro p b (rfl |hL) hp
  ·exact absurd hp.1 F
  ·exact h.IJ p b hL hp
 nG:=λb i F=>(h.nG b i F).imp id λ⟨q,x,y⟩=>⟨q,.inr x,y⟩
 base:=h.base
 new:=h.new
 hle:=h.hle
 heap:=h.heap
 os:=h.os
 tape:=h.tape
 output:=h.output
 jE:=h.jE
theorem Inv.IU(c:Ctx E P call ops nt tr)(h:Inv E P call ops nt tr σ0 w0 ds L σ a w){j:Nat}{o:Oper}(hj:¬L j)(ho:ops[j]?=some o)(a0:∀e∈o.after,Region.binds .any e=true->L e.on)
  (hp:eO o.op=false):∀b,NA E call ops tr b->(b < j↔L b):=by
 intro b hb;have b0:=(c.bar hb).1;rcases lZ b0 j o ho with rfl |F |F |F;·exact⟨λx=>absurd x (Nat.lt_irrefl _),λx=>absurd x hj⟩
 ·rw[hp]at F;cases F
 ·have:=F.lt c.ord.lt;exact⟨λx=>by omega,λx=>absurd (F.gE h.closed x) hj⟩
 exact⟨λ_=>F.listed h.closed (λo' H=>by rw[ho]at H;cases H;exact a0),λ_=>F.lt c.ord.lt⟩
theorem sH{ops:Array Oper}{p b i:Nat}{T:Tr aed}{o:Oper}(h:lQ ops p b T=true)(ho:ops[i]?=some o)(hp:eO o.op=false):
  i=p\/Reach ops i p\/Reach ops p i\/(i < p/\((∃t,o.op=.alloc t)\/(∃t x,o.op=.box t x)\/(∃t s,o.op=.load t (.tmp s)/\(∀k q,i<=k->k < p->ops[k]?=some q->q.dst≠some s)/\
   (∀g w d,o.guard=some (g,w)->(ops[g]?).bind (·.dst)=some d->∀k q,i<=k->k < p->ops[k]?=some q->q.dst≠some d)/\(bV ops T o=false\/∃ad,gn T s=.pointer (some ad)/\ad.block≠b))\/
   mZ o.op=true\/∃s,lenOf o.op=some s/\(∀k q,i<=k->k < p->ops[k]?=some q->q.dst≠some s)/\∀r,gn T s≠.map r)):=by
 unfold lQ at h;have h:=aay.1 h (o,i) (by rw[abK];simpa using ho)
 have same:∀t,(ops.toList.zipIdx.all λ(q,k)=> !(Nat.ble i k && Nat.blt k p && q.dst==some t))=true->∀k q,i<=k->k < p->ops[k]?=some q->q.dst≠some t:=by intro t hs k q h1 F hq e;have hs:=aay.1 hs (q,k) (by rw[abK];simpa using hq);dsimp only at hs;rw[eK]at hs;simp[aa3 h1,F,e]at hs
 dsimp only at h;simp only[abW,beq_iff_eq,Ψ,hp]at h;rcases h with(((h |h) |h) |h) |⟨h1,F⟩;·exact .inl h
 ·cases h
 ·exact .inr (.inl (gH h))
 ·exact .inr (.inr (.inl (gH h)))
 rw[eK]at h1;refine .inr (.inr (.inr ⟨by simpa using h1,?_⟩));split at F;·exact .inl ⟨_,by assumption⟩
 ·exact .inr (.inl ⟨_,_,by assumption⟩)
 ·rename_i t s a0;simp only[Ψ,abW,aba]at F;obtain⟨⟨h3,h4⟩,H⟩:=F;refine .inr (.inr (.inl ⟨t,s,a0,same s h3,?_,?_⟩))
  ·intro g w d hg hd;rw[hg]at h4;simp only[aaY,hd]at h4;exact same d h4
  rcases H with H |H;·exact .inl H
  split at H
  ·rename_i ad b0;exact .inr ⟨ad,b0,by simpa using H⟩
  cases H
 rcases abW _ _ |>.mp F with F |F;·exact .inr (.inr (.inr (.inl F)))
 split at F
 ·rename_i t ht;obtain⟨h3,h4⟩:=Ψ _ _ |>.mp F;refine .inr (.inr (.inr (.inr ⟨t,ht,same t h3,λr hr=>?_⟩)));rw[hr]at h4;cases h4
 cases F
theorem uG.ok{p b:Nat}(h:uG E call ops tr p b):lQ ops p b (tr p).T=true:=by obtain⟨_,_,_,_,_,F⟩:=h;exact F
theorem Wr.op{j:Nat}(c:Ctx E P call ops nt tr)(h:Wr E call ops tr j):∃o,ops[j]?=some o/\eO o.op=false:=by
 obtain⟨o,v,m,F,hw,H,hn⟩:=id h
 refine⟨o,F,?_⟩
 cases hp:eO o.op with
 |false=>rfl
 |true=>exact absurd h (c.pr F hp).2
theorem Inv.NI(c:Ctx E P call ops nt tr)(h:Inv E P call ops nt tr σ0 w0 ds L σ a w){j:Nat}{o:Oper}(hj:¬L j)(ho:ops[j]?=some o)(g0:∀e∈o.after,Region.binds .any e=true->L e.on)
  (hp:eO o.op=false):∃l:List Nat,(∀p b,uG E call ops tr p b->(p < j↔L p)\/b∈l)/\∀b∈l,∃p,L p/\uG E call ops tr p b/\j < p/\lQ ops p b (tr p).T=true/\¬Reach ops j p/\¬Reach ops p j:=by
 have key:∀n,∃l:List Nat,(∀p b,p < n->uG E call ops tr p b->(p < j↔L p)\/b∈l)/\∀b∈l,∃p,L p/\uG E call ops tr p b/\j < p/\lQ ops p b (tr p).T=true/\¬Reach ops j p/\¬Reach ops p j:=by
  intro n
  induction n with
  |zero=>exact⟨[],λp b b0=>by omega,λb hb=>by cases hb⟩
  |succ n ih=>
   obtain⟨l,h1,h2⟩:=ih;by_cases hx:∃b,uG E call ops tr n b/\¬(n < j↔L n)
   ·obtain⟨b,hb,a0⟩:=hx;refine⟨b::l,λp b' b0 F=>?_,λb' F=>?_⟩
    ·by_cases H:p=n
     ·subst H;rw[hb.kE F];exact .inr aaP
     exact(h1 p b' (by omega) F).imp id (aaZ _)
    rcases aaS.1 F with rfl |F
    ·have d0:lQ ops n b' (tr n).T=true:=by obtain⟨_,_,_,_,_,hk⟩:=id hb;exact hk
     rcases sH d0 ho hp with rfl |hr |hr |⟨h0,_⟩;·exact absurd ⟨λx=>absurd x (Nat.lt_irrefl _),λx=>absurd x hj⟩ a0
     ·exfalso;have:=hr.lt c.ord.lt;exact a0 ⟨λx=>by omega,λx=>absurd (hr.gE h.closed x) hj⟩
     ·exfalso;have:=hr.lt c.ord.lt;exact a0 ⟨λ_=>hr.listed h.closed (λo' e0=>by rw[ho]at e0;cases e0;exact g0),λ_=>this⟩
     have hL:L n:=aaO λhc=>a0 ⟨λx=>by omega,λx=>absurd x hc⟩;refine⟨n,hL,hb,h0,d0,λhr=>hj (hr.gE h.closed hL),λhr=>?_⟩;have:=hr.lt c.ord.lt;omega
    exact h2 b' F
   refine⟨l,λp b' b0 F=>?_,h2⟩;by_cases H:p=n
   ·subst H;exact .inl (aaO λhc=>hx ⟨b',F,hc⟩)
   exact h1 p b' (by omega) F
 obtain⟨l,h1,h2⟩:=key ops.size;exact⟨l,λp b hb=>h1 p b hb.1.lt hb,h2⟩
theorem Inv.effect(c:Ctx E P call ops nt tr)(h:Inv E P call ops nt tr σ0 w0 ds L σ a w){j:Nat}{o:Oper}(hj:¬L j)(ho:ops[j]?=some o)(Y0:∀e∈o.after,Region.binds .any e=true->L e.on)
  (hp:eO o.op=false) {v v':aed} {m mk:M} {lk:List Nat} {τ:Sg} {w':World} (A1:mk.n=m.n) (N1:mk.low=m.low) (a1:∀b,b∉lk\/(tr j).m.n<=b->mk.get b=m.get b)
  (B1:∀p b,uG E call ops tr p b->(p < j↔L p)\/b∈lk)
  (a0:Ev P (σ.cut (tr j).m.n) {(tr j).m.kill lk with low:=(tr j).m.n} w τ mk w') (hv:aS τ v v')
  (I0:tr (j+1)={T:=put (tr j).T o.dst v,m:={m with low:=min (tr j).m.low m.low}}) (hq:((tr j).m.n<=m.low/\¬Wr E call ops tr j)\/(Wr E call ops tr j/\lk=[]))
  (M0:∀b,uG E call ops tr j b->(tr j).m.get b≠.dead/\∃i,σ b=some i/\∀B,B≠i.dg->w'.heap[B]?=w.heap[B]?):
  ∃σ',Inv E P call ops nt tr σ0 w0 ds (λi=>i=j\/L i) σ' (a.put o.dst v') w':=by
 have C1:j < ops.size:=(aaF.1 ho).1;have J0:(tr (j+1)).m.n=m.n:=by rw[I0]
 have c1:∀b,(tr (j+1)).m.get b=m.get b:=by intro b;rw[I0];rfl
 have D1:(tr (j+1)).m.low<=m.low:=by rw[I0];exact ac3 _ _
 have hN:=(c.mono (i:=j+1) ops.size (by omega) (Ξ _)).2;have K1:(tr j).m.n<=m.n:=by have:=a0.IL;rw[A1]at this;exact this
 have E0:∀b i,σ b=some i->¬((tr j).m.n<=b/\b < m.n):=by
  rintro b i F ⟨h1,h2⟩;rcases h.nG b i F with h3 |⟨q,o0,h3,h4⟩
  ·have:=(c.mono (i:=0) j (by omega) (by omega)).1;omega
  have d1:=h.lt q o0;rcases abS q j with E1 |rfl |E1
  ·have:=(c.mono (i:=q+1) j (by omega) (by omega)).1;omega
  ·exact hj o0
  have:=(c.mono (i:=j+1) q (by omega) (by omega)).1;omega
 have F1:∀b i,τ b=some i->b < (tr j).m.n->σ b=some i:=by
  intro b i F e1
  cases hs:(σ.cut (tr j).m.n) b with
  |some i'=>have:=a0.ext b i' hs;rw[F]at this;cases this;exact(Sg.cZ.1 hs).2
  |none=>have h0:=(a0.new b i F hs).1;have h0:(tr j).m.n<=b:=h0;omega
 have N0:∀b i,τ b=some i->b < m.n:=λb i F=>by have:=a0.mL.nG b i F;omega
 let σ':Sg:=λb=>if(tr j).m.n<=b/\b < m.n then τ b else σ b
 have hle:σ.le σ':=by intro b i F;show(if(tr j).m.n<=b/\b < m.n then τ b else σ b)=some i;rw[aaa (E0 b i F)];exact F
 have g0:∀k,m.n<=k->τ.le (σ'.cut k):=by
  intro k hk b i F;have e1:=N0 b i F;rw[Sg.cZ];refine⟨by omega,?_⟩;show(if(tr j).m.n<=b/\b < m.n then τ b else σ b)=some i;by_cases g1:(tr j).m.n<=b;·rw[aaf ⟨g1,e1⟩];exact F
  rw[aaa (λx=>g1 x.1)];exact F1 b i F (by omega)
 have q0:∀b i,σ' b=some i->(((tr j).m.n<=b/\b < m.n)/\τ b=some i)\/(¬((tr j).m.n<=b/\b < m.n)/\σ b=some i):=by
  intro b i F;have F:(if(tr j).m.n<=b/\b < m.n then τ b else σ b)=some i:=F;by_cases hc:(tr j).m.n<=b/\b < m.n;·rw[aaf hc]at F;exact .inl ⟨hc,F⟩
  rw[aaa hc]at F;exact .inr ⟨hc,F⟩
 have K0:=h.IU c hj ho Y0 hp;have hs:=a0.mL;refine⟨σ',?_⟩;constructor
 ·rintro i (rfl |hL);·exact C1
  exact h.lt i hL
 ·exact h.tE ho Y0
 ·rw[rh];exact h.Dd
 ·rw[put_defers];exact h.defs
 ·exact h.BB c hj ho (by rw[I0]) hle (hv.mono (by rw[J0];exact g0 _ (Ξ _)))
 ·
  intro k l hk hw L0
  by_cases C0:Wr E call ops tr j
  ·
   obtain rfl:lk=[]:=(hq.resolve_left λx=>x.2 C0).2
   have j1:∀b,mk.get b=m.get b:=λb=>a1 b (.inl (by simp))
   have S0:∀p b,uG E call ops tr p b->(p < j↔L p):=λp b F=>(B1 p b F).resolve_right (by simp)
   have O0:∀b i,σ b=some i->b < (tr j).m.n:=by
    intro b i F;rcases h.nG b i F with h3 |⟨q,o0,h3,h4⟩
    ·have:=(c.mono (i:=0) j (by omega) (by omega)).1;omega
    ·have d1:=h.lt q o0
     obtain⟨oq,T0⟩:=wZ (ops:=ops) d1
     have before:Reach ops q j->b < (tr j).m.n:=λh5=>by have:=h5.lt c.ord.lt;have:=(c.mono (i:=q+1) j (by omega) (by omega)).1;omega
     cases U0:eO oq.op with
     |true=>have:=(c.pr T0 U0).1;omega
     |false=>
      rcases c.wr C0 with k1 |⟨b0,r0⟩
      ·rcases lZ k1.2 q oq T0 with rfl |h5 |h5 |h5;·exact absurd o0 hj
       ·rw[U0]at h5;cases h5
       ·exact before h5
       exact absurd (h5.gE h.closed o0) hj
      rcases sH (uG.ok r0) T0 U0 with rfl |h5 |h5 |⟨h5,_⟩;·exact absurd o0 hj
      ·exact before h5
      ·exact absurd (h5.gE h.closed o0) hj
      have:=(c.mono (i:=q+1) j (by omega) (by omega)).1;omega
   by_cases s0:j < k
   ·have o1:∀b,j+1<=b->b < k->¬NA E call ops tr b:=by
     intro b h1 h2 h3;rcases(hw b h3).1 h2 with rfl |hL;·omega
     have:=(K0 b h3).2 hL;omega
    have p1:∀p x,j+1<=p->p < k->uG E call ops tr p x->x∈l:=by
     intro p x h1 h2 h3;rcases L0 p x h3 with h4 |h4
     ·rcases h4.1 h2 with rfl |hL;·omega
      have:=(S0 p x h3).2 hL;omega
     exact h4
    have r1:=(c.mono (i:=j+1) k (by omega) hk).1
    have heq:∀b i,(σ'.cut (tr k).m.n) b=some i->τ b=some i:=by
     intro b i F;rw[Sg.cZ]at F;rcases q0 b i F.2 with⟨_,h1⟩ |⟨_,h1⟩;·exact h1
     exact a0.ext b i (Sg.cZ.2 ⟨O0 b i h1,h1⟩)
    have v0:∀b i,τ b=some i->b∉l->(tr k).m.get b=mk.get b:=by intro b i F H;rw[c.mH k (show j+1<=k by omega) hk o1 b (by rw[J0];exact N0 b i F) (λp h1 h2 h3=>H (p1 p b h1 h2 h3)),c1,j1]
    refine⟨λb i F=>(Sg.cZ.1 F).1,λb i F=>?_,λb i F=>hs.lt b i (heq b i F),λb b' i i' F j0 hd d0=>?_,λg hg=>g0 _ (by omega) g _ (hs.jE g hg)⟩
    ·rw[M.fU];by_cases H:b∈l;·rw[aaf H];trivial
     rw[aaa H,v0 b i (heq b i F) H];exact(hs.obj b i (heq b i F)).bH (g0 _ (by omega)) rfl
    rw[M.fU]at hd d0;by_cases H:b∈l;·rw[aaf H]at hd;exact absurd rfl hd
    by_cases e0:b'∈l;·rw[aaf e0]at d0;exact absurd rfl d0
    rw[aaa H,v0 b i (heq b i F) H]at hd;rw[aaa e0,v0 b' i' (heq b' i' j0) e0]at d0;exact hs.inj b b' i i' (heq b i F) (heq b' i' j0) hd d0
   ·
    have F0:¬NA E call ops tr j:=λF=>s0 ((hw j F).2 (.inl rfl))
    obtain⟨b0,r0⟩:=(c.wr C0).resolve_left F0
    have P0:b0∈l:=(L0 j b0 r0).resolve_left λx=>s0 (x.2 (.inl rfl))
    obtain⟨G1,i0,s1,H1⟩:=M0 b0 r0
    have G0:∀b,NA E call ops tr b->(b < k↔L b):=λb F=>(hw b F).trans ⟨λx=>x.resolve_left (λe=>F0 (e ▸ F)),.inr⟩
    have H0:∀p b,uG E call ops tr p b->(p < k↔L p)\/b∈l:=by
     intro p b F;by_cases Q0:p=j
     ·subst Q0;rw[r0.kE F];exact .inr P0
     exact(L0 p b F).imp (λx=>x.trans ⟨λy=>y.resolve_left Q0,.inr⟩) id
    have hA:=h.win k l hk G0 H0
    have hJ:=h.win j [] (by omega) K0 (λp b F=> .inl (S0 p b F))
    have r1:=(c.mono (i:=k) j (by omega) (by omega)).1
    have u1:∀b,b < (tr k).m.n->b∉l->(tr j).m.get b=(tr k).m.get b:=by
     intro b F H;refine c.mH j (by omega) (by omega) (λq h1 h2 h3=>?_) b F (λp h1 h2 h3=>H ?_)
     ·have h4:=(K0 q h3).1 h2;have:=(G0 q h3).2 h4;omega
     rcases H0 p b h3 with h4 |h4
     ·have h5:=(S0 p b h3).1 h2;have:=h4.2 h5;omega
     exact h4
    have u0:(σ.cut (tr k).m.n).le (σ'.cut (tr k).m.n):=Sg.Al hle (Ξ _)
    have k0:∀b i,(σ'.cut (tr k).m.n) b=some i->(σ.cut (tr k).m.n) b=some i:=by
     intro b i F;rw[Sg.cZ]at F⊢;rcases q0 b i F.2 with⟨h1,_⟩ |⟨_,h2⟩;·omega
     exact⟨F.1,h2⟩
    have I1:∀b i,(σ.cut (tr k).m.n) b=some i->b∉l->(tr k).m.get b≠.dead->i.dg≠i0.dg:=by
     intro b i F H hd he;have v1:=Sg.cZ.1 F;have J1:b < (tr j).m.n:=by omega
     have:=hJ.inj b b0 i i0 (Sg.cZ.2 ⟨J1,v1.2⟩) (Sg.cZ.2 ⟨O0 b0 i0 s1,s1⟩) (by rw[M.wi,u1 b v1.1 H];exact hd) (by rw[M.wi];exact G1) he;exact H (this ▸ P0)
    refine⟨λb i F=>(Sg.cZ.1 F).1,λb i F=>?_,λb i F=>?_,λb b' i i' F j0 hd d0 he=>hA.inj b b' i i' (k0 b i F) (k0 b' i' j0) hd d0 he,λg hg=>u0 g _ (hA.jE g hg)⟩
    ·have j0:=k0 b i F;have V0:=hA.obj b i j0;rw[M.fU]at V0⊢;by_cases H:b∈l;·rw[aaf H];trivial
     rw[aaa H]at V0⊢;by_cases hd:(tr k).m.get b=.dead;·rw[hd];trivial
     exact V0.bH u0 (H1 _ (I1 b i j0 H hd))
    ·have:=hA.lt b i (k0 b i F);have:=a0.hle;omega
  ·
   have O1:(tr j).m.n<=m.low:=(hq.resolve_right (λx=>C0 x.1)).1
   have G0:∀b,NA E call ops tr b->(b < k↔L b):=λb F=>(hw b F).trans ⟨λx=>x.resolve_left (λe=>C0 (e ▸ F.1)),.inr⟩
   have H0:∀p b,uG E call ops tr p b->(p < k↔L p)\/b∈l:=λp b F=>(L0 p b F).imp (λx=>x.trans ⟨λy=>y.resolve_left (λe=>C0 (e ▸ F.1)),.inr⟩) id
   have hA:=h.win k l hk G0 H0
   have X0:∀B,B < w.heap.size->w'.heap[B]?=w.heap[B]?:=λB hB=>a0.heap B hB λb i F _=>by have:=(Sg.cZ.1 F).1;omega
   have u0:(σ.cut (tr k).m.n).le (σ'.cut (tr k).m.n):=Sg.Al hle (Ξ _)
   have l0:∀b i,(σ'.cut (tr k).m.n) b=some i->(((tr j).m.n<=b/\b < m.n)/\τ b=some i/\j < k)\/(σ.cut (tr k).m.n) b=some i:=by
    intro b i F;rw[Sg.cZ]at F;rcases q0 b i F.2 with⟨h1,h2⟩ |⟨_,h2⟩
    ·refine .inl ⟨h1,h2,?_⟩;refine aaO λhc=>?_;have:=(c.mono (i:=k) j (by omega) (by omega)).1;omega
    exact .inr (Sg.cZ.2 ⟨F.1,h2⟩)
   have v0:j < k->∀b,(tr j).m.n<=b->b < m.n->b∉l->(tr k).m.get b=mk.get b:=by
    intro s0 b w1 F H
    rw[c.mH k (show j+1<=k by omega) hk (λb h1 h2 h3=>by
     have:=(K0 b h3).2 ((G0 b h3).1 h2)
     omega) b (by rw[J0];exact F) (λp h1 h2 h3=>by
      rcases H0 p b h3 with h4 |h4
      ·obtain⟨i,hi⟩:=h.IJ p b (h4.1 h2) h3;exact E0 b i hi ⟨w1,F⟩
      exact H h4),c1,a1 b (.inr w1)]
   have B0:∀b i,(tr j).m.n<=b->τ b=some i->w.heap.size<=i.dg:=by
    intro b i h1 h2
    have z0:(σ.cut (tr j).m.n) b=none:=by
     cases hx:(σ.cut (tr j).m.n) b with
     |none=>rfl
     |some i'=>have:=(Sg.cZ.1 hx).1;omega
    rcases(a0.new b i h2 z0).2 with h3 |⟨b0,i0,h3,_,h5⟩;·exact h3
    have:=(Sg.cZ.1 h3).1;omega
   refine⟨λb i F=>(Sg.cZ.1 F).1,λb i F=>?_,λb i F=>?_,λb b' i i' F j0 hd d0 he=>?_,λg hg=>u0 g _ (hA.jE g hg)⟩
   ·rcases l0 b i F with⟨h1,h2,s0⟩ |h1
    ·rw[M.fU];by_cases H:b∈l;·rw[aaf H];trivial
     rw[aaa H,v0 s0 b h1.1 h1.2 H];have r1:=(c.mono (i:=j+1) k (by omega) hk).1;exact(hs.obj b i h2).bH (g0 _ (by omega)) rfl
    exact(hA.obj b i h1).bH u0 (X0 _ (hA.lt b i h1))
   ·rcases l0 b i F with⟨_,h2,_⟩ |h1;·exact hs.lt b i h2
    have:=hA.lt b i h1;have:=a0.hle;omega
   ·rcases l0 b i F with⟨h1,h2,s0⟩ |h1 <;>rcases l0 b' i' j0 with⟨D0,z1,L1⟩ |D0
    ·rw[M.fU]at hd d0;by_cases H:b∈l;·rw[aaf H]at hd;exact absurd rfl hd
     by_cases e0:b'∈l;·rw[aaf e0]at d0;exact absurd rfl d0
     rw[aaa H,v0 s0 b h1.1 h1.2 H]at hd;rw[aaa e0,v0 s0 b' D0.1 D0.2 e0]at d0;exact hs.inj b b' i i' h2 z1 hd d0 he
    ·have:=B0 b i h1.1 h2;have:=hA.lt b' i' D0;omega
    ·have:=B0 b' i' D0.1 z1;have:=hA.lt b i h1;omega
    exact hA.inj b b' i i' h1 D0 hd d0 he
 ·
  rintro p b (rfl |hL) F
  ·obtain⟨_,i,hi,_⟩:=M0 b F;exact⟨i,hle b i hi⟩
  ·obtain⟨i,hi⟩:=h.IJ p b hL F;exact⟨i,hle b i hi⟩
 ·intro b i F;rcases q0 b i F with⟨h1,_⟩ |⟨_,h1⟩;·exact .inr ⟨j,.inl rfl,h1.1,by rw[J0];exact h1.2⟩
  exact(h.nG b i h1).imp id λ⟨q,x,y⟩=>⟨q,.inr x,y⟩
 ·exact λb i F=>hle b i (h.base b i F)
 ·intro b i F h0;rcases q0 b i F with⟨h1,h2⟩ |⟨_,h2⟩
  ·have z0:(σ.cut (tr j).m.n) b=none:=by
    cases hx:(σ.cut (tr j).m.n) b with
    |none=>rfl
    |some i'=>have:=(Sg.cZ.1 hx).1;omega
   have P1:=(c.mono (i:=0) j (by omega) (by omega)).1;refine⟨by omega,?_⟩;have hh:=h.hle;rcases(a0.new b i h2 z0).2 with h3 |⟨b0,i0,h3,h4,h5⟩;·exact .inl (by omega)
   ·have h3:=(Sg.cZ.1 h3).2
    cases A0:σ0 b0 with
    |some i1=>have:=h.base b0 i1 A0;rw[h3]at this;cases this;exact .inr ⟨b0,i0,A0,h4,by omega⟩
    |none=>
     rcases(h.new b0 i0 h3 A0).2 with h6 |⟨b1,i1,h6,h7,h8⟩;·exact .inl (by omega)
     exact .inr ⟨b1,i1,h6,by omega,h8⟩
  exact h.new b i h2 h0
 ·have:=h.hle;have:=a0.hle;omega
 ·intro B hB hc
  have hh:=h.hle
  rw[<-h.heap B hB hc]
  refine a0.heap B (by omega) λb i F he=>?_
  have F:=(Sg.cZ.1 F).2
  cases A0:σ0 b with
  |some i1=>have:=h.base b i1 A0;rw[F]at this;cases this;have:=hc b i A0 he;omega
  |none=>
   rcases(h.new b i F A0).2 with h6 |⟨b1,i1,h6,h7,h8⟩;·omega
   have:=hc b1 i1 h6 (by omega);omega
 ·exact a0.os.trans h.os
 ·exact a0.tape.trans h.tape
 ·exact a0.output.trans h.output
 exact h.jE
end
end
section
theorem Sg.Am{σ:Sg}{n:Nat}(h:∀b i,σ b=some i->b < n):σ.cut n=σ:=by
 funext b
 unfold Sg.cut
 by_cases F:b < n
 ·rw[aaf F]
 ·rw[aaa F]
  cases H:σ b with
  |none=>rfl
  |some i=>exact absurd (h b i H) F
def CT(l:Array Bool):Nat->Nat
 |0=>0
 |k+1=>CT l k+(if l.getD k false=true then 0 else 1)
theorem uQ{l:Array Bool}:∀{k:Nat},CT l k=0->∀i,i < k->l.getD i false=true
 |k+1,h,i,hi=>by
  unfold CT at h
  by_cases H:l.getD k false=true
  ·by_cases F:i=k
   ·subst F;exact H
   ·exact uQ (k:=k) (by omega) i (by omega)
  ·rw[aaa H]at h;omega
theorem wu(l:Array Bool){j:Nat}(F:j < l.size)(i:Nat):(l.setIfInBounds j true).getD i false=true↔i=j\/l.getD i false=true:=by
 rw[abd,abd,acR];by_cases h:j=i;·subst h;simp[F]
 simp[h,Ne.symm h]
theorem zx{l:Array Bool}{j:Nat}(hj:j < l.size)(hn:¬l.getD j false=true):∀k,CT (l.setIfInBounds j true) k+(if j < k then 1 else 0)=CT l k
 |0=>by simp[CT]
 |k+1=>by
  have H:=zx hj hn k
  have hs:=wu l hj k
  unfold CT
  by_cases a0:k=j
  ·subst a0
   rw[aaf (hs.2 (.inl rfl)),aaa hn,aaf (by omega)]
   rw[aaa (by omega)]at H
   omega
  ·by_cases hk:l.getD k false=true
   ·rw[aaf (hs.2 (.inr hk)),aaf hk]
    by_cases F:j < k
    ·rw[aaf F]at H;rw[aaf (by omega)];omega
    ·rw[aaa F]at H;rw[aaa (by omega)];omega
   ·rw[aaa (λx=>(hs.1 x).elim a0 hk),aaa hk]
    by_cases F:j < k
    ·rw[aaf F]at H;rw[aaf (by omega)];omega
    ·rw[aaa F]at H;rw[aaa (by omega)];omega
theorem my(l:Array Bool)(i:Nat)(h:i < l.size):l.getD i true=l.getD i false:=by simp[abd,h]
theorem Lr(l:Array Bool)(i:Nat)(h:¬i < l.size):l.getD i true=true:=by simp[abd,h]
theorem BS{E:Env}{m m':M}{t:TypeId}{F:Addr}(h:m'.get F.block=m.get F.block):loadVar E m' t F=loadVar E m t F:=by unfold loadVar D.loadCells D.cellAt;rw[h]
theorem KO{E:Env}{m m1:M}{b:Builtin}{ts:List TypeId}{args:aee}{v:aed}(H:b=.min\/b=.max)(h:av E m b ts args=some (v,m1)):m1=m/\∀m2,av E m2 b ts args=some (v,m2):=by
 rcases H with rfl |rfl
 ·have h:(dR (λx y=>if y < x then y else x) args).map (·,m)=some (v,m1):=h
  cases F:dR (λx y=>if y < x then y else x) args with
  |none=>rw[F]at h;cases h
  |some w=>rw[F]at h;cases h;exact⟨rfl,λm2=>by show(dR (λx y=>if y < x then y else x) args).map (·,m2)=_;rw[F];rfl⟩
 ·have h:(dR (λx y=>if y >x then y else x) args).map (·,m)=some (v,m1):=h
  cases F:dR (λx y=>if y >x then y else x) args with
  |none=>rw[F]at h;cases h
  |some w=>rw[F]at h;cases h;exact⟨rfl,λm2=>by show(dR (λx y=>if y >x then y else x) args).map (·,m2)=_;rw[F];rfl⟩
theorem KX{E:Env}{m m1:M}{ts:List TypeId}{x v:aed}(H:∀r,x≠.map r)(h:av E m .len ts [x]=some (v,m1)):m1=m/\∀m2,av E m2 .len ts [x]=some (v,m2):=by
 match ts,h with
 |[],h=>cases h
 |t::_::_,h=>cases h
 |[t],h=>
  have h:(pC E m t x).map (·,m)=some (v,m1):=h
  have e:∀m2,pC E m2 t x=pC E m t x:=by
   intro m2
   unfold pC
   cases E.ty.get t with
   |none=>rfl
   |some ti=>dsimp only;cases hd:ti.d <;>cases x <;>first |rfl |exact absurd rfl (H _)
  cases F:pC E m t x with
  |none=>rw[F]at h;cases h
  |some w=>rw[F]at h;cases h;exact⟨rfl,λm2=>by show(pC E m2 t x).map (·,m2)=_;rw[e,F];rfl⟩
theorem OA{E:Env}{call:aG}{T:Tr aed}{m m1:M}{o:Op}{v:aed}{lk:List Nat}{x:Nat}(h:dt o E call T {m with low:=x}=some (v,m1))
  (hk:∀b∈lk,(∃t,o=.alloc t)\/(∃t y,o=.box t y)\/(∃t s ad,o=.load t (.tmp s)/\gn T s=.pointer (some ad)/\ad.block≠b)\/mZ o=true\/∃s,lenOf o=some s/\∀r,gn T s≠.map r):
  ∃mk,dt o E call T {m.kill lk with low:=x}=some (v,mk)/\mk.n=m1.n/\mk.low=m1.low/\∀b,b∉lk\/m.n<=b->mk.get b=m1.get b:=by
 cases lk with
 |nil=>exact⟨m1,h,rfl,rfl,λ_ _=>rfl⟩
 |cons b0 r=>
  have a0:∀(o:Ob) b,b∉b0::r\/m.n<=b->(({m.kill (b0::r)with low:=x}:M).push o).get b=(({m with low:=x}:M).push o).get b:=by
   intro o b F;rw[M.fH,M.fH];show(if b=m.n then o else(m.kill (b0::r)).get b)=if b=m.n then o else m.get b
   rw[M.fU];by_cases h1:b=m.n;·simp[h1]
   rw[aaa h1,aaa h1];rcases F with F |F;·rw[aaa F]
   have:m.get b=.dead:=by rw[M.eY,aaa (by omega)]
   rw[this];split <;>rfl
  have d0:∀b,b∉b0::r\/m.n<=b->({m.kill (b0::r)with low:=x}:M).get b=({m with low:=x}:M).get b:=by
   intro b F;show(m.kill (b0::r)).get b=m.get b;rw[M.fU];rcases F with F |F;·rw[aaa F]
   have:m.get b=.dead:=by rw[M.eY,aaa (by omega)]
   rw[this];split <;>rfl
  rcases hk b0 aaP with⟨t,rfl⟩ |⟨t,y,rfl⟩ |⟨t,s,ad,rfl,hs,_⟩ |e0 |⟨s,H,h0⟩
  ·simp only[dt,rp]at h⊢
   cases hz:eZ E t with
   |none=>rw[hz]at h;cases h
   |some z=>rw[hz]at h;cases h;exact⟨_,rfl,rfl,rfl,a0 _⟩
  ·simp only[dt,Kz]at h⊢;cases h;exact⟨_,rfl,rfl,rfl,a0 _⟩
  ·have hn:ad.block∉b0::r:=by
    intro hm
    rcases hk _ hm with⟨t',h'⟩ |⟨t',y,h'⟩ |⟨t',s',l0,h',g0,i0⟩ |h' |⟨_,h',_⟩
    ·cases h'
    ·cases h'
    ·cases h';rw[hs]at g0;cases g0;exact i0 rfl
    ·cases h'
    ·cases h'
   have j0:ev T (.tmp s)=.pointer (some ad):=hs
   simp only[dt,qi,j0]at h⊢
   have hl:loadVar E {m.kill (b0::r)with low:=x} t ad=loadVar E {m with low:=x} t ad:=BS (by show(m.kill (b0::r)).get ad.block=m.get ad.block;rw[M.fU,aaa hn])
   rw[hl]
   cases hz:loadVar E {m with low:=x} t ad with
   |none=>rw[hz]at h;cases h
   |some z=>
    rw[hz]at h;cases h;refine⟨_,rfl,rfl,rfl,λb F=>?_⟩;show(m.kill (b0::r)).get b=m.get b;rw[M.fU];rcases F with F |F;·rw[aaa F]
    have:m.get b=.dead:=by rw[M.eY,aaa (by omega)]
    rw[this];split <;>rfl
  ·obtain⟨c,rfl⟩:∃c,o=.call c:=by cases o <;>first |exact⟨_,rfl⟩ |cases e0
   have F:c.callee=.builtin .min\/c.callee=.builtin .max:=by
    unfold mZ at e0;dsimp only at e0;split at e0;·exact .inl (by assumption)
    ·exact .inr (by assumption)
    cases e0
   obtain⟨bb,k0,hc⟩:∃bb,(bb=.min\/bb=.max)/\c.callee=.builtin bb:=by
    rcases F with F |F;·exact⟨_,.inl rfl,F⟩
    exact⟨_,.inr rfl,F⟩
   simp only[dt,kM,hc]at h⊢;obtain⟨rfl,hw⟩:=KO k0 h;exact⟨_,hw _,rfl,rfl,d0⟩
  obtain⟨c,rfl⟩:∃c,o=.call c:=by cases o <;>first |exact⟨_,rfl⟩ |cases H
  unfold lenOf at H;dsimp only at H;split at H
  ·rename_i hc;split at H
   ·rename_i t ha;cases H;simp only[dt,kM,hc,ha]at h⊢;obtain⟨rfl,hw⟩:=KX (x:=gn T s) h0 h;exact⟨_,hw _,rfl,rfl,d0⟩
   cases H
  cases H
theorem zw{ops:Array Oper}{T F:Tr aed}{o:Oper}(h:∀g w d,o.guard=some (g,w)->(ops[g]?).bind (·.dst)=some d->gn F d=gn T d):bV ops F o=bV ops T o:=by
 unfold bV
 cases H:o.guard with
 |none=>rfl
 |some p=>
  obtain⟨g,w⟩:=p
  dsimp only
  simp only[aaY]
  cases hd:(ops[g]?).bind (·.dst)with
  |none=>rfl
  |some d=>dsimp only;rw[h g w d H hd]
theorem xH{E:Env}{m m':M}{t:TypeId}{F:Addr}{v:aed}(h:storeVar E m t F v=some m'):m.get F.block≠.dead:=by
 intro hd;unfold storeVar at h;split at h
 ·cases H:Nat.beq (cells v).length _ with
  |false=>rw[H]at h;cases h
  |true=>rw[H]at h;simp only[cond_true]at h;unfold D.storeCells at h;rw[hd]at h;cases h
 cases h
section
variable {E:Env} {P:Program} {call:aG} {ops:Array Oper} {nt:Nat} {tr:Nat->Fr} {σ0 σ:Sg} {w0 w:World} {ds:List Deferred} {L:Nat->Prop} {a:Act} {ro:Option Nat} {n:Nat} {Q:Exit->Act->World->Prop}
theorem Inv.step(c:Ctx E P call ops nt tr)(h:Inv E P call ops nt tr σ0 w0 ds L σ a w){j:Nat}{o:Oper}(hj:¬L j)(ho:ops[j]?=some o)(g0:∀e∈o.after,Region.binds .any e=true->L e.on)
  {K:Act->World->Prop} (hK:∀σ' a' w',Inv E P call ops nt tr σ0 w0 ds (λi=>i=j\/L i) σ' a' w'->K a' w'):wpOpIn (dk ro) n P ops Q j K a w:=by
 have o1:j < ops.size:=(aaF.1 ho).1;have B0:=c.ok o (by simpa using abx ho);have e0:∀t,t < nt->t∈eI ops o->aS (σ.cut (tr j).m.n) (gn (tr j).T t) (a.eval (.tmp t)):=λt ht hn=>h.names c hj ho g0 ht hn
 have hw:bV ops (tr j).T o=Region.wanted o (yielded ops a.tmps):=by refine mM (σ:=σ.cut (tr j).m.n) λq want d hg hd=>?_;have U0:=hd;simp only[acG]at hd;obtain⟨o',a0,V0⟩:=hd;have H0:=du (c.ok o' (by simpa using abx a0)) d V0;refine⟨by rw[h.Dd];exact H0,e0 d H0 ?_⟩;unfold eI;rw[hg];simp only[U0];simp
 unfold wpOpIn;rw[ho];dsimp only;rw[<-hw];rcases c.step j o ho with⟨o0,q0⟩ |⟨o0,v,m,H,hb,q0⟩
 ·rw[o0,aaa (by simp)];refine⟨λ_ _=>trivial,hK σ _ w (h.same c hj ho g0 (v:=undef) (by rw[q0]) ?_ aS.undef)⟩;rintro⟨o',v,m,a0,I0,_⟩;rw[ho]at a0;cases a0;rw[o0]at I0;cases I0
 ·rw[o0,aaf rfl]
  refine⟨λ_ _=>trivial,?_⟩
  rw[Oper.semAt_eq _ _ _ (λc hc=>by rw[hc]at H;simp[dt]at H)]
  cases hp:eO o.op with
  |true=>
   have F:∀x∈o.op.operands.toList,aS (σ.cut (tr j).m.n) (ev (tr j).T x) (a.eval x):=by
    intro x hx
    have r0:=eC B0 x hx
    cases x with
    |tmp t=>exact e0 t (mY r0) (by unfold eI;simp only[aaR];exact .inr (.inl (acL.2 ⟨.tmp t,hx,rfl⟩)))
    |const v=>exact .jB r0
    |global g=>
     have hg:g < P.globals.size:=by have h:Nat.blt g P.globals.size=true:=r0;rw[eK]at h;simpa using h
     obtain⟨h1,h2⟩:=h.jE g hg;have h3:=(c.mono (i:=0) j (by omega) (by omega)).1;exact .ptr ⟨g,0,none⟩ ⟨g,none⟩ (Sg.cZ.2 ⟨by dsimp only;omega,h.base g _ h2⟩) rfl
    |func f=>exact .flat _ rfl
   obtain⟨v',hr,hv⟩:=vq (w:=w) c.hE hp H F;rw[hr];refine hK σ _ w (h.same c hj ho g0 (v:=v) (by rw[q0]) (c.pr ho hp).2 ?_);rw[(c.pr ho hp).1];exact hv
  |false=>
   obtain⟨lk,j0,C0⟩:=h.NI c hj ho g0 hp;have k0:=h.win j lk (by omega) (h.IU c hj ho g0 hp) j0
   have F:∀x∈o.op.operands.toList,aS (σ.cut (tr j).m.n) (ev (tr j).T x) (a.eval x):=by
    intro x hx;have r0:=eC B0 x hx
    exact wD k0 (λt ht=>by subst ht;exact e0 t (mY r0) (by unfold eI;simp only[aaR];exact .inr (.inl (acL.2 ⟨.tmp t,hx,rfl⟩)))) r0
   have i0:∀b∈lk,(∃t,o.op=.alloc t)\/(∃t y,o.op=.box t y)\/(∃t s ad,o.op=.load t (.tmp s)/\gn (tr j).T s=.pointer (some ad)/\ad.block≠b)\/mZ o.op=true\/∃s,lenOf o.op=some s/\∀r,gn (tr j).T s≠.map r:=by
    intro b hb;obtain⟨p,hL,u0,X0,J0,D0,E0⟩:=C0 b hb;have p1:=u0.1.lt;rcases sH J0 ho hp with rfl |hr |hr |⟨_,h4⟩;·omega
    ·exact absurd hr D0
    ·exact absurd hr E0
    ·rcases h4 with h4 |h4 |⟨t,s,h4,h5,h6,h7⟩ |h4 |⟨s,h4,h5,h6⟩
     ·exact .inl h4
     ·exact .inr (.inl h4)
     rotate_left
     ·exact .inr (.inr (.inr (.inl h4)))
     ·have hT:gn (tr p).T s=gn (tr j).T s:=c.pz p (by omega) (by omega) λq oq h1 h2 hq=>h5 q oq h1 h2 hq;exact .inr (.inr (.inr (.inr ⟨s,h4,λr=>by rw[<-hT];exact h6 r⟩)))
     ·refine .inr (.inr (.inl ⟨t,s,?_⟩));have hT:gn (tr p).T s=gn (tr j).T s:=c.pz p (by omega) (by omega) λq oq h1 h2 hq=>h5 q oq h1 h2 hq;have hW:bV ops (tr p).T o=bV ops (tr j).T o:=zw λg w d hg hd=>c.pz p (by omega) (by omega) λq oq h1 h2 hq=>h6 g w d hg hd q oq h1 h2 hq;rcases h7 with h7 |⟨ad,h7,h8⟩;·rw[hW,o0]at h7;cases h7
      exact⟨ad,h4,by rw[<-hT];exact h7,h8⟩
   by_cases F0:∃b0,uG E call ops tr j b0
   ·obtain⟨b0,v0⟩:=F0
    obtain⟨_,_,o',a0,d0,_⟩:=id v0
    rw[ho]at a0
    cases a0
    cases h0:o.op with
    |store t x y=>
     rw[h0]at d0;unfold fM at d0;dsimp only at d0;split at d0
     ·rename_i ad z0;cases d0
      obtain rfl:lk=[]:=by refine acm.2 λb hb=>?_;rcases i0 b hb with⟨_,h'⟩ |⟨_,_,h'⟩ |⟨_,_,_,h',_⟩ |h' |⟨_,h',_⟩ <;>rw[h0]at h' <;>cases h'
      rw[h0]at H F;simp only[dt,mV,z0]at H;split at H
      ·rename_i m2 hz;cases H;have hx:=F x (by simp[Op.operands]);rw[z0]at hx;obtain⟨i,hi,_,he⟩:=hx.eP;obtain⟨w',q1,q2,_,q4⟩:=nL c.hE (k0.low (tr j).m.n) hi (F y (by simp[Op.operands])) hz
       have hr:(Instr.storeAt t (a.eval x) (a.eval y)).run P w=.ok () w':=by rw[he];simpa[Instr.storeAt,Instr.sureAddr]using q1
       have s0:Wr E call ops tr j:=v0.1
       obtain⟨σ',hI⟩:=h.effect c (v':=undef) (mk:=m) (lk:=[]) hj ho g0 hp rfl rfl (λ_ _=>rfl) j0 q2 aS.undef q0 (.inr ⟨s0,rfl⟩) (λb hb=>by have:=v0.kE hb;subst this;exact⟨λhd=>xH hz hd,i,(Sg.cZ.1 hi).2,q4⟩)
       unfold execOp;rw[h0];simp only[aan,hr,aai,aaL];exact hK σ' _ w' hI
      cases H
     cases d0
    |call cc=>
     rw[h0]at d0 H F;obtain⟨f,x,ad,A0,K0,Y0,hex,L0,a1⟩:=zC d0 H
     obtain rfl:lk=[]:=by
      refine acm.2 λb hb=>?_;rcases i0 b hb with⟨_,h'⟩ |⟨_,_,h'⟩ |⟨_,_,_,h',_⟩ |h' |⟨_,h',_⟩ <;>rw[h0]at h'
      ·cases h'
      ·cases h'
      ·cases h'
      ·simp[mZ,A0]at h'
      simp[lenOf,A0]at h'
     obtain⟨G0,r1,M0⟩:=c.cz.IJ ad _ v m b0 a1 L0;have N0:=F x (by simp[Op.operands,Call.operands];exact .inr (by rw[<-Array.mem_toList_iff,K0];simp));rw[hex]at N0;have O0:=F f (by simp[Op.operands,Call.operands,A0]);rw[Y0]at O0
     have c1:a.eval f=.func (.func tP) #[] #[]:=by exact O0.aU rfl
     obtain⟨i,hi,d1,P0⟩:=M0 _ w #[a.eval x] ((k0.low (tr j).m.n)) (.cons N0 .nil);have s0:Wr E call ops tr j:=v0.1;unfold execOp;rw[h0]
     have e1:cc.args.map a.eval= #[a.eval x]:=by apply abl;simp[K0]
     simp only[resolve,A0,c1,Deferred.ofValue,aan,aaL,aai,invoke,e1,Array.empty_append,Array.append_empty,P0];refine Ek d1 ro n o a K Q λe w' he=>?_;obtain⟨⟨v',s1,rfl,hv,z0⟩,Q0⟩:=he
     obtain⟨σ',hI⟩:=h.effect c (v':=v') (mk:=m) (lk:=[]) hj ho g0 hp rfl rfl (λ_ _=>rfl) j0 z0 hv q0 (.inr ⟨s0,rfl⟩) (λb hb=>by have:=v0.kE hb;subst this;exact⟨G0,i,(Sg.cZ.1 hi).2,Q0⟩)
     exact⟨v',rfl,hK σ' _ w' hI⟩
    |_=>rw[h0]at d0;cases d0
   obtain⟨mk,S0,g1,i1,j1⟩:=OA H i0;refine(nV c.hE c.cz (k0.low (tr j).m.n) S0 F).2 ro n o a K Q λτ w' v' hv he=>?_
   obtain⟨σ',hI⟩:=h.effect c hj ho g0 hp g1 i1 j1 j0 he hv q0 (by
    by_cases hq:(tr j).m.n<=m.low
    ·refine .inl ⟨hq,?_⟩;rintro⟨o',v',m',a0,_,l0,hn⟩;rw[ho]at a0;cases a0;rw[H]at l0;cases l0;exact hn hq
    have s0:Wr E call ops tr j:=⟨o,v,m,ho,o0,H,hq⟩
    have T0:eL ops j=true:=((c.wr s0).resolve_right F0).2;refine .inr ⟨s0,acm.2 λb hb=>?_⟩;obtain⟨p,hL,u0,X0,J0,D0,E0⟩:=C0 b hb;obtain⟨op,l0,k1⟩:=Wr.op c u0.1;rcases lZ T0 p op l0 with rfl |h1 |h1 |h1;·omega
    ·rw[k1]at h1;cases h1
    ·exact E0 h1
    exact D0 h1) (λb hb=>absurd ⟨b,hb⟩ F0)
   exact hK σ' _ w' hI
theorem IC(c:Ctx E P call ops nt tr)(hQ:∀σ a w,Inv E P call ops nt tr σ0 w0 ds (λi=>i < ops.size) σ a w->Q .normal a w):
  ∀(fuel:Nat) (listed:Array Bool) (σ:Sg) (a:Act) (w:World),listed.size=ops.size->CT listed ops.size<=fuel->Inv E P call ops nt tr σ0 w0 ds (λi=>listed.getD i false=true) σ a w->
   wpAnyIn (dk ro) n P .any ops Q fuel listed a w:=by
 have fin:∀(listed:Array Bool) (σ:Sg) (a:Act) (w:World),listed.size=ops.size->(∀i,i < ops.size->listed.getD i false=true)->Inv E P call ops nt tr σ0 w0 ds (λi=>listed.getD i false=true) σ a w->Q .normal a w:=by
  intro listed σ a w H F h
  have:(λi=>listed.getD i false=true)=(λi=>i < ops.size):=by
   funext i
   exact propext ⟨λhi=>h.lt i hi,F i⟩
  rw[this]at h;exact hQ σ a w h
 have a0:∀(listed:Array Bool),listed.size=ops.size->(∀i,i < ops.size->listed.getD i false=true)->Region.ready .any ops listed=[]:=by
  intro listed H F;refine acm.2 λj hj=>?_;have h1:=(mem_ready.1 hj).1;by_cases b0:j < listed.size;·rw[my _ _ b0,F j (by omega)]at h1;cases h1
  rw[Lr _ _ b0]at h1;cases h1
 have ready_all:∀(listed:Array Bool),listed.size=ops.size->Region.ready .any ops listed=[]->∀i,i < ops.size->listed.getD i false=true:=by
  intro listed H hr i
  induction i using Nat.strongRecOn with
  |_ i ih=>
   intro hi;refine aaO λhn=>?_;obtain⟨o,ho⟩:=wZ (ops:=ops) hi
   have:i∈Region.ready .any ops listed:=mem_ready.2 ⟨by rw[my _ _ (by omega)];simpa using hn,o,ho,λe he hb=>by have:=c.ord.lt i o ho e he hb;exact ih e.on this (by omega)⟩
   rw[hr]at this;cases this
 intro fuel
 induction fuel with
 |zero=>intro listed σ a w H hu h;have F:=λi hi=>uQ (l:=listed) (k:=ops.size) (by omega) i hi;exact⟨a0 listed H F,fin listed σ a w H F h⟩
 |succ fuel ih=>
  intro listed σ a w H hu h;refine⟨λhr=>fin listed σ a w H (ready_all listed H hr) h,λj hj=>?_⟩;obtain⟨h1,o,ho,e0⟩:=mem_ready.1 hj;have g0:j < ops.size:=(aaF.1 ho).1
  have d0:¬listed.getD j false=true:=by rw[my _ _ (by omega)]at h1;rw[h1];simp
  refine h.step c d0 ho e0 λσ' a' w' hI=>?_;refine ih _ σ' a' w' (by simpa using H) ?_ ?_
  ·have:=zx (l:=listed) (j:=j) (by omega) d0 ops.size;rw[aaf g0]at this;omega
  have:(λi=>(listed.setIfInBounds j true).getD i false=true)=(λi=>i=j\/listed.getD i false=true):=by
   funext i
   exact propext (wu listed (by omega) i)
  rw[this];exact hI
theorem El(hE:E.OK P)(cz:cQ P call)(j0:∀o∈ops.toList,eD nt P.globals.size o=true)(hd:qk ops=true){fr a0:Fr}(h:fO E call ops ops.toList 0 fr=some a0)
  (hf:di σ fr.T a nt) (hs:dY P σ fr.m w) (k:∀σ' a' w',di σ' a0.T a' nt->a'.defers=a.defers->Ev P σ fr.m w σ' a0.m w'->Q .normal a' w'):
  wpAnyIn (dk ro) n P .any ops Q ops.size (Array.replicate ops.size false) a w:=by
 obtain⟨tr,t0,tN,g0⟩:=wH ops.toList 0 fr a0 h
 have k0:∀j o,ops[j]?=some o->DStep E call ops (tr j) o j (tr (j+1)):=by intro j o ho;have:=g0 j o (by simpa using ho);simpa using this
 subst t0;have tN:tr ops.size=a0:=by rw[<-tN];simp
 subst tN;have c:Ctx E P call ops nt tr:=⟨hE,cz,rq hd,j0,k0,zb hE cz j0 k0 hs hf⟩
 refine IC (σ0:=σ) (w0:=w) (ds:=a.defers) c ?_ ops.size _ σ a w (by simp) ?_ ?_
 ·intro σ' a' w' hI
  have l0:∀b i,σ' b=some i->b < (tr ops.size).m.n:=by
   intro b i F;rcases hI.nG b i F with h1 |⟨q,hq,_,h2⟩
   ·have:=(c.mono (i:=0) ops.size (by omega) (Ξ _)).1;omega
   have:=(c.mono (i:=q+1) ops.size (by omega) (Ξ _)).1;omega
  have e0:=hI.win ops.size [] (Ξ _) (λb F=>Iff.rfl) (λp b F=> .inl Iff.rfl);rw[Sg.Am l0,M.wi]at e0;refine k σ' a' w' ⟨hI.Dd,λt ht=>?_⟩ hI.defs ⟨hI.base,e0,(c.mono (i:=0) ops.size (by omega) (Ξ _)).2,(c.mono (i:=0) ops.size (by omega) (Ξ _)).1,hI.hle,hI.new,λb F hn=>c.abs ops.size (Ξ _) b F hn,hI.heap,hI.os,hI.tape,hI.output⟩;obtain⟨q,hq,hv,hw,_⟩:=hI.tmp t ht
  have hT:gn (tr ops.size).T t=gn (tr q).T t:=c.pz ops.size hq (Ξ _) λi o h1 h2 ho o0=>by have:=hw i o h2 ho o0;omega
  rw[hT];refine hv.mono λb i F=>(Sg.cZ.1 F).2
 ·have:∀k,CT (Array.replicate ops.size false) k<=k:=by
   intro k
   induction k with
   |zero=>simp[CT]
   |succ k ih=>unfold CT;split <;>omega
  exact this _
 have hL:∀i,¬(Array.replicate ops.size false).getD i false=true:=by intro i;simp[abd,acZ];split <;>simp
 have q0:σ.cut (tr 0).m.n=σ:=Sg.Am hs.nG
 exact{
  lt:=λi hi=>absurd hi (hL i)
  closed:=λj o ho hj=>absurd hj (hL j)
  Dd:=hf.1
  defs:=rfl
  tmp:=λt ht=>⟨0,by omega,by rw[q0];exact hf.2 t ht,λi o hi=>absurd hi (hL i),.inl rfl⟩
  win:=λk l hk hw s0=>by
   have i0:σ.cut (tr k).m.n=σ:=Sg.Am λb i F=>by have:=hs.nG b i F;have:=(c.mono (i:=0) k (by omega) hk).1;omega
   rw[i0]
   have b0:∀b,b < (tr 0).m.n->b∉l->(tr k).m.get b=(tr 0).m.get b:=λb F H=>c.mH (i:=0) k (by omega) hk (λb _ h2 h3=>hL b ((hw b h3).1 h2)) b F
    (λp _ h2 h3=>(s0 p b h3).elim (λx=>hL p (x.1 h2)) H)
   have u0:=(c.mono (i:=0) k (by omega) hk).1;refine⟨λb i F=>?_,λb i F=>?_,hs.lt,λb b' i i' F r0 h1 h2=>?_,hs.jE⟩
   ·have:=hs.nG b i F;show b < (tr k).m.n;omega
   ·rw[M.fU];by_cases H:b∈l;·rw[aaf H];trivial
    rw[aaa H,b0 b (hs.nG b i F) H];exact hs.obj b i F
   rw[M.fU]at h1 h2;by_cases H:b∈l;·rw[aaf H]at h1;exact absurd rfl h1
   by_cases d0:b'∈l;·rw[aaf d0]at h2;exact absurd rfl h2
   rw[aaa H,b0 b (hs.nG b i F) H]at h1;rw[aaa d0,b0 b' (hs.nG b' i' r0) d0]at h2;exact hs.inj b b' i i' F r0 h1 h2
  IJ:=λp b hp=>absurd hp (hL p)
  nG:=λb i F=> .inl (hs.nG b i F)
  base:=λ_ _ x=>x
  new:=λb i F h0=>by rw[F]at h0;cases h0
  hle:=Ξ _
  heap:=λ_ _ _=>rfl
  os:=rfl
  tape:=rfl
  output:=rfl
  jE:=λg hg=>⟨hs.nG g _ (hs.jE g hg),hs.jE g hg⟩}
end
end
section
section
variable {E:Env} {P:Program} {call:aG} {nt:Nat} {σ:Sg} {w:World} {a:Act} {ro:Option Nat} {k:Nat}
def Ex.to:Ex->Exit
 |.normal=> .normal
 |.exit id=> .exit id
 |.ret=> .ret
def lP(base:Nat)(σ:Sg)(w:World):List Deferred->Prop
 |[]=>True
 |d::ds=>(∃r,d.target=.collected r/\base<=r/\w.heap[r]?=some (.deferred (some []))/\(∀b i,σ b=some i->i.dg≠r)/\∀F∈ds,F.target≠.collected r)/\lP base σ w ds
theorem lP.ev{base:Nat}{σ':Sg}{m m':M}{w':World}(he:Ev P σ m w σ' m' w'):∀{ds:List Deferred},lP base σ w ds->lP base σ' w' ds
 |[],_=>trivial
 |d::ds,h=>by
  obtain⟨⟨r,h1,h2,h3,H,h5⟩,h6⟩:=h
  have hr:r < w.heap.size:=(aaF.1 h3).1
  refine⟨⟨r,h1,h2,?_,?_,h5⟩,h6.ev he⟩
  ·rw[he.heap r hr (λb i F e=>absurd e (H b i F))]
   exact h3
  ·intro b i F e
   cases hs:σ b with
   |some i'=>
    have:=he.ext b i' hs
    rw[F]at this;cases this
    exact H b i hs e
   |none=>
    rcases(he.new b i F hs).2 with h |⟨b0,i0,h,h',_⟩
    ·omega
    ·exact H b0 i0 h (h'.trans e)
theorem lP.lt{base:Nat}:∀{ds:List Deferred},lP base σ w ds->∀d∈ds,∃r,d.target=.collected r/\r < w.heap.size
 |d::ds,h,H,F=>by
  obtain⟨⟨r,h1,_,h3,_,_⟩,h6⟩:=h
  rcases aaS.1 F with rfl |F
  ·exact⟨r,h1,(aaF.1 h3).1⟩
  ·exact h6.lt H F
def AE(base:Nat)(σ:Sg)(w:World)(F ds:List Deferred):Prop:=∃ms,ds=ms++F/\lP base σ w ms
theorem AE.ev{base:Nat}{F ds:List Deferred}{σ':Sg}{m m':M}{w':World}(he:Ev P σ m w σ' m' w')(h:AE base σ w F ds):AE base σ' w' F ds:=by obtain⟨ms,H,h2⟩:=h;exact⟨ms,H,h2.ev he⟩
theorem uM{F:Fence}{n:Nat}{c:Code}{Q:Exit->Act->World->Prop}(h:c.wpIn F n P (Exit.noGoto Q) a w):(Code.scope c).wpIn F n P Q a w:=by
 intro b k cs d0 hb hr
 have h1:step P (lone (b.atR a (.code (.scope c)::k)) cs w)=.next (lone (b.atR a (.code c::.inScope c::k)) cs w):=step_lone_go (by simp[stepG,stepG.exec,Frame.atR])
 have i1:(lone (b.atR a (.code (.scope c)::k)) cs w).fenced P F:=fenced_calm hb hr rfl
 obtain⟨e,H,a0,hq,b0⟩:=h b (.inScope c::k) cs d0 hb hr
 have h2:step P (lone (b.atR H (.inScope c::k)) cs a0)=.next (lone (b.atR H k) cs a0):=step_lone_go (by simp[stepG,stepG.exec,Frame.atR])
 have i2:(lone (b.atR H (.inScope c::k)) cs a0).fenced P F:=fenced_calm hb hr rfl
 cases e with
 |normal=>exact⟨.normal,H,a0,hq,StepsIn.head i1 h1 (StepsIn.trans b0 (.one i2 h2))⟩
 |exit id=>exact⟨.exit id,H,a0,hq,.of_steps (.one i1 h1) ⟨λk' hk=>b0.1 k' (by simp[exitTo,hk]),λe0 hk=>b0.2 e0 (by simp[exitTo,hk])⟩⟩
 |goto l=>exact hq.elim
 |ret=>exact⟨_,H,a0,hq,.of_steps (.one i1 h1) b0⟩
 |panic ch=>exact⟨_,H,a0,hq,.of_steps (.one i1 h1) b0⟩
 |outgrown=>exact⟨_,H,a0,hq,.of_steps (.one i1 h1) b0⟩
theorem Ev.extra{m:M}(F:dY P σ m w)(o:Obj):Ev P σ m w σ m (w.alloc o):=by have hk:∀B,B < w.heap.size->(w.alloc o).heap[B]?=w.heap[B]?:=λB hB=>heap_alloc_old w o hB;refine⟨λ_ _ x=>x,⟨F.nG,λb i H=>(F.obj b i H).bH (λ_ _ x=>x) (hk _ (F.lt b i H)),λb i H=>?_,F.inj,F.jE⟩,Ξ _,Ξ _,by simp,λb i x y=>(by rw[x]at y;cases y),λ_ _ _=>rfl,λB hB _=>hk B hB,rfl,rfl,rfl⟩;have:=F.lt b i H;simp;omega
def PE(ro:Option Nat)(σ:Sg)(m:M):Prop:=ro=none\/∃l i r,ro=some i.dg/\σ l=some i/\m.get l=.loop r
theorem PE.next{ro:Option Nat}{σ':Sg}{m m':M}(h:PE ro σ m)(he:σ.le σ')(F:LK m m'):PE ro σ' m':=by
 rcases h with h |⟨l,i,r,H,h2,h3⟩;·exact .inl h
 obtain⟨r',h4⟩:=F l r h3;exact .inr ⟨l,i,r',H,he _ _ h2,h4⟩
def TM(P:Program)(nt:Nat)(c:Code)(fr:Fr)(e:Ex)(F:Fr):Prop:=
 ∀(ro:Option Nat) (k base:Nat) (σ:Sg) (a:Act) (w:World) (Q:Exit->Act->World->Prop) (tl:List Deferred),PE ro σ fr.m->di σ fr.T a nt->dY P σ fr.m w->AE base σ w tl a.defers->base<=w.heap.size->
  (∀σ' H w',di σ' F.T H nt->AE base σ' w' tl H.defers->(eM c=true->H.defers=a.defers)->Ev P σ fr.m w σ' F.m w'->Q e.to H w')->c.wpIn (dk ro) k P Q a w
def least(p:Nat->Prop):Nat:=by
 classical
 exact if h:∃j,p j/\∀i,i < j->¬p i then Classical.choose h else 0
theorem vZ{p:Nat->Prop}{j:Nat}(h:p j):p (least p)/\least p<=j:=by
 have ex:∃j,p j/\∀i,i < j->¬p i:=by
  induction j using Nat.strongRecOn with
  |_ j ih=>
   by_cases F:∃i,i < j/\p i
   ·obtain⟨i,h1,h2⟩:=F;exact ih i h1 h2
   exact⟨j,h,λi hi hp=>F ⟨i,hi,hp⟩⟩
 have H:=ac5 ex
 have he:least p=Classical.choose ex:=by unfold least;rw[dif_pos ex]
 rw[he];refine⟨H.1,?_⟩;refine aaO λF=>?_;exact H.2 j (by omega) h
theorem DR{c:Code}{body:Fr->Option (Ex×Fr)}(q0:∀fr e F,body fr=some (e,F)->LK fr.m F.m)(hb:∀fr e F,body fr=some (e,F)->TM P nt c fr e F){n:Nat}{fr:Fr}{e:Ex}{F:Fr}(h:jC body n fr=some (e,F)):
  TM P nt (.loop c) fr e F:=by
 intro ro k base σ a w Q tl r0 hf hs hd s0 hQ
 let I:Nat->Act->World->Prop:=λj a' w'=>∃H b0,jC body j H=some (e,F)/\di b0 H.T a' nt/\AE base b0 w' tl a'.defers/\(eM c=true->a'.defers=a.defers)/\LK fr.m H.m/\Ev P σ fr.m w b0 H.m w'
 refine wpIn_loop (λa' w'=>∃j,I j a' w') (λa' w'=>least λj=>I j a' w') ⟨n,fr,σ,h,hf,hd,λ_=>rfl,LK.refl,Ev.refl hs⟩ λa1 w1 ⟨j,hI⟩=>?_
 obtain⟨⟨H,b0,hl,u0,v0,z0,k0,a0⟩,_⟩:=vZ (p:=λj=>I j a1 w1) hI
 generalize hq:(least λj=>I j a1 w1)=q at hl
 cases q with
 |zero=>simp[jC]at hl
 |succ q=>
  unfold jC at hl
  cases e0:body H with
  |none=>rw[e0]at hl;cases hl
  |some p=>
   obtain⟨e2,l0⟩:=p
   rw[e0]at hl
   refine hb H e2 l0 e0 ro k base b0 a1 w1 _ tl (r0.next a0.ext k0) u0 a0.mL v0 (abD s0 a0.hle) λg0 a2 w2 h0 i0 A0 j0=>?_
   have d0:eM c=true->a2.defers=a.defers:=λx=>(A0 x).trans (z0 x)
   cases e2 with
   |normal=>
    have o0:I q a2 w2:=⟨l0,g0,hl,h0,i0,d0,k0.trans (q0 _ _ _ e0),a0.trans j0⟩
    refine⟨⟨q,o0⟩,?_⟩;have:=(vZ (p:=λj=>I j a2 w2) o0).2;omega
   |exit id=>cases hl;exact hQ g0 a2 w2 h0 i0 d0 (a0.trans j0)
   |ret=>cases hl;exact hQ g0 a2 w2 h0 i0 d0 (a0.trans j0)
theorem fY(hE:E.OK P)(cz:cQ P call){n:Nat}:∀(c:Code) (fr:Fr) (e:Ex) (a0:Fr),cW nt P.globals.size c=true->bz E call n c fr=some (e,a0)->TM P nt c fr e a0:=by
 intro c
 induction c with
 |skip=>intro fr e a0 _ h ro k base σ a w Q tl d0 hf hs hd e0 hQ;cases h;exact wpIn_skip (hQ σ a w hf hd (λ_=>rfl) (Ev.refl hs))
 |label l=>intro fr e a0 _ h ro k base σ a w Q tl d0 hf hs hd e0 hQ;cases h;exact wpIn_label (hQ σ a w hf hd (λ_=>rfl) (Ev.refl hs))
 |region id ops d=>
  intro fr e a0 F h ro k base σ a w Q tl d0 hf hs L0 e0 hQ
  unfold cW at F
  simp only[Ψ]at F
  have u0:∀o∈ops.toList,eD nt P.globals.size o=true:=aay.1 F.1
  unfold bz at h
  simp only[aaj,aaG]at h
  obtain⟨o0,h,rfl,rfl⟩:=h
  cases d with
  |false=>simp only[cond_false]at h;exact wpIn_region_list (sM hE cz u0 ops.toList u0 fr o0 h σ a w hf rfl hs λσ' a' w' h1 h2 h3=>hQ σ' a' w' h1 (by rw[h2];exact L0.ev h3) (λ_=>h2) h3)
  |true=>
   simp only[cond_true]at h;have hd:qk ops=true:=by simpa using F.2
   have hw:Ev P σ fr.m w σ fr.m {w with drawn:=w.drawn+1}:=Ev.of_heap hs rfl rfl rfl rfl;exact wpIn_region_any hE.mixed (El hE cz u0 hd h hf hw.mL λσ' a' w' h1 h2 h3=>hQ σ' a' w' h1 (by rw[h2];exact L0.ev (hw.trans h3)) (λ_=>h2) (hw.trans h3))
 |seq x y G0 H0=>
  intro fr e a0 F h ro k base σ a w Q tl d0 hf hs hd e0 hQ
  unfold cW at F
  simp only[Ψ]at F
  unfold bz at h
  refine wpIn_seq ?_
  cases hx:bz E call n x fr with
  |none=>rw[hx]at h;cases h
  |some p=>
   obtain⟨e1,o0⟩:=p
   rw[hx]at h
   refine G0 fr e1 o0 F.1 hx ro k base σ a w _ tl d0 hf hs hd e0 λj0 a1 w1 k0 l0 i0 g0=>?_
   have hn:eM (.seq x y)=true->eM x=true/\eM y=true:=λhh=>by unfold eM at hh;simp only[Ψ]at hh;exact hh
   cases e1 with
   |normal=>exact H0 o0 e a0 F.2 h ro k base j0 a1 w1 Q tl (d0.next g0.ext (eS cz.bH x _ _ _ hx)) k0 g0.mL l0 (abD e0 g0.hle) λq0 a2 w2 T0 U0 V0 X0=>hQ q0 a2 w2 T0 U0 (λx=>(V0 (hn x).2).trans (i0 (hn x).1)) (g0.trans X0)
   |exit id=>cases h;exact hQ j0 a1 w1 k0 l0 (λx=>i0 (hn x).1) g0
   |ret=>cases h;exact hQ j0 a1 w1 k0 l0 (λx=>i0 (hn x).1) g0
 |cond c x y G0 H0=>
  intro fr e a0 F h ro k base σ a w Q tl d0 hf hs hd e0 hQ
  unfold cW at F
  simp only[Ψ]at F
  unfold bz at h
  have hc:=hf.vN hs F.1
  cases hv:ev fr.T c with
  |bool t=>
   rw[hv]at h hc
   refine wpIn_cond hc.bool ?_
   cases t with
   |true=>exact G0 fr e a0 F.2.1 h ro k base σ a w Q tl d0 hf hs hd e0 λσ' a' w' q1 q2 q3=>hQ σ' a' w' q1 q2 λhh=>q3 (by unfold eM at hh;simp only[Ψ]at hh;exact hh.1)
   |false=>exact H0 fr e a0 F.2.2 h ro k base σ a w Q tl d0 hf hs hd e0 λσ' a' w' q1 q2 q3=>hQ σ' a' w' q1 q2 λhh=>q3 (by unfold eM at hh;simp only[Ψ]at hh;exact hh.2)
  |_=>rw[hv]at h;cases h
 |block id c ih=>
  intro fr e a0 F h ro k base σ a w Q tl d0 hf hs hd e0 hQ
  unfold cW at F
  unfold bz at h
  refine wpIn_block ?_
  cases hc:bz E call n c fr with
  |none=>rw[hc]at h;cases h
  |some p=>
   obtain⟨e1,o0⟩:=p
   rw[hc]at h
   refine ih fr e1 o0 F hc ro k base σ a w _ tl d0 hf hs hd e0 λj0 a1 w1 k0 l0 i0 g0=>?_
   have i0:eM (.block id c)=true->a1.defers=a.defers:=λhh=>i0 (by unfold eM at hh;exact hh)
   cases e1 with
   |normal=>cases h;exact hQ j0 a1 w1 k0 l0 i0 g0
   |exit Y0=>
    simp only at h;simp only[Ex.to,Exit.inBlock];by_cases hid:Y0=id
    ·subst hid;simp only[aa4,cond_true,aae,aaG]at h;obtain⟨rfl,rfl⟩:=h;rw[aaf rfl];exact hQ j0 a1 w1 k0 l0 i0 g0
    rw[ib hid]at h;simp only[cond_false,aae,aaG]at h;obtain⟨rfl,rfl⟩:=h;rw[aaa hid];exact hQ j0 a1 w1 k0 l0 i0 g0
   |ret=>cases h;exact hQ j0 a1 w1 k0 l0 i0 g0
 |loop c ih=>intro fr e a0 F h;unfold cW at F;unfold bz at h;exact DR (c:=c) (λfr e a0 hb=>eS cz.bH c fr e a0 hb) (λfr e a0 hb=>ih fr e a0 F hb) h
 |scope c ih=>intro fr e a0 F h ro k base σ a w Q tl d0 hf hs hd e0 hQ;unfold cW at F;unfold bz at h;refine uM (ih fr e a0 F h ro k base σ a w _ tl d0 hf hs hd e0 λσ' a' w' q1 q2 q3 q4=>?_);have:=hQ σ' a' w' q1 q2 (λhh=>q3 (by unfold eM at hh;exact hh)) q4;cases e <;>exact this
 |exit id=>intro fr e a0 _ h ro k base σ a w Q tl d0 hf hs hd e0 hQ;cases h;exact wpIn_exit (hQ σ a w hf hd (λ_=>rfl) (Ev.refl hs))
 |ret=>intro fr e a0 _ h ro k base σ a w Q tl d0 hf hs hd e0 hQ;cases h;exact wpIn_ret (hQ σ a w hf hd (λ_=>rfl) (Ev.refl hs))
 |rangeFunc g ps assign body _ _=>
  intro fr e a0 F h ro k base σ a w Q tl d0 hf hs hd e0 hQ;unfold cW at F;simp only[Ψ]at F;obtain⟨c1,d1,g1,i1⟩:=F;unfold bz at h;have hg:=hf.vN hs c1;split at h
  ·rename_i f first captured j1
   rw[j1]at hg
   cases hc:call (.func f) (first.toList++(.func (.yield fr.m.n) #[] #[]::captured.toList)) (fr.m.push (.loop ⟨fr.T,ps,assign,body,.ready,none,E.G⟩))with
   |none=>rw[hc]at h;cases h
   |some p=>
    obtain⟨v,m⟩:=p;rw[hc]at h;simp only at h;split at h
    ·rename_i r hr
     have M0:r.st≠.busy/\e=r.rl.getD .normal/\a0={fr with m:=m.set fr.m.n (.loop {r with st:=.exhausted})}:=by
      split at h;·cases h
      rename_i hb;cases h;exact⟨hb,rfl,rfl⟩
     obtain⟨k1,rfl,rfl⟩:=M0;have o1:∃b0 H,a.eval g=.func (.func f) b0 H/\bC σ first.toList b0.toList/\bC σ captured.toList H.toList:=hg.wz;obtain⟨b0,H,p1,r1,s1⟩:=o1;refine wpIn_rangeFunc λfn _=>?_
     obtain⟨wa,mark,D,A0,I0,J0⟩:∃(wa:World) (mark:List Deferred) (D:Nat),
       (Instr.enterLoop fn a.tmps ps assign body (dk ro).round).run P w=.ok (wa.heap.size,mark) (wa.alloc (.loop {state:=.ready,pending:=none,fn,tmps:=a.tmps,params:=ps,assign,body,defers:=D}))/\
       Ev P σ fr.m w σ fr.m wa/\∀σ' m' W',Ev P σ fr.m wa σ' m' W'->AE base σ' W' tl (mark++a.defers):=by
      rcases d0 with rfl |⟨l,i,r0,rfl,hl,u1⟩
      ·refine⟨w.alloc (.deferred (some [])),[{target:=.collected w.heap.size,args:= #[]}],w.heap.size,?_,Ev.extra hs _,λσ' m' W' v0=>?_⟩
       ·have v1:(w.alloc (.deferred (some []))).heap.size=w.heap.size+1:=by simp
        rw[v1];exact run_enterLoop_outer fn a.tmps ps assign body
       obtain⟨ms,z1,hd⟩:=hd;refine⟨[{target:=.collected w.heap.size,args:= #[]}]++ms,by rw[z1,aa7],?_⟩
       have h0:lP base σ (w.alloc (.deferred (some []))) ([{target:=.collected w.heap.size,args:= #[]}]++ms):=by
        refine⟨⟨w.heap.size,rfl,e0,heap_alloc_new w _,λb i hb=>?_,λd' A1 e=>?_⟩,hd.ev (Ev.extra hs _)⟩;·have:=hs.lt b i hb;omega
        obtain⟨r2,h1,h2⟩:=hd.lt d' A1;rw[e]at h1;cases h1;omega
       exact h0.ev v0
      ·have ho:=hs.obj _ _ hl;rw[u1]at ho;obtain⟨_,B1,_,C1,_⟩:=ho;exact⟨w,[],B1.defers,run_enterLoop_inner C1 fn a.tmps ps assign body,Ev.refl hs,λσ' m' W' v0=>hd.ev v0⟩
     let D0:Loop:={state:=.ready,pending:=none,fn,tmps:=a.tmps,params:=ps,assign,body,defers:=D}
     let w1:=wa.alloc (.loop D0)
     have K0:Ev P σ fr.m wa (σ.add fr.m.n ⟨wa.heap.size,none⟩) (fr.m.push (.loop ⟨fr.T,ps,assign,body,.ready,none,E.G⟩)) w1:=by
      refine Ev.oY I0.mL ⟨rfl,D0,nt,heap_alloc_new wa _,rfl,rfl,rfl,rfl,rfl,hf.1,λt ht=>?_,?_,?_,?_,by simp⟩;·exact(hf.2 t ht).mono (Sg.qs I0.mL.jh)
      ·rw[hE.G];exact g1
      ·rw[hE.G];exact i1
      intro p hp;have:=aay.1 d1 p hp;rw[eK]at this;simpa using this
     have N0:=I0.trans K0
     have B0:aS (σ.add fr.m.n ⟨wa.heap.size,none⟩) (.func (.yield fr.m.n) #[] #[]) (.func (.yield wa.heap.size) #[] #[]):=
      .yield fr.m.n ⟨wa.heap.size,none⟩ (Sg.add_same _ _)
     have hle:=N0.ext
     obtain⟨C0,O0⟩:=cz.func f _ _ v m hc _ w1 (b0++ #[.func (.yield wa.heap.size) #[] #[]]++H) K0.mL (by simp only[abO,aa7,List.singleton_append];exact(r1.mono hle).append (bC.cons B0 (s1.mono hle)))
     refine⟨wa.heap.size,mark,w1,{target:=.fn (.func f) H,args:=b0++ #[.func (.yield wa.heap.size) #[] #[]]},w1,f,_,w1,
      A0,?_,λ_ _=>trivial,O0,λhh=>by simp[dk,Fence.wide]at hh,?_⟩
     ·have hm:Array.map a.eval #[Operand.const (Value.func (Fn.yield wa.heap.size) #[] #[])]= #[Value.func (Fn.yield wa.heap.size) #[] #[]]:=by simp[Act.eval]
      simp only[resolve,p1,Deferred.ofValue,aaL,hm]
     ·have D1:CallsIn (dk ro) (k-1) P f (b0++ #[.func (.yield wa.heap.size) #[] #[]]++H) w1 (db P (σ.add fr.m.n ⟨wa.heap.size,none⟩) (fr.m.push (.loop ⟨fr.T,ps,assign,body,.ready,none,E.G⟩)) w1 v m):=⟨trivial,λcs _=>C0.2 cs (room_wide _)⟩
      refine D1.mono λe w3 he=>?_
      obtain⟨v',q0,rfl,_,z0⟩:=he
      have E0:q0 fr.m.n=some ⟨wa.heap.size,none⟩:=z0.ext _ _ (Sg.add_same _ _)
      have ho:=z0.mL.obj _ _ E0
      rw[hr]at ho
      obtain⟨H1,r',E1,q1,q2,q3,q4,q5,q6,q7,q8,q9,Ud,F1,P0⟩:=ho
      have q1:w3.heap[wa.heap.size]?=some (.loop r'):=q1
      have Q0:Ev P q0 m w3 q0 (m.set fr.m.n (.loop {r with st:=.exhausted})) (w3.putObj wa.heap.size (.loop {r' with state:=.exhausted})):=by
       have G1:wa.heap.size < w3.heap.size:=(aaF.1 q1).1;refine Ev.write z0.mL E0 (by rw[hr];simp) ⟨rfl,{r' with state:=.exhausted},E1,?_,rfl,q3,q4,q5,q6,q7,q8,q9,Ud,F1,P0⟩ ?_ (by simp) rfl rfl rfl
       ·show(w3.putObj wa.heap.size _).heap[wa.heap.size]?=_;exact World.putObj_heap_same G1
       intro B hB;exact World.putObj_heap_other λe=>hB e
      have F0:=(N0.trans z0).trans Q0
      have S0:=J0 _ _ _ ((K0.trans z0).trans Q0)
      refine⟨r'.pending,_,run_endLoop q1 (by rw[q2];exact k1),?_⟩
      have s0:=hQ q0 {a with defers:=mark++a.defers} _ ⟨hf.1,λt ht=>(hf.2 t ht).mono F0.ext⟩ S0 (λhh=>by simp[eM]at hh) F0
      generalize w3.putObj wa.heap.size (.loop {r' with state:=.exhausted})=W4 at s0⊢
      rw[q3]
      cases hp:r.rl with
      |none=>rw[hp]at s0;exact s0
      |some e=>
       rw[hp]at s0
       cases e with
       |normal=>exact absurd hp P0
       |exit id=>exact wpIn_exit s0
       |ret=>exact wpIn_ret s0
    cases h
  cases h
 |_=>intro fr e a0 _ h;simp[bz]at h
end
end
section
section
variable {E:Env} {P:Program} {call:aG} {nt:Nat} {σ σ':Sg} {m m':M} {w w':World} {a:Act}
theorem CI:∀(l:aee) (i t:Nat),gn (enter l i) t=if t < i then undef else(l[t-i]?).getD undef
 |[],i,t=>by
  unfold enter gn
  rw[Tr.wo]
  by_cases h:t < i <;>simp[h]
 |v::l,i,t=>by
  unfold enter
  have F:=CI l (i+1) t
  unfold gn at F⊢
  rw[Tr.cD]
  by_cases h:t=i
  ·subst h;simp
  ·rw[aaa h,F]
   by_cases H:t < i
   ·rw[aaf (by omega),aaf H]
   ·rw[aaa (by omega),aaa H]
    have:t-i=(t-(i+1))+1:=by omega
    rw[this]
    simp
theorem ky{args:aee}{args':Array aed}(h:bC σ args args'.toList)(hn:args.length<=nt):
  di σ (enter args 0) {tmps:=args'++Array.replicate (nt-args'.size) undef,defers:=[]} nt:=by
 have hl:=h.1;simp only[aas]at hl;refine⟨by simp;omega,λt ht=>?_⟩;rw[CI,aaa (by omega),acP];simp only[Act.eval];by_cases F:t < args'.size
 ·have h1:args[t]?=some args[t]:=by simp[show t < args.length by omega]
  obtain⟨u',hu,hr⟩:=h.get h1;have H:args'[t]?=some u':=by simpa using hu
  rw[h1,abN,abd,Array.getElem?_append_left F,H];exact hr
 rw[abb (by omega),Option.getD_none,abd,Array.getElem?_append_right (by omega),acZ];split <;>exact aS.undef
theorem tS(hE:E.OK P)(hs:dY P σ m w){T:Tr aed}(hf:di σ T a nt){r:ResultVar}(F:(match r with |.tmp t=>Nat.blt t nt |.cell a _=>Nat.blt a nt)=true){v:aed}(h:kn E T m r=some v):
  ∃v',((match r with |.tmp t=>pure (a.tmps.getD t undef) |.cell x t=>do Go.loadVar t (<-asAddr (a.tmps.getD x undef))):Sem aed).run P w=.ok v' w/\aS σ v v':=by
 unfold kn at h
 cases r with
 |tmp t=>cases h;have F:Nat.blt t nt=true:=F;rw[eK]at F;exact⟨_,rfl,hf.2 t (by simpa using F)⟩
 |cell x t=>
  have F:Nat.blt x nt=true:=F;rw[eK]at F;have hx:=hf.2 x (by simpa using F);dsimp only at h;split at h
  ·rename_i ad H;rw[H]at hx;obtain⟨i,hi,_,he⟩:=hx.eP;have he:a.tmps.getD x undef=_:=he;obtain⟨v',h1,h2,_⟩:=lT (w:=w) hE hs hi h;refine⟨v',?_,h2⟩;dsimp only;rw[he,aan];simp only[asAddr,aaL,aai];exact h1
  cases h
theorem pI(hE:E.OK P)(hs:dY P σ m w){T:Tr aed}(hf:di σ T a nt):∀(rs:List ResultVar) (vs:aee),(∀r∈rs,(match r with |.tmp t=>Nat.blt t nt |.cell a _=>Nat.blt a nt)=true)->fD E T m rs=some vs->
  ∃F:aee,(rs.mapM (m:=Sem) λ|.tmp t=>pure (a.tmps.getD t undef) |.cell x t=>do Go.loadVar t (<-asAddr (a.tmps.getD x undef))).run P w=.ok F w/\bC σ vs F
 |[],vs,_,h=>by
  simp only[fD,aae]at h
  subst h
  exact⟨[],rfl,bC.nil⟩
 |r::rs,vs,hr,h=>by
  unfold fD at h
  cases H:kn E T m r with
  |none=>rw[H]at h;simp at h
  |some v=>
   cases h2:fD E T m rs with
   |none=>rw[H,h2]at h;simp at h
   |some a0=>
    rw[H,h2]at h
    simp only[aae]at h
    subst h
    obtain⟨v',q1,q2⟩:=tS hE hs hf (hr r aaP) H
    obtain⟨F,q3,q4⟩:=pI hE hs hf rs a0 (λr h=>hr r (aaZ _ h)) h2
    refine⟨v'::F,?_,bC.cons q2 q4⟩
    rw[List.mapM_cons,aan]
    generalize hG:Sem.run P _ w=G
    have hG:G=.ok v' w:=hG.symm.trans q1
    rw[hG,aai,aan,q3]
    rfl
theorem qZ(hE:E.OK P)(hs:dY P σ m w){T:Tr aed}{fn:Func}(hf:di σ T a nt)(hr:∀r∈fn.results.toList,(match r with |.tmp t=>Nat.blt t nt |.cell a _=>Nat.blt a nt)=true){v:aed}(h:result? E fn T m=some v):
  ∃v',(results fn a.tmps).run P w=.ok v' w/\aS σ v v':=by
 unfold result? at h
 cases h1:fD E T m fn.results.toList with
 |none=>rw[h1]at h;simp at h
 |some vs=>
  rw[h1]at h;obtain⟨F,q1,q2⟩:=pI hE hs hf fn.results.toList vs hr h1;refine⟨if h:F.toArray.size=1 then F.toArray[0]else .tuple F.toArray,?_,?_⟩
  ·unfold results;rw[adu];rw[aan,Sem.run_map];generalize hG:Sem.run P (List.mapM _ _) w=G;have hG:G=.ok F w:=hG.symm.trans q1;rw[hG];rfl
  split at h
  ·rename_i v1 H;cases H;cases h;obtain⟨v',l2,rfl,hv,hl⟩:=q2.cases;obtain rfl:=hl.nil_eq;simpa using hv
  ·rename_i b0 a0 H;cases H;cases h
   have hlen:¬F.toArray.size=1:=by
    intro hl;have:vs.length=1:=by rw[q2.1];simpa using hl
    obtain⟨x,rfl⟩:=List.length_eq_one_iff.1 this;exact a0 x rfl
   rw[dif_neg hlen];exact q2.tuple
  rename_i H;cases H
theorem Ev.vo(h:Ev P σ {m with low:=m.n} w σ' m' w'):Ev P σ m w σ' {m' with low:=min m.low m'.low} w' where
 ext:=h.ext
 mL:=h.mL.low _
 low:=acI _ _
 IL:=h.IL
 hle:=h.hle
 new:=λb i x y=>by
  obtain⟨F,H⟩:=h.new b i x y
  refine⟨F,H.imp id ?_⟩
  rintro⟨b0,i0,p,q,r⟩
  exact⟨b0,i0,p,q,by dsimp only;omega⟩
 abs:=λb x y=>h.abs b (by dsimp only at x;omega) y
 heap:=λB x y=>h.heap B x λb i p q=>by have:=y b i p q;dsimp only at this;omega
 os:=h.os
 tape:=h.tape
 output:=h.output
theorem aS.tB{v v':aed}(h:aS σ v v')(H:bP v=true):v'=v:=by
 by_cases hc:gI v=true;·exact h.jG hc
 ·cases v with
  |tuple vs=>
   obtain⟨a',rfl,ha⟩:=h.su
   congr 1
   apply abl
   apply abt
   intro j
   cases F:vs.toList[j]? with
   |none=>exact abb (by rw[<-ha.1];exact adv.1 F)
   |some u=>obtain⟨u',hu,hr⟩:=ha.get F;rw[hu,hr.jG (aay.1 H u (aac F))]
  |_=>exact absurd H hc
theorem Ev.forget(F:dY P σ m w)(h:Ev P σ {m with low:=m.n} w σ' m' w')(hl:m.n<=m'.low):Ev P σ m w σ m w':=by
 have hk:∀B,B < w.heap.size->w'.heap[B]?=w.heap[B]?:=λB hB=>h.heap B hB λb i p _=>by have:=F.nG b i p;omega
 have a0:=h.hle;refine⟨λ_ _ x=>x,⟨F.nG,λb i H=>(F.obj b i H).bH (λ_ _ x=>x) (hk _ (F.lt b i H)),λb i H=>?_,F.inj,F.jE⟩,Ξ _,Ξ _,a0,λb i x y=>(by rw[x]at y;cases y),λ_ _ _=>rfl,λB hB _=>hk B hB,h.os,h.tape,h.output⟩;have:=F.lt b i H;omega
theorem Ev.th{r:Nat}{o:Obj}(h:Ev P σ m w σ' m' w')(hb:w.heap.size<=r)(H:∀b i,σ' b=some i->i.dg≠r):Ev P σ m w σ' m' (w'.putObj r o):=by have F:=h.mL;refine⟨h.ext,⟨F.nG,λb i x=>(F.obj b i x).bH (λ_ _ x=>x) (World.putObj_heap_other (H b i x)),λb i x=>by rw[World.putObj_size];exact F.lt b i x,F.inj,F.jE⟩,h.low,h.IL,by rw[World.putObj_size];exact h.hle,h.new,h.abs,λB x y=>?_,h.os,h.tape,h.output⟩;rw[World.putObj_heap_other (by omega)];exact h.heap B x y
theorem lP.th{base r:Nat}{o:Obj}:∀{ds:List Deferred},lP base σ w ds->(∀d∈ds,d.target≠.collected r)->lP base σ (w.putObj r o) ds
 |[],_,_=>trivial
 |d::ds,h,H=>by
  obtain⟨⟨q,h1,h2,h3,h4,h5⟩,h6⟩:=h
  refine⟨⟨q,h1,h2,?_,h4,h5⟩,h6.th λd' F=>H d' (aaZ _ F)⟩
  rw[World.putObj_heap_other (λe=>H d aaP (by rw[h1,e]))]
  exact h3
theorem iT{fn:Func}{tmps:Array aed}{R:Ending->World->Prop}:∀(ds:List Deferred) (w':World),lP w.heap.size σ' w' ds->Ev P σ m w σ' m' w'->
  (∀F,Ev P σ m w σ' m' F->∃v,(results fn tmps).run P F=.ok v F/\R (.returned v) F)->LeavesInM Fence.wide 0 P fn tmps R ds .returning w'
 |[],w',_,he,h=>h w' he
 |d::ds,w',H,he,h=>by
  obtain⟨⟨r,h1,h2,h3,h4,h5⟩,h6⟩:=H
  exact⟨by simp,.inl ⟨r,_,h1,run_takeDeferred h3,iT ds _ (h6.th h5) (he.th h2 h4) h⟩⟩
theorem pL{fn:Func}{tmps:Array aed}{R:Ending->World->Prop}{rest:List Deferred}{base:Nat}{K:World->Prop}(hK:∀w r o,base<=r->(∀b i,σ' b=some i->i.dg≠r)->K w->K (w.putObj r o))(hb:w.heap.size<=base):
  ∀(ds:List Deferred) (w':World),lP base σ' w' ds->Ev P σ m w σ' m' w'->K w'->
  (∀F,Ev P σ m w σ' m' F->K F->LeavesInM Fence.wide 0 P fn tmps R rest .returning F)->LeavesInM Fence.wide 0 P fn tmps R (ds++rest) .returning w'
 |[],w',_,he,H,h=>h w' he H
 |d::ds,w',hd,he,H,h=>by
  obtain⟨⟨r,h1,h2,h3,h4,h5⟩,h6⟩:=hd
  exact⟨by simp,.inl ⟨r,_,h1,run_takeDeferred h3,pL hK hb ds _ (h6.th h5) (he.th (abD hb h2) h4) (hK _ _ _ h2 h4 H) h⟩⟩
theorem sS(hE:E.OK P){fn:Func}{fr:Fr}{v:aed}(h:xN E fn m fr=some (v,m'))(a0:(fn.results.toList.all λ|.tmp t=>Nat.blt t nt |.cell a _=>Nat.blt a nt)=true)
  (hs:dY P σ m w) (hf:di σ' fr.T a nt) (he:Ev P σ {m with low:=m.n} w σ' fr.m w'):∃v',(results fn a.tmps).run P w'=.ok v' w'/\db P σ m w v m' (.returned v') w':=by
 unfold xN at h
 cases H:result? E fn fr.T fr.m with
 |none=>rw[H]at h;cases h
 |some v1=>
  rw[H]at h
  dsimp only at h
  obtain⟨v',q1,q2⟩:=qZ hE he.mL hf (λr H=>by have:=aay.1 a0 r H;cases r <;>exact this) H
  refine⟨v',q1,?_⟩
  cases F:(bP v1 && Nat.ble m.n fr.m.low)with
  |true=>rw[F]at h;cases h;simp only[Ψ]at F;have b0:=q2.tB F.1;subst b0;exact⟨_,σ,rfl,aS.fG F.1,Ev.forget hs he (aar F.2)⟩
  |false=>rw[F]at h;cases h;exact⟨_,σ',rfl,q2,he.vo⟩
theorem kb(hE:E.OK P)(cz:cQ P call){n:Nat}:∀(pre:List Code) (c2:Code) (fr:Fr) (e:Ex) (F:Fr),cW nt P.globals.size (kI pre c2)=true->jS (bz E call n) pre fr=some (e,F)->
  ∀(k base:Nat) (σ:Sg) (a:Act) (w:World) (Q:Exit->Act->World->Prop) (tl:List Deferred),di σ fr.T a nt->dY P σ fr.m w->AE base σ w tl a.defers->base<=w.heap.size->
  (∀σ' a' w',di σ' F.T a' nt->AE base σ' w' tl a'.defers->Ev P σ fr.m w σ' F.m w'->match e with |.normal=>c2.wpIn (dk none) k P Q a' w' |e=>Q e.to a' w')->(kI pre c2).wpIn (dk none) k P Q a w
 |[],c2,fr,e,F,_,h=>λk base σ a w Q tl hf hs hd _ hQ=>by
  cases h
  exact hQ σ a w hf hd (Ev.refl hs)
 |c::pre,c2,fr,e,F,a0,h=>λk base σ a w Q tl hf hs hd g0 hQ=>by
  unfold kI cW at a0
  simp only[Ψ]at a0
  unfold jS at h
  unfold kI
  refine wpIn_seq ?_
  cases hc:bz E call n c fr with
  |none=>rw[hc]at h;cases h
  |some p=>
   obtain⟨e1,h0⟩:=p
   rw[hc]at h
   refine fY hE cz c fr e1 h0 a0.1 hc none k base σ a w _ tl (.inl rfl) hf hs hd g0 λb0 a1 w1 d0 e0 _ H=>?_
   cases e1 with
   |normal=>exact kb hE cz pre c2 h0 e F a0.2 h k base b0 a1 w1 Q tl d0 H.mL e0 (abD g0 H.hle) λi0 a2 w2 j0 k0 l0=>hQ i0 a2 w2 j0 k0 (H.trans l0)
   |exit id=>cases h;exact hQ b0 a1 w1 d0 e0 H
   |ret=>cases h;exact hQ b0 a1 w1 d0 e0 H
theorem lS:∀(pre:List Code) (c:Code) {n G:Nat},cW n G (kI pre c)=true->cW n G c=true
 |[],_,_,_,h=>h
 |_::pre,c,n,G,h=>by
  unfold kI cW at h
  simp only[Ψ]at h
  exact lS pre c h.2
theorem mj{f:FuncId}{fn:Func}{body:Code}{args':Array aed}(H:P.funcs[f]?=some fn)(hb:fn.body=some body)(F:jA P.globals.size fn=true):(callFunc f args').run P w=.ok (.enter f args') w:=by
 unfold jA at F
 simp only[Ψ]at F
 have a0:(fn.name== "runtime.NumGoroutine")=false:=by simpa using F.2.1
 unfold callFunc
 simp only[aan,run_program,aai,H,a0,hb]
 rfl
theorem vp{ops:Array Oper}(d0:∀o∈ops.toList,eD nt P.globals.size o=true){n:Nat}{F:Frame}{cs:List Frame}(hu:F.mode=.returning)(hs:dY P σ m w){Q:Exit->Act->List Frame->World->Prop}{ds:List Deferred}{T':Tr aed}:
  ∀(l:List Oper) (i:Nat) (T:Tr aed) (a:Act),(∀j o,l[j]?=some o->ops[i+j]?=some o)->iN l T=some T'->di σ T a nt->a.defers=ds->
  (∀a',di σ T' a' nt->a'.defers=ds->Q .normal a' (F::cs) w)->wpOpsSIn Fence.wide n P ops Q (List.range' i l.length) a (F::cs) w
 |[],i,T,a,_,h,hf,hd,hQ=>by
  cases h
  simp only[abc,List.range'_zero,wpOpsSIn]
  exact hQ a hf hd
 |o::l,i,T,a,hi,h,hf,hd,hQ=>by
  have ho:ops[i]?=some o:=by have:=hi 0 o rfl;simpa using this
  have g0:o∈ops.toList:=by simpa using abx ho
  have e0:=d0 o g0
  have next:∀(v v':aed),iN l (put T o.dst v)=some T'->aS σ v v'->wpOpsSIn Fence.wide n P ops Q (List.range' (i+1) l.length) (a.put o.dst v') (F::cs) w:=λv v' h1 h2=>
   vp d0 hu hs l (i+1) _ _ (λj o' hj=>by have:=hi (j+1) o' (by simpa using hj);rw[show i+1+j=i+(j+1) by omega];exact this) h1 (hf.put (du e0) h2) (by rw[put_defers];exact hd) hQ
  simp only[aaJ,ac2,wpOpsSIn,ho]
  refine⟨λ_ _=>trivial,?_⟩
  unfold iN at h
  have hw:o.guard=none->Region.wanted o (yielded ops a.tmps)=true:=by
   intro hg
   unfold Region.wanted
   rw[hg]
  have b0:∀x∈o.op.operands.toList,aS σ (ev T x) (a.eval x):=λx hx=>hf.vN hs (eC e0 x hx)
  split at h
  ·rename_i c hg a0
   rw[aaf (hw hg)]
   split at h
   ·rename_i hc
    cases h0:c.args.toList.isEmpty with
    |false=>rw[h0]at h;cases h
    |true=>
     rw[h0]at h
     simp only[cond_true]at h
     have H:(execOp a.eval o).run P w=.ok .recover w:=by
      unfold execOp
      rw[a0]
      unfold resolve
      dsimp only
      rw[hc]
      simp only[aan,aaL,aai,invoke,Go.builtin]
     rw[H]
     have i0:recoverD (F::cs)=none:=by simp[recoverD,hu]
     simp only[i0]
     exact next .nilIface .nilIface h (.flat _ rfl)
   ·cases h
  ·rename_i x hg a0
   rw[aaf (hw hg)]
   have H:(execOp a.eval o).run P w=.ok (.value (a.eval x)) w:=by
    unfold execOp
    rw[a0]
    rfl
   rw[H]
   exact next _ _ h (b0 x (by rw[a0];simp[Op.operands]))
  ·rename_i x hg a0
   rw[aaf (hw hg)]
   have H:(execOp a.eval o).run P w=.ok (.value (a.eval x)) w:=by
    unfold execOp
    rw[a0]
    rfl
   rw[H]
   exact next _ _ h (b0 x (by rw[a0];simp[Op.operands]))
  ·cases h
theorem Iv(hE:E.OK P)(cz:cQ P call){n:Nat}{g:Nat}{args:aee}{m3:M}(h:Ao E (bz E call n) g args m=some m3){args':Array aed}(hs:dY P σ m w)(hl:bC σ args args'.toList):
  CallsDIn Fence.wide 0 P g args' .returning w (λe u' w'=>u'=.returning/\∃v,e=.returned v/\∃σ',Ev P σ m w σ' m3 w')/\(callFunc g args').run P w=.ok (.enter g args') w:=by
 unfold Ao at h;split at h
 ·rename_i c hc
  obtain⟨g0,H⟩:=hE.cl g c hc
  have b0:=hE.Qg hc
  refine⟨?_,mj g0 H b0⟩
  unfold jA at b0
  rw[H]at b0
  simp only[Ψ]at b0
  cases hb:(Nat.ble args.length c.fn.ntmps && (c.fn.results.toList.isEmpty && eM c.rest))with
  |false=>rw[hb]at h;cases h
  |true=>
   rw[hb]at h;simp only[cond_true]at h;simp only[Ψ,acq]at hb;obtain⟨hle,h0,o0⟩:=hb;have hle:=aar hle;have F:=b0.1;unfold cW at F;simp only[Ψ]at F;have d0:=F.1;unfold cW at d0;simp only[Ψ]at d0;have i0:∀o∈c.ops.toList,eD c.fn.ntmps P.globals.size o=true:=aay.1 d0.1;have j0:=ky (nt:=c.fn.ntmps) hl hle;split at h
   ·rename_i T hT
    have fin:∀(e:Ex) (fr:Fr),e=.normal\/e=.ret->bz E call n c.rest {T:=T,m:={m with low:=m.n}}=some (e,fr)->m3={fr.m with low:=min m.low fr.m.low}->
      CallsDIn Fence.wide 0 P g args' .returning w (λe u' w'=>u'=.returning/\∃v,e=.returned v/\∃σ',Ev P σ m w σ' m3 w'):=by
     intro e fr e0 hex hm
     subst hm
     refine callsDIn_of_wpSIn g0 H trivial λa0 cs hu=>wpSIn_seq (wpSIn_region ?_)
     rw[ac7,<-aas]
     refine vp (nt:=c.fn.ntmps) i0 hu hs c.ops.toList 0 _ _ (λj o hj=>by simpa using hj) hT j0 rfl λa' q0 k0=>?_
     refine wpSIn_of_wpIn rfl ?_
     refine fY hE cz c.rest _ e fr F.2 hex none 0 w.heap.size σ a' w _ [] (.inl rfl) q0 (hs.low m.n) ⟨[],by rw[k0];rfl,trivial⟩ (Ξ _) λr0 a1 w1 B0 C0 s0 u0=>?_
     have l0:a1.defers=[]:=(s0 o0).trans k0
     have v0:(results c.fn a1.tmps).run P w1=.ok (.tuple #[]) w1:=by have:c.fn.results= #[]:=abm (by rw[<-aas,h0];rfl);unfold results;rw[this];simp
     have z0:a0::cs={a0 with mode:=.returning}::cs:=by rw[<-hu]
     have hq:a1.defers=[]/\∃u',a0::cs={a0 with mode:=u'}::cs/\∃v,(results c.fn a1.tmps).run P w1=.ok v w1/\
       (u'=.returning/\∃v',Ending.returned v=.returned v'/\∃σ',Ev P σ m w σ' {fr.m with low:=min m.low fr.m.low} w1):=
      ⟨l0,.returning,z0,_,v0,rfl,_,rfl,r0,u0.vo⟩
     rcases e0 with rfl |rfl <;>exact hq
    split at h;·cases h
    ·cases h
    ·rename_i e fr A0 hex
     cases h
     refine fin e fr ?_ hex rfl
     cases e with
     |normal=>exact .inl rfl
     |ret=>exact .inr rfl
     |exit id=>exact absurd rfl (A0 id)
   cases h
 cases h
theorem CG(hE:E.OK P)(cz:cQ P call){n:Nat}{f:FuncId}{d:Gd}(hd:E.df.get f=some d){args:aee}{v:aed}(h:nk E (bz E call n) d args m=some (v,m')){args':Array aed}(hs:dY P σ m w)(hl:bC σ args args'.toList):
  CallsIn Fence.wide 0 P f args' w (db P σ m w v m')/\(callFunc f args').run P w=.ok (.enter f args') w:=by
 obtain⟨M0,e0⟩:=hE.df f d hd
 have F:=hE.Qf hd
 refine⟨?_,mj M0 e0 F⟩
 unfold jA at F
 rw[e0]at F
 simp only[Ψ]at F
 unfold nk at h
 cases hle:Nat.ble args.length d.fn.ntmps with
 |false=>rw[hle]at h;cases h
 |true=>
  rw[hle]at h;simp only[cond_true]at h;have hle:=aar hle;have B0:=ky (nt:=d.fn.ntmps) hl hle;have N0:=hs.low m.n;have H:=lS _ _ F.1;unfold cW at H;simp only[Ψ]at H;have i0:=H.1;unfold cW at i0;simp only[Ψ]at i0;have C0:∀o∈(#[d.mf,d.de]:Array Oper).toList,eD d.fn.ntmps P.globals.size o=true:=aay.1 i0.1;refine callsIn_of_wp_marks M0 e0 trivial ?_;split at h
  ·
   rename_i fr hex
   refine kb hE cz d.pre _ _ .ret fr F.1 hex 0 w.heap.size σ _ w _ [] B0 N0 ⟨[],rfl,trivial⟩ (Ξ _) λg0 a1 w1 j0 F0 h0=>?_
   obtain⟨ms,G0,c1⟩:=F0
   have G0:a1.defers=ms:=by rw[G0,abk]
   show LeavesInM Fence.wide 0 P d.fn a1.tmps (db P σ m w v m') a1.defers .returning w1
   rw[G0]
   exact iT ms w1 c1 h0 λw2 k0=>sS hE h F.2.2 hs j0 k0
  ·rename_i fr hex;refine kb hE cz d.pre _ _ .normal fr F.1 hex 0 w.heap.size σ _ w _ [] B0 N0 ⟨[],rfl,trivial⟩ (Ξ _) λg0 a1 w1 j0 F0 h0=>?_;obtain⟨l0,o0,D0⟩:=F0;have o0:a1.defers=l0:=by rw[o0,abk]
   dsimp only;split at h
   ·rename_i td g fi ca c d1 q0 H0 e1 g1;split at h
    ·rename_i t O0
     cases a0:(Nat.beq t td && (c.args.toList.isEmpty && fi.toList.isEmpty))with
     |false=>rw[a0]at h;cases h
     |true=>
      rw[a0]at h;simp only[cond_true]at h;simp only[Ψ,acq]at a0;obtain⟨ht,i1,j1⟩:=a0;obtain rfl:=aab ht;have P0:fi= #[]:=abm (by rw[<-aas,j1];rfl);have Q0:c.args= #[]:=abm (by rw[<-aas,i1];rfl);subst P0;have r0:=C0 d.mf (by simp);have S0:=C0 d.de (by simp);have E0:bC g0 (ca.toList.map (ev fr.T)) (ca.toList.map a1.eval):=iC _ (λo hx=>j0.vN h0.mL (eC r0 o (by rw[H0];simpa[Op.operands]using hx)));let cv:aed:=.func (.func g) #[] (ca.toList.map a1.eval).toArray
      have k1:aS g0 (.func (.func g) #[] (ca.toList.map (ev fr.T)).toArray) cv:=.func g _ _ _ _ rfl (by simp) (λj u u' p q=>by simp at p) (λj u u' p q=>E0.2 j u u' (by simpa using p) (by simpa using q));have o1:ca.map a1.eval=(ca.toList.map a1.eval).toArray:=by apply abl;simp
      let dd:Deferred:={target:=.fn (.func g) (ca.toList.map a1.eval).toArray,args:= #[]}
      let a2:Act:=a1.put (some t) cv
      let a3:Act:=({a2 with defers:=dd::a2.defers}:Act).put d.de.dst undef
      have T0:di g0 (put fr.T (some t) (.func (.func g) #[] (ca.toList.map (ev fr.T)).toArray)) a2 d.fn.ntmps:=j0.put (λx hx=>du r0 x (by rw[q0];exact hx)) k1
      have p1:di g0 (put (put fr.T (some t) (.func (.func g) #[] (ca.toList.map (ev fr.T)).toArray)) d.de.dst undef) a3 d.fn.ntmps:=
       di.put (a:=({a2 with defers:=dd::a2.defers}:Act)) ⟨T0.1,T0.2⟩ (du S0) aS.undef
      have r1:t < d.fn.ntmps:=du r0 t q0
      have s1:a2.eval (.tmp t)=cv:=by
       have:t < a1.tmps.size:=by rw[j0.1];exact r1
       simp[a2,Act.put,Act.eval,this]
      refine wpIn_seq (wpIn_region_list ?_);unfold wpListIn;have u1:Region.wanted d.mf (yielded #[d.mf,d.de] a1.tmps)=true:=by unfold Region.wanted;rw[d1]
      rw[aaf u1];refine⟨λ_ _=>trivial,?_⟩;rw[Oper.semAt_eq _ _ _ (λc hc=>by rw[H0]at hc;cases hc)]
      have I0:(execOp a1.eval d.mf).run P w1=.ok (.value cv) w1:=by unfold execOp;rw[H0];simp[Instr.makeFunc,cv,o1]
      rw[I0,Oper.uponIn_value];unfold wpListIn;rw[q0];have v1:Region.wanted d.de (yielded #[d.mf,d.de] (a1.put (some t) cv).tmps)=true:=by unfold Region.wanted;rw[e1]
      rw[aaf v1];refine⟨λ_ _=>trivial,?_⟩
      have J0:(d.de.semAt (dk none).round a2.eval).run P w1=.ok (.defer dd) w1:=by show(d.de.semAt none a2.eval).run P w1=_;rw[Oper.semAt_none];unfold execOp;rw[g1];unfold resolve;dsimp only;rw[O0];dsimp only;rw[s1,Q0];simp[Deferred.ofValue,cv,dd]
      have z0:(d.de.semAt (dk none).round (a1.put (some t) cv).eval).run P w1=.ok (.defer dd) w1:=J0;rw[z0,Oper.uponIn_defer];unfold wpListIn
      have K0:a3.defers=dd::l0:=by show(Act.put _ _ _).defers=_;rw[put_defers];show dd::(a1.put (some t) cv).defers=_;rw[put_defers,o0]
      show d.post.wpIn (dk none) 0 P _ a3 w1
      have fin:∀(e:Ex) (b0:Fr),e=.normal\/e=.ret->bz E call n d.post {T:=put (put fr.T (some t) (.func (.func g) #[] (ca.toList.map (ev fr.T)).toArray)) d.de.dst undef,m:=fr.m}=some (e,b0)->
        (match Ao E (bz E call n) g (ca.toList.map (ev fr.T)) b0.m with
         |some m3=>xN E d.fn m {b0 with m:=m3}
         |none=>none)=some (v,m')->d.post.wpIn (dk none) 0 P (bodyPostM Fence.wide 0 P d.fn (db P σ m w v m')) a3 w1:=by
       intro e b0 L0 s0 d0
       refine fY hE cz d.post _ e b0 H.2 s0 none 0 w1.heap.size g0 a3 w1 _ (dd::l0) (.inl rfl) p1 h0.mL ⟨[],by rw[K0];rfl,trivial⟩ (Ξ _) λU0 a4 w2 z1 A1 _ k0=>?_
       obtain⟨B1,V0,X0⟩:=A1
       have A0:LeavesInM Fence.wide 0 P d.fn a4.tmps (db P σ m w v m') a4.defers .returning w2:=by
        rw[V0];have C1:=h0.hle;refine pL (K:=λw'=>Ev P g0 fr.m w1 U0 b0.m w'/\lP w.heap.size U0 w' l0) (base:=w1.heap.size) (λW r o hr D1 hk=>⟨hk.1.th hr D1,hk.2.th λd' E1 e=>?_⟩) C1 B1 w2 X0 (h0.trans k0) ⟨k0,D0.ev k0⟩ λw3 Y0 F1=>?_
        ·obtain⟨r',h1,h2⟩:=D0.lt d' E1;rw[e]at h1;cases h1;omega
        ·obtain⟨G1,H1⟩:=F1
         cases u0:Ao E (bz E call n) g (ca.toList.map (ev fr.T)) b0.m with
         |none=>rw[u0]at d0;cases d0
         |some m3=>rw[u0]at d0;dsimp only at d0;obtain⟨I1,J1⟩:=Iv (args':= #[]++(ca.toList.map a1.eval).toArray) hE cz u0 Y0.mL (by simpa using E0.mono G1.ext);refine⟨by simp,.inr ⟨λhh=>by simp[Fence.wide]at hh,.func g,_,g,_,rfl,J1,λ_ _=>trivial,I1.mono λe u' w' hx=>?_⟩⟩;obtain⟨rfl,v',rfl,σ',v0⟩:=hx;exact iT l0 w' (H1.ev v0) (Y0.trans v0) λw4 K1=>sS hE d0 F.2.2 hs (z1.mono v0.ext) K1
       rcases L0 with rfl |rfl <;>exact A0
      split at h;·cases h
      ·cases h
      ·rename_i e b0 L1 s0
       refine fin e b0 ?_ s0 h
       cases e with
       |normal=>exact .inl rfl
       |ret=>exact .inr rfl
       |exit id=>exact absurd rfl (L1 id)
    cases h
   cases h
  cases h
theorem qE(hE:E.OK P){X:aG}(hX:cQ P X){n:Nat}(ih:cQ P (bO E X n)){f:FuncId}{args:aee}{v:aed}(h:bO E X (n+1) (.func f) args m=some (v,m')){args':Array aed}(hs:dY P σ m w)(hl:bC σ args args'.toList):
  CallsIn Fence.wide 0 P f args' w (db P σ m w v m')/\(callFunc f args').run P w=.ok (.enter f args') w:=by
 unfold bO at h
 split at h
 ·rename_i r hr
  cases h
  exact hX.func f args m v m' hr σ w args' hs hl
 split at h
 ·split at h
  ·rename_i d hd
   exact CG hE ih hd h hs hl
  ·cases h
 ·rename_i fn j0
  have k0:=hE.fn f fn j0
  have b0:=hE.code j0
  unfold jA at b0
  simp only[Ψ]at b0
  split at h
  ·cases h
  ·rename_i body H
   rw[H]at b0
   cases hle:Nat.ble args.length fn.ntmps with
   |false=>rw[hle]at h;simp at h
   |true=>
    rw[hle]at h
    simp only[cond_true]at h
    have hle:=aar hle
    have l0:(callFunc f args').run P w=.ok (.enter f args') w:=by
     have e0:(fn.name== "runtime.NumGoroutine")=false:=by simpa using b0.2.1
     unfold callFunc
     simp only[aan,run_program,aai,k0,e0,H]
     rfl
    refine⟨?_,l0⟩
    have q0:=hs.low m.n
    have o0:=ky (nt:=fn.ntmps) hl hle
    have go:∀(e:Ex) (fr:Fr),e=.normal\/e=.ret->bz E (bO E X n) n body {T:=enter args 0,m:={m with low:=m.n}}=some (e,fr)->
      (match result? E fn fr.T fr.m with
       |none=>none
       |some v=>bif bP v && Nat.ble m.n fr.m.low then some (v,m)else some (v,{fr.m with low:=min m.low fr.m.low}))=some (v,m')->CallsIn Fence.wide 0 P f args' w (db P σ m w v m'):=by
     intro e fr g0 hex F
     refine callsIn_of_wp_marks k0 H trivial ?_
     refine fY hE ih body _ e fr b0.1 hex none 0 w.heap.size σ _ w _ [] (.inl rfl) o0 q0 ⟨[],rfl,trivial⟩ (Ξ _) λr0 a1 w1 s0 d0 _ u0=>?_
     obtain⟨ms,h0,d0⟩:=d0
     have h0:a1.defers=ms:=by rw[h0,abk]
     rw[<-h0]at d0
     have a0:LeavesInM Fence.wide 0 P fn a1.tmps (db P σ m w v m') a1.defers .returning w1:=by
      refine iT a1.defers w1 d0 u0 λw2 i0=>?_
      cases hr:result? E fn fr.T fr.m with
      |none=>rw[hr]at F;cases F
      |some v1=>
       rw[hr]at F
       dsimp only at F
       obtain⟨v',q1,q2⟩:=qZ hE i0.mL s0 (λr hr=>by
        have:=aay.1 b0.2.2 r hr
        cases r <;>exact this) hr
       refine⟨v',q1,?_⟩
       cases hb:(bP v1 && Nat.ble m.n fr.m.low)with
       |true=>
        rw[hb]at F
        cases F
        simp only[Ψ]at hb
        have v0:=q2.tB hb.1
        subst v0
        exact⟨_,σ,rfl,aS.fG hb.1,Ev.forget hs i0 (aar hb.2)⟩
       |false=>
        rw[hb]at F
        cases F
        exact⟨_,r0,rfl,q2,i0.vo⟩
     rcases g0 with rfl |rfl
     ·exact a0
     ·exact a0
    split at h
    ·cases h
    ·cases h
    ·rename_i e fr e0 hex
     refine go e fr ?_ hex h
     cases e with
     |normal=>exact .inl rfl
     |ret=>exact .inr rfl
     |exit id=>exact absurd rfl (e0 id)
theorem vd:∀(ps:List Tmp) (args args':aee) (T:Tr aed) (tmps:Array aed) (ds:List Deferred),di σ T {tmps,defers:=ds} nt->(∀p∈ps,p < nt)->bC σ args args'->
  di σ (sC T (ps.zip args)) {tmps:=(ps.zip args').foldl (λtmps x=>tmps.setIfInBounds x.1 x.2) tmps,defers:=ds} nt
 |[],_,_,_,_,_,h,_,_=>h
 |p::ps,[],args',T,tmps,ds,h,_,F=>by
  obtain rfl:=F.nil_eq
  exact h
 |p::ps,v::args,x,T,tmps,ds,h,hp,F=>by
  obtain⟨v',args',rfl,hv,H⟩:=F.cases
  have h2:=h.put (dst:=some p) (λd hd=>by cases hd;exact hp p aaP) hv
  exact vd ps args args' (T.set p v) (tmps.setIfInBounds p v') ds h2 (λq hq=>hp q (aaZ _ hq)) H
theorem Ev.loop{b:Nat}{i:BI}{r r2:xF}{H r2':Loop}(hs:dY P σ m w)(hb:σ b=some i)(hm:m.get b=.loop r)(hr:w.heap[i.dg]?=some (.loop H))(hh:∀w',w'.heap[i.dg]?=some (.loop r2')->Holds σ i w' (.loop r2)):
  Ev P σ m w σ (m.set b (.loop r2)) (w.putObj i.dg (.loop r2')):=by have F:i.dg < w.heap.size:=(aaF.1 hr).1;exact Ev.write hs hb (by rw[hm];simp) (hh _ (World.putObj_heap_same F)) (λB hB=>World.putObj_heap_other hB) (by simp) rfl rfl rfl
theorem M.Ad{b:Nat}{r r2:xF}(h:m.get b=.loop r):(m.set b (.loop r2)).get b=.loop r2:=by have:b < m.n:=M.kV (by rw[h];simp);rw[M.cD _ _ _ _ this,aaf rfl]
theorem Bk(hE:E.OK P){X:aG}{n:Nat}(ih:cQ P (bO E X n)){l:Nat}{args:aee}{v:aed}(h:sF (bz E (bO E X n) n) E.G l args m=some (v,m')){i:BI}{args':Array aed}(hs:dY P σ m w)(hl:σ l=some i)(ha:bC σ args args'.toList):
  dX P σ m w ((Instr.yield i.dg args').run P w) v m':=by
 unfold sF at h;split at h
 ·rename_i r hr
  have ho:=hs.obj _ _ hl
  rw[hr]at ho
  obtain⟨S0,H,nt,q1,q2,q3,q4,q5,q6,q7,q8,q9,Ud,z0,T0⟩:=ho
  cases hb:(Nat.beq args.length r.ps.size && Nat.beq r.G E.G)with
  |false=>rw[hb]at h;simp at h
  |true=>
   rw[hb]at h;simp only[cond_true]at h;simp only[Ψ]at hb;have hlen:=aab hb.1;have hG:=aab hb.2;rw[hE.G]at hG;rw[hG]at q9 Ud
   have A0:args'.size=H.params.size:=by have:=ha.1;rw[q4];simp only[aas]at this;omega
   rw[run_yield q1 A0];let R:Ending->World->Prop:=db P σ m w v m'
   suffices F:∀(ro:Option Nat) (k:Nat),RoundIn (dk ro) k P i.dg H.fn ((H.params.zip args').foldl (λtmps (t,a)=>tmps.setIfInBounds t a) H.tmps) H.assign H.body w R by
    refine⟨?_,λro k o a next Q hk=>?_⟩
    ·obtain⟨e,w',⟨v',σ',_,hv,he⟩,_⟩:=(F none 0).2 default [] (room_wide _);exact⟨σ',w',v',hv,he⟩
    refine⟨λhh=>by simp[dk,Fence.wide]at hh,(F ro (k-1)).mono λe w' he=>?_⟩;obtain⟨v',σ',rfl,hv,B0⟩:=he;exact hk σ' w' v' hv B0
   intro ro k;refine roundIn_of_wpIn trivial ?_
   have C0:di σ (sC r.T (r.ps.toList.zip args)) {tmps:=((H.params.zip args').foldl (λtmps (t,a)=>tmps.setIfInBounds t a) H.tmps),defers:=[]} nt:=by
    have h0:di σ r.T {tmps:=H.tmps,defers:=[]} nt:=⟨q7,λt ht=>q8 t ht⟩
    have h1:=vd r.ps.toList args args'.toList r.T H.tmps [] h0 z0 ha
    have e:(H.params.zip args').foldl (λtmps (t,a)=>tmps.setIfInBounds t a) H.tmps=(r.ps.toList.zip args'.toList).foldl (λtmps x=>tmps.setIfInBounds x.1 x.2) H.tmps:=by rw[<-acX,Array.toList_zip,q4]
    rw[e];exact h1
   rw[q5,q6];split at h
   ·rename_i D0 hx;split at h
    ·rename_i r1 g0;split at h
     ·rename_i k0;split at h
      ·rename_i e i0 E0;split at h
       ·rename_i r2 l0
        refine fY hE ih r.assign _ .normal D0 q9 hx (some i.dg) k 0 σ _ w _ [] (.inr ⟨l,i,r,rfl,hl,hr⟩) C0 (hs.low m.n) ⟨[],rfl,trivial⟩ (aaQ _) λF0 a1 w1 G0 H0 _ b0=>?_
        have d0:=b0.ext _ _ hl
        have o0:=b0.mL.obj _ _ d0
        rw[g0]at o0
        obtain⟨q0,I0,J0,p1,p2,p3,p4,p5,p6,p7,p8,p9,K0,L0,M0⟩:=o0
        refine⟨_,run_beginRound p1 (by rw[p2];exact k0),?_⟩
        have a0:=Ev.loop (r2:={r1 with st:=.busy}) (r2':={I0 with state:=.busy}) b0.mL d0 g0 p1 λw' j0=>⟨q0,_,J0,j0,rfl,p3,p4,p5,p6,p7,p8,p9,K0,L0,M0⟩
        refine fY hE ih r.body _ e i0 Ud E0 (some i.dg) k 0 F0 a1 _ _ [] (.inr ⟨l,i,_,rfl,d0,M.Ad g0⟩) G0 a0.mL (H0.ev a0) (aaQ _) λN0 a2 w2 U0 V0 _ e0=>?_
        have r0:=e0.ext _ _ d0
        have s0:=e0.mL.obj _ _ r0
        rw[l0]at s0
        obtain⟨u0,r2',O0,z1,z2,z3,z4,z5,z6,z7,z8,z9,P0,Q0,X0⟩:=s0
        have v0:=(b0.trans a0).trans e0
        have fin:∀(j:Option Ex),j≠some .normal->∃v' w',(Instr.endRound i.dg (j.map sU)).run P w2=.ok v' w'/\(v=.bool (j.map sU).isNone->m'={i0.m.set l (.loop {r2 with st:=if(j.map sU).isNone then .ready else .done,rl:=j})with low:=min m.low (i0.m.set l (.loop {r2 with st:=if(j.map sU).isNone then .ready else .done,rl:=j})).low}->R (.returned v') w'):=by intro j hj;refine⟨_,_,run_endRound (j.map sU) z1,λhv hm=>?_⟩;subst hv hm;refine⟨_,N0,rfl,.flat _ rfl,Ev.vo (v0.trans ?_)⟩;exact Ev.loop e0.mL r0 l0 z1 λw' j0=>⟨u0,_,O0,j0,rfl,rfl,z4,z5,z6,z7,z8,z9,P0,Q0,hj⟩
        cases e with
        |normal=>cases h;obtain⟨v',w',f1,f2⟩:=fin none (by simp);exact⟨v',w',f1,f2 rfl rfl⟩
        |exit id=>cases h;obtain⟨v',w',f1,f2⟩:=fin (some (.exit id)) (by simp);exact⟨v',w',f1,f2 rfl rfl⟩
        |ret=>cases h;obtain⟨v',w',f1,f2⟩:=fin (some .ret) (by simp);exact⟨v',w',f1,f2 rfl rfl⟩
       cases h
      cases h
     cases h
    cases h
   cases h
 cases h
theorem iD(hE:E.OK P){X:aG}(H:cQ P X):∀n,cQ P (bO E X n)
 |0=>⟨λf args m v m' h=>by simp[bO]at h,λl args m v m' h=>by simp[bO]at h,rW H.bH 0,λa m v m' b h=>by simp[bO]at h⟩
 |n+1=>⟨λf args m v m' h σ w F hs hl=>qE hE H (iD hE H n) h hs hl,λl args m v m' h σ w i F hs hl ha=>by
   unfold bO at h
   exact Bk hE (iD hE H n) h hs hl ha,rW H.bH (n+1),λa m v m' b h hb=>by
   unfold bO at h
   split at h
   ·rename_i r hr
    cases h
    exact H.IJ a m v m' b hr hb
   ·rw[hE.st.1]at h
    dsimp only at h
    rw[hE.st.2]at h
    cases h⟩
theorem rV(hE:E.OK P){X:aG}(F:cQ P X){n:Nat}{f:FuncId}{args:aee}{v:aed}(h:bO E X n (.func f) args m=some (v,m')){args':Array aed}(H:dY P σ m w)(hl:bC σ args args'.toList):
  Calls P f args' w (db P σ m w v m'):=by
 cases n with
 |zero=>simp[bO]at h
 |succ n=>exact callsIn_wide.1 (qE hE F (iD hE F n) h H hl).1
def Ue:aG:=λ_ _ _=>none
theorem DM:cQ P Ue:=⟨λf args m v m' h=>by simp[Ue]at h,λl args m v m' h=>by simp[Ue]at h,λf args m v m' h=>by simp[Ue]at h,λa m v m' b h=>by simp[Ue]at h⟩
end
end
section
def M.wl(m:M)(l:Nat):M:={m with low:=l}
section
variable {m:M} {l k b:Nat} {o:Ob}
theorem M.cR:(m.wl l).get b=m.get b:=rfl
theorem M.uN:(m.wl l).low=l:=rfl
theorem M.EP:(m.wl l).wl k=m.wl k:=rfl
theorem M.ER:(m.wl l).push o=(m.push o).wl l:=rfl
theorem M.IT:(m.wl l).set b o=(m.set b o).wl (min l b):=rfl
theorem M.qd:(m.push o).n=m.n+1:=rfl
end
structure bQ{α:Type}(m:M)(f:M->Option (α×M)):Prop where
 eq:∀l,l<=m.n->f (m.wl l)=(f (m.wl m.n)).map (λr=>(r.1,r.2.wl (min l r.2.low)))
 IL:∀r,f (m.wl m.n)=some r->m.n<=r.2.n
section
variable {α:Type} {m:M}
theorem bQ.none:bQ (α:=α) m (λ_=>none):=⟨λ_ _=>rfl,λ_ h=>by cases h⟩
theorem bQ.same(v:α):bQ m (λm=>some (v,m)):=⟨λl h=>by
 simp only[aag,M.uN,M.EP,abL h],λr h=>by cases h;exact Ξ _⟩
theorem bQ.push(v:α)(o:Ob):bQ m (λm=>some (v,m.push o)):=⟨λl h=>by
 simp only[aag,M.ER,M.uN,M.EP,abL h],λr h=>by cases h;exact aca _⟩
theorem bQ.set(v:α)(b:Nat)(o:Ob):bQ m (λm=>some (v,m.set b o)):=⟨λl h=>by
 simp only[aag,M.IT,M.uN,M.EP]
 congr 3
 omega,λr h=>by cases h;exact Ξ _⟩
theorem bQ.NX(v:α)(b:Nat)(o F:Ob):bQ m (λm=>some (v,(m.set b o).push F)):=⟨λl h=>by
 simp only[aag,M.IT,M.ER,M.uN,M.EP]
 congr 3
 omega,λr h=>by cases h;exact aca _⟩
theorem bQ.of_eq{f g:M->Option (α×M)}(h:bQ m g)(e:∀l,f (m.wl l)=g (m.wl l)):bQ m f:=⟨λl F=>by rw[e,e,h.eq l F],λr H=>h.IL r (by rw[<-e];exact H)⟩
end
noncomputable section
variable {E:Env} {m:M}
theorem bS{l n:Nat}{a:Addr}:loadCells (m.wl l) a n=loadCells m a n:=rfl
theorem vX{l:Nat}{t:TypeId}{a:Addr}:loadVar E (m.wl l) t a=loadVar E m t a:=rfl
theorem cT{l:Nat}{a:Addr}:nM (m.wl l) a=nM m a:=rfl
theorem cC{l s n:Nat}{x:aed}:first? (m.wl l) s n x=first? m s n x:=rfl
theorem dH{l:Nat}{t:TypeId}{x:aed}:pC E (m.wl l) t x=pC E m t x:=rfl
theorem GQ{l:Nat}{t:TypeId}{x:aed}{a b c:Option aed}:slice? E (m.wl l) t x a b c=slice? E m t x a b c:=rfl
theorem DS{l:Nat}{t:TypeId}{x k:aed}{ok:Bool}:dn E (m.wl l) t x k ok=dn E m t x k ok:=rfl
theorem Tk{l:Nat}{s d:TypeId}{x:aed}:IN E (m.wl l) s d x=IN E m s d x:=rfl
theorem kH{v:aed}{a:Addr}{vs:aee}:bQ m (λm=>(storeCells m a vs).map λm=>(v,m)):=by
 unfold storeCells
 cases h:m.get a.block with
 |cells c e g=>
  cases F:(a.spot.isNone && Nat.ble (a.off+vs.length) c.length && vs.all one)with
  |true=>exact(bQ.set v a.block _).of_eq (λl=>by simp only[M.cR,bS,cC,dH,cT, *,cond_true,cond_false,aag,aa2] <;>rfl)
  |false=>exact bQ.none.of_eq (λl=>by simp only[M.cR,bS,cC,dH,cT, *,cond_true,cond_false,aag,aa2] <;>rfl)
 |_=>exact bQ.none.of_eq (λl=>by simp only[M.cR,bS,cC,dH,cT, *,cond_true,cond_false,aag,aa2] <;>rfl)
theorem HF{e k:Nat}{base:Option Addr}{sl H F:Nat}{news:aee}:bQ m (λm=>kT m e k base sl H F news):=by
 unfold kT
 cases base with
 |none=>
  dsimp only
  cases (Nat.beq sl 0 && Nat.beq H 0)with
  |true=>exact bQ.of_eq (bQ.push (aec m.n 0 F F) _) (λl=>rfl)
  |false=>exact bQ.none
 |some a=>
  dsimp only
  cases h:m.get a.block with
  |cells c te g=>
   cases ho:(bif Nat.beq sl 0 then some []else loadCells m a (sl*k))with
   |none=>exact bQ.none.of_eq (λl=>by simp only[M.cR,bS,cC,dH,cT, *,cond_true,cond_false,aag,aa2] <;>rfl)
   |some iG=>
    cases h1:(g.isNone ||(g==some k && Nat.blt (a.off+H*k) c.length))with
    |true=>exact bQ.of_eq (bQ.push (aec m.n 0 F F) (.cells (iG++news) e (some k))) (λl=>by simp only[M.cR,bS,cC,dH,cT, *,cond_true,cond_false,aag,aa2] <;>rfl)
    |false=>
     cases h2:(g==some k && Nat.beq a.off 0 && a.spot.isNone && Nat.beq (sl*k) c.length && Nat.beq H sl && Nat.beq te e)with
     |true=>exact bQ.of_eq (bQ.NX (aec m.n 0 F F) a.block .dead (.cells (iG++news) e (some k))) (λl=>by simp only[M.cR,bS,cC,dH,cT, *,cond_true,cond_false,aag,aa2] <;>rfl)
     |false=>exact bQ.none.of_eq (λl=>by simp only[M.cR,bS,cC,dH,cT, *,cond_true,cond_false,aag,aa2] <;>rfl)
  |_=>exact bQ.none.of_eq (λl=>by simp only[M.cR,bS,cC,dH,cT, *,cond_true,cond_false,aag,aa2] <;>rfl)
theorem CM{t u:TypeId}{s x:aed}:bQ m (λm=>dQ E m t u s x):=by
 unfold dQ;split
 ·rename_i F ui base sl H n _ _ _;split;·exact bQ.none
  ·rename_i e _ _
   cases h1:E.ty.get e with
   |none=>exact bQ.none
   |some ei=>
    cases h2:first? m F.es n x with
    |none=>exact bQ.none.of_eq (λl=>by simp only[M.cR,bS,cC,dH,cT, *,cond_true,cond_false,aag,aa2] <;>rfl)
    |some news=>
     cases h3:(Nat.beq F.es 0 ||Nat.blt 65536 ei.bytes || !news.all one ||Nat.blt 268435456 (sl+n) || !Nat.beq news.length (n*F.es) || !fL ei.zero F.es)with
     |true=>exact bQ.none.of_eq (λl=>by simp only[M.cR,bS,cC,dH,cT, *,cond_true,cond_false,aag,aa2] <;>rfl)
     |false=>
      cases h4:Nat.ble (sl+n) H with
      |false=>exact HF.of_eq (λl=>by simp only[M.cR,bS,cC,dH,cT, *,cond_true,cond_false,aag,aa2] <;>rfl)
      |true=>
       cases base with
       |none=>
        cases h5:Nat.beq n 0 with
        |true=>exact bQ.of_eq (bQ.same (.slice none sl H)) (λl=>by simp only[M.cR,bS,cC,dH,cT, *,cond_true,cond_false,aag,aa2] <;>rfl)
        |false=>exact bQ.none.of_eq (λl=>by simp only[M.cR,bS,cC,dH,cT, *,cond_true,cond_false,aag,aa2] <;>rfl)
       |some a=>
        cases h5:Nat.beq n 0 with
        |true=>exact bQ.of_eq (bQ.same (.slice (some a) (sl+n) H)) (λl=>by simp only[M.cR,bS,cC,dH,cT, *,cond_true,cond_false,aag,aa2] <;>rfl)
        |false=>exact bQ.of_eq (kH (v:=.slice (some a) (sl+n) H) (a:=a.add (sl*F.es)) (vs:=news)) (λl=>by simp only[M.cR,bS,cC,dH,cT, *,cond_true,cond_false,aag,aa2] <;>rfl)
  exact bQ.none
 exact bQ.none
theorem Ir{t:TypeId}{d x:aed}:bQ m (λm=>wN E m t d x):=by
 unfold wN;split
 ·rename_i F base dl _ xl _ _
  cases h2:first? m F.es (min xl dl) x with
  |none=>exact bQ.none.of_eq (λl=>by cases H:F.d <;>simp only[cC,h2,H])
  |some cs=>
   cases H:F.d with
   |slice e=>
    cases h3:Nat.beq F.es 0 with
    |true=>exact bQ.none.of_eq (λl=>by simp only[M.cR,bS,cC,dH,cT, *,cond_true,cond_false,aag,aa2] <;>rfl)
    |false=>
     cases base with
     |none=>exact bQ.of_eq (bQ.same (.int .i64 (min xl dl:Nat))) (λl=>by simp only[M.cR,bS,cC,dH,cT, *,cond_true,cond_false,aag,aa2] <;>rfl)
     |some a=>
      cases h5:Nat.beq (min xl dl) 0 with
      |true=>exact bQ.of_eq (bQ.same (.int .i64 (min xl dl:Nat))) (λl=>by simp only[M.cR,bS,cC,dH,cT, *,cond_true,cond_false,aag,aa2] <;>rfl)
      |false=>exact bQ.of_eq (kH (v:=.int .i64 (min xl dl:Nat)) (a:=a) (vs:=cs)) (λl=>by simp only[M.cR,bS,cC,dH,cT, *,cond_true,cond_false,aag,aa2] <;>rfl)
   |_=>exact bQ.none.of_eq (λl=>by simp only[M.cR,bS,cC,dH,cT, *,cond_true,cond_false,aag,aa2] <;>rfl)
 exact bQ.none
theorem Eu{t:TypeId}{x:aed}:bQ m (λm=>oE E m t x):=by
 unfold oE;split;·exact bQ.same _
 ·rename_i F a n _ _
  cases Nat.beq n 0 with
  |true=>exact bQ.same _
  |false=>
   dsimp only[cond_false];split
   ·split;·exact kH
    exact bQ.none
   exact bQ.none
 exact bQ.none
theorem xJ{t:TypeId}{x k:aed}:bQ m (λm=>ez E m t x k):=by
 unfold ez;split
 ·rename_i F r _
  cases h:m.get r with
  |map es clock=>
   cases F.d with
   |map H et=>
    cases h1:keyed E H k with
    |false=>exact bQ.none.of_eq (λl=>by simp only[M.cR, *,cond_true,cond_false] <;>rfl)
    |true=>
     cases h2:findKey E H k es 0 with
     |none=>exact bQ.none.of_eq (λl=>by simp only[M.cR, *,cond_true,cond_false] <;>rfl)
     |some r2=>
      cases r2 with
      |none=>
       cases hz:eZ E et with
       |none=>exact bQ.none.of_eq (λl=>by simp only[M.cR, *,cond_true,cond_false,aa2] <;>rfl)
       |some z=>exact(bQ.set (.tuple #[z,.int .i64 clock]) r _).of_eq (λl=>by simp only[M.cR, *,cond_true,cond_false,aag] <;>rfl)
      |some p=>exact(bQ.set (.tuple #[p.2,.int .i64 (((es[p.1]?).map (·.born)).getD 0)]) r _).of_eq (λl=>by simp only[M.cR, *,cond_true,cond_false] <;>rfl)
   |_=>exact bQ.none.of_eq (λl=>by simp only[M.cR, *] <;>rfl)
  |_=>exact bQ.none.of_eq (λl=>by cases hd:F.d <;>simp only[M.cR,h,hd])
 exact bQ.none
theorem ua{v x s y:aed}:bQ m (λm=>(dv m x s y).map λm=>(v,m)):=by
 unfold dv;split
 ·rename_i r k b
  cases h:m.get r with
  |map es clock=>
   cases F:gW b es 0 with
   |none=>exact bQ.none.of_eq (λl=>by simp only[M.cR, *,aa2] <;>rfl)
   |some i=>exact(bQ.set v r _).of_eq (λl=>by simp only[M.cR, *,aag] <;>rfl)
  |_=>exact bQ.none.of_eq (λl=>by simp only[M.cR, *,aa2] <;>rfl)
 exact bQ.none
theorem vV{t:TypeId}{x y:aed}:bQ m (λm=>eE E m t x y):=by
 unfold eE
 cases E.ty.get t with
 |none=>exact bQ.none
 |some H=>
  dsimp only;split
  ·rename_i e k l k' c hd
   cases E.ty.get e with
   |none=>exact bQ.none
   |some F=>
    dsimp only
    cases F.zero with
    |none=>exact bQ.none
    |some z=>
     dsimp only;split;·exact bQ.of_eq (bQ.push (aec m.n 0 l.toNat c.toNat) (.cells (dB (cells z) c.toNat) e none)) (λl=>rfl)
     exact bQ.none
  exact bQ.none
theorem As{b:Builtin}{ts:List TypeId}{args:aee}:bQ m (λm=>av E m b ts args):=by
 unfold av;split;·exact CM
 ·exact Ir
 ·exact Eu
 ·rename_i t x
  cases h:pC E m t x with
  |none=>exact bQ.none.of_eq (λl=>by simp only[M.cR,bS,cC,dH,cT, *,cond_true,cond_false,aag,aa2] <;>rfl)
  |some v=>exact(bQ.same v).of_eq (λl=>by simp only[M.cR,bS,cC,dH,cT, *,cond_true,cond_false,aag,aa2] <;>rfl)
 ·cases h:(dR (λx y=>if y < x then y else x) args)with
  |none=>exact bQ.none
  |some v=>exact bQ.same v
 ·cases h:(dR (λx y=>if y >x then y else x) args)with
  |none=>exact bQ.none
  |some v=>exact bQ.same v
 ·split
  ·split
   ·rename_i e a y c _
    cases h:nM m a with
    |true=>exact bQ.none.of_eq (λl=>by simp only[cT,h,cond_true])
    |false=>exact(bQ.same (.int .i64 c)).of_eq (λl=>by simp only[cT,h,cond_false])
   ·exact bQ.same _
   exact bQ.none
  exact bQ.none
 exact bQ.none
end
end
section
noncomputable section
variable {E:Env} {m:M}
end
end
section
inductive KV where
 |u
 |v (x:aed)
def KV.val:KV->aed
 |.u=>undef
 |.v x=>x
inductive KT where
 |e
 |c (t:Nat) (x:Option KV) (r:KT)
def KT.get(K:KT):Nat->Option KV:=
 KT.rec (motive:=λ_=>Nat->Option KV) (λ_=>none) (λt x _ g i=>bif Nat.beq t i then x else g i) K
def KT.set(K:KT)(t:Nat)(x:KV):KT:=.c t (some x) K
def KT.del(K:KT)(t:Nat):KT:=.c t none K
theorem KT.Lo{t i:Nat}{x:Option KV}{r:KT}:(KT.c t x r).get i=if i=t then x else r.get i:=by
 show(bif Nat.beq t i then x else r.get i)=_
 cases h:Nat.beq t i with
 |true=>rw[aaf (aab h).symm];rfl
 |false=>rw[aaa λe=>aa8 h e.symm];rfl
theorem KT.cD(K:KT)(t i:Nat)(x:KV):(K.set t x).get i=if i=t then some x else K.get i:=KT.Lo
theorem KT.OR(K:KT)(t i:Nat):(K.del t).get i=if i=t then none else K.get i:=KT.Lo
structure St where
 K:KT
 m:M
 lo:Nat
def Kn(K:KT)(T:Tr aed):Prop:=∀t v,K.get t=some v->T.get t=some v.val
noncomputable section
def mS(K:KT)(dst:Option Tmp)(v:KV):KT:=
 match dst with
 |some d=>K.set d v
 |none=>K
def jY(K:KT):Operand->Option aed
 |.tmp t=>match K.get t with |some k=>some k.val |none=>none
 |.const v=>some v
 |.global g=>some (.pointer (some ⟨g,0,none⟩))
 |.func f=>some (.func (.func f) #[] #[])
def wE(K:KT):List Operand->Option (aee)
 |[]=>some []
 |x::xs=>match jY K x with
  |some v=>match wE K xs with
   |some F=>some (v::F)
   |none=>none
  |none=>none
def MA(K:KT):List (Nat×Operand)->Option (List (Nat×aed))
 |[]=>some []
 |p::xs=>match jY K p.2 with
  |some v=>match MA K xs with
   |some F=>some ((p.1,v)::F)
   |none=>none
  |none=>none
def VG(K:KT):Option Operand->Option (Option aed)
 |none=>some none
 |some x=>match jY K x with |some v=>some (some v) |none=>none
variable (E:Env) (X:aG)
def Cl(f:Fn)(args:aee)(m:M)(b:Nat)(v:aed)(m':M):Prop:=
 m.n<=m'.n/\b<=m.n/\∃F,∀n,F<=n->∀l,l<=m.n->bO E X n f args (m.wl l)=some (v,m'.wl (min l b))
def V(c:Code)(s:St)(Q:Ex->St->Prop):Prop:=
 ∀T,Kn s.K T->s.lo<=s.m.n->∃e F H,Q e F/\Kn F.K H/\s.m.n<=F.m.n/\F.lo<=F.m.n/\∃n0,∀n,n0<=n->
  bz E (bO E X n) n c ⟨T,s.m.wl s.lo⟩=some (e,⟨H,F.m.wl F.lo⟩)
def aj{α:Type}(r:Option α)(P:α->Prop):Prop:=match r with |some x=>P x |none=>False
def aT{α β:Type}(r:Option (α×β))(P:α->β->Prop):Prop:=match r with |some x=>P x.1 x.2 |none=>False
def bZ(m:M)(P:M->Prop):Prop:=P m
def Ce(b:Bool)(P Q:Prop):Prop:=match b with |true=>P |false=>Q
def bD(v:aed)(P Q:Prop):Prop:=match v with |.bool b=>Ce b P Q |_=>False
def jN(v:aed)(P:Fn->Array aed->Array aed->Prop):Prop:=match v with |.func g F H=>P g F H |_=>False
def bt(f:Fn)(args:aee)(m:M)(P:aed->M->Nat->Prop):Prop:=∃v m' b,Cl E X f args m b v m'/\P v m' b
def Pr(F:Bool)(c:Prop)(P:Prop):Prop:=match F with |true=>c/\P |false=>P
def un(vs:aee)(P:aed->aee->Prop):Prop:=match vs with |v::r=>P v r |[]=>False
variable {E}
def cP(v:aed):Option aed:=match v with |.pointer (some a)=>some (.pointer (some a)) |.func (.func f) a b=>some (.func (.func f) a b) |_=>none
def bF(v:aed)(i:Nat):Option aed:=match v with |.tuple F=>F.toList[i]? |_=>none
variable (E)
def ah(m:M)(t:TypeId)(a:aed):Option aed:=match a with |.pointer (some a)=>loadVar E m t a |_=>none
def aA(m:M)(t:TypeId)(a x:aed):Option (M×Nat):=match a with |.pointer (some a)=>(match storeVar E m t a x with |some F=>some (F,a.block) |none=>none) |_=>none
def fN(m:M)(t:TypeId)(x k y:aed):Option (M×Nat):=match x with |.map (some r)=>(match eV E m t x k y with |some F=>some (F,r) |none=>none) |_=>none
def ptrTo(b:Nat):aed:=.pointer (some ⟨b,0,none⟩)
def jn(G:(aee->M->Nat->Prop)->Prop)(k:aee->M->Nat->Prop):Prop:=G k
def Lp(F:(aee->M->Nat->Prop)->aee->M->Nat->Prop)(vs:aee)(m:M)(lo:Nat):Prop:=
 ∃(H:Type) (μ:H->Nat) (I:H->aee->M->Nat->Prop),(∃g,I g vs m lo)/\
  ∀g vs m lo,I g vs m lo->F (λvs m lo=>∃g',μ g' < μ g/\I g' vs m lo) vs m lo
def Ex.IK(e:Ex)(P Q:Prop):Prop:=match e with |.normal=>P |_=>Q
structure Ky(y:Nat)(m m':M):Prop where
 n:m.n<=m'.n
 get:∀c,c < m.n->c≠y->m'.get c=m.get c
structure Ext(m m':M):Prop where
 n:m.n<=m'.n
 get:∀b,b < m.n->m'.get b=m.get b
def TQ(fr:Ob->Prop)(g:Fn)(fi ca:aee)(xs:List (aee))(Dt:M->Prop):Prop:=
 ∀(y n0 B:Nat) (I:Nat->M->Prop) (J:M->Prop) (m:M),(∀i F,I i F->Dt F)->(∀i F H,I i F->Ext F H->I i H)->(∀F H,J F->Ext F H->J H)->
  y < n0->n0<=m.n->B<=n0->
  (∀i args F,n0<=F.n->xs[i]?=some args->I i F->∃v H b,Cl E X (.yield y) args F b v H/\B<=b/\b<=y/\(∀c,n0<=c->c < F.n->fr (F.get c)->H.get c=F.get c)/\((v=.bool true/\I (i+1) H)\/(v=.bool false/\J H)))->
  I 0 m->∃v H b,Cl E X g (fi++ .func (.yield y) #[] #[]::ca) m b v H/\B<=b/\(I xs.length H\/J H)
def RF(g:Fn)(fi ca:aee)(m:M)(lo:Nat)(F:aee->M->(M->Ex->M->Nat->Prop)->Prop)(Q:M->Nat->Prop)(Qs:List (Ex×(M->Nat->Prop))):Prop:=
 ∃(fr:Ob->Prop) (xs:List (aee)) (Dt:M->Prop) (I:Nat->M->Prop) (J:Ex->M->Prop) (B:Nat),(∃k,g=.func k)/\TQ E X fr g fi ca xs Dt/\B<=m.n/\
  (∀i m1,I i m1->Dt m1)/\(∀i m1 H,I i m1->Ky m.n m1 H->I i H)/\(∀e m1 H,J e m1->Ky m.n m1 H->J e H)/\I 0 m/\
  (∀i args m1,m.n+1<=m1.n->xs[i]?=some args->I i m1->F args m1 λH e m3 a0=>B<=a0/\(∀c,m.n<=c->c < m1.n->(c=m.n\/fr (H.get c))->m3.get c=H.get c)/\e.IK (I (i+1) m3) (J e m3))/\
  (∀H nz,I xs.length H->min lo B<=nz->Q H nz)/\(∀e H nz,e≠.normal->J e H->min lo B<=nz->∃p∈Qs,p.1=e/\p.2 H nz)
def QY(y:Nat)(m1 m:M)(P:M->Prop):Prop:=(∀c,y<=c->c < m1.n->m.get c=m1.get c)/\∀F,F.n=m.n->(∀c,c≠y->F.get c=m.get c)->P F
def II(vs:aee)(P:Prop):Prop:=match vs with |[]=>P |_=>False
structure Words where
 aj:{α:Type}->Option α->(α->Prop)->Prop
 aT:{α β:Type}->Option (α×β)->(α->β->Prop)->Prop
 bZ:M->(M->Prop)->Prop
 bt:Fn->aee->M->(aed->M->Nat->Prop)->Prop
 un:aee->(aed->aee->Prop)->Prop
 II:aee->Prop->Prop
 jn:((aee->M->Nat->Prop)->Prop)->(aee->M->Nat->Prop)->Prop
 Lp:((aee->M->Nat->Prop)->aee->M->Nat->Prop)->aee->M->Nat->Prop
 RF:Fn->aee->aee->M->Nat->(aee->M->(M->Ex->M->Nat->Prop)->Prop)->(M->Nat->Prop)->List (Ex×(M->Nat->Prop))->Prop
 QY:Nat->M->M->(M->Prop)->Prop
@[reducible] def aI:Words:=⟨D.aj,D.aT,D.bZ,D.bt E X,D.un,D.II,D.jn,D.Lp,D.RF E X,D.QY⟩
variable (W:Words)
abbrev iF:=Bool×Nat×Option (Nat×Bool)
def qV(ops:Array Oper)(j i t:Nat):Bool:=ops.toList.zipIdx.all λ(q,k)=> !(Nat.ble i k && Nat.blt k j && q.dst==some t)
def Ko(F:Array Nat)(ops:Array Oper)(j:Nat)(x:Oper×Nat)(acc:Option (List iF)):Option (List iF):=
 bif x.2==j ||eO x.1.op ||(F.getD j 0).testBit x.2 ||(F.getD x.2 0).testBit j then acc
 else bif Nat.blt x.2 j then(match x.1.op with
  |.alloc _ |.box _ _=>acc
  |.load _ (.tmp t)=>bif qV ops j x.2 t then(match x.1.guard with
    |none=>acc.map ((true,t,none)::·)
    |some (g,want)=>match(ops.toList[g]?).bind (·.dst)with
     |some d=>bif qV ops j x.2 d then acc.map ((true,t,some (d,want))::·)else none
     |none=>none)else none
  |_=>bif mZ x.1.op then acc else match lenOf x.1.op with
   |some t=>bif qV ops j x.2 t then acc.map ((false,t,none)::·)else none
   |none=>none)
 else none
def DD(ops:Array Oper)(j:Nat):Option (List iF):=ops.toList.zipIdx.foldr (Ko (Region.before ops) ops j) (some [])
def gM(k:Option KV)(b:Nat):Prop:=match k with |some (.v (.pointer (some a)))=>a.block≠b |_=>False
def zN(k:Option KV):Prop:=match k with |some (.v (.map _))=>False |some _=>True |none=>False
def Ay(k:Option KV)(want:Bool)(P:Prop):Prop:=match k with
 |some (.v (.bool b))=>(match b==want with |true=>P |false=>True)
 |some .u=>True
 |_=>False
def jT(K:KT)(b:Nat):List iF->Prop
 |[]=>True
 |(true,t,none)::ts=>gM (K.get t) b/\jT K b ts
 |(true,t,some (d,want))::ts=>Ay (K.get d) want (gM (K.get t) b)/\jT K b ts
 |(false,t,_)::ts=>zN (K.get t)/\jT K b ts
def VK(F:Bool)(H:Option (List iF))(K:KT)(c:Prop)(b:Nat)(P:Prop):Prop:=
 match F with
 |true=>(match H with |none=>c |some ts=>c\/jT K b ts)/\P
 |false=>P
def EZ(c:Call):Bool:=match c.callee,c.args.toList with |.value (.func g),[_]=>Nat.beq g tP |_,_=>false
def FV(m:M)(args:aee):Option Nat:=match args with |[.pointer (some a)]=>pR m a |_=>none
def VJ(F:Bool)(H:Option (List iF))(K:KT)(c:Prop)(bo:Option Nat)(b:Nat)(P:Prop):Prop:=
 match F with
 |true=>(match H with |none=>c |some ts=>c\/(bo=some b/\jT K b ts))/\P
 |false=>P
def Uw(b:Builtin)(ts:List TypeId)(args:aee)(H:Bool)(m:M)(lo:Nat)(P:aed->M->Nat->Prop):Prop:=
 match b with
 |.len |.cap |.min |.max=>W.aT (av E m b ts args) λv _=>P v m lo
 |_=>W.aT (av E (m.wl m.n) b ts args) λv F=>Pr H (m.n<=F.low) (P v F (min lo F.low))
def oI(E:Env)(t:TypeId)(ok:Bool)(x:aed):Option aed:=match x with
 |.nilIface=>bif ok then(match eZ E t with |some z=>some (.tuple #[z,.bool false]) |none=>none)else none
 |.iface F (.agg cs)=>bif ok && (Nat.beq F t && cs.toList.isEmpty)then(match E.ty.get t with
  |some H=>(match H.d with |.struct _=>some (.tuple #[.agg #[],.bool true]) |_=>none)
  |none=>none)else none
 |_=>none
def QF(o:Op)(H:Bool)(pt:Option (List iF))(K:KT)(m:M)(lo:Nat)(P:aed->M->Nat->Prop):Prop:=
 match o with
 |.move x |.assign x=>aj (jY K x) λx=>P x m lo
 |.pick c a b=>aj (jY K c) λc=>bD c (aj (jY K a) λa=>P a m lo) (aj (jY K b) λb=>P b m lo)
 |.alloc t=>aj (eZ E t) λz=>W.bZ (m.push (.cells (cells z) t none)) λF=>P (ptrTo m.n) F lo
 |.box t x=>aj (jY K x) λx=>W.bZ (m.push (.cells (cells x) t none)) λF=>P (ptrTo m.n) F lo
 |.build t ps=>aj (MA K ps.toList) λps=>W.aj (aR E t ps) λv=>P v m lo
 |.buildSlice t n ps=>aj (MA K ps.toList) λps=>W.aT (aK E m t n ps) λv F=>P v F lo
 |.load t a=>aj (jY K a) λa=>W.aj (ah E m t a) λv=>P v m lo
 |.store t a x=>aj (jY K a) λa=>aj (jY K x) λx=>W.aT (aA E m t a x) λF b=>VK H pt K (m.n<=b) b (P undef F (min lo b))
 |.nilCheck x=>aj (jY K x) λx=>aj (cP x) λv=>P v m lo
 |.binOp op t x y _=>aj (jY K x) λx=>aj (jY K y) λy=>W.aj (aw E op t x y) λv=>P v m lo
 |.unOp op _ x=>aj (jY K x) λx=>W.aj (gU op x) λv=>P v m lo
 |.convert s d x=>aj (jY K x) λx=>W.aj (IN E m s d x) λv=>P v m lo
 |.makeFunc f a b=>aj (wE K a.toList) λa=>aj (wE K b.toList) λb=>match f with
  |.func f=>P (.func (.func f) a.toArray b.toArray) m lo
  |_=>False
 |.makeMap _ r=>match r with
  |none=>W.bZ (m.push (.map [] 0)) λF=>P (.map (some m.n)) F lo
  |some _=>False
 |.makeSlice t l c=>aj (jY K l) λl=>aj (jY K c) λc=>W.aT (eE E m t l c) λv F=>P v F lo
 |.slice t x a b c=>aj (jY K x) λx=>aj (VG K a) λa=>aj (VG K b) λb=>aj (VG K c) λc=>W.aj (slice? E m t x a b c) λv=>P v m lo
 |.fieldAddr s x f=>aj (jY K x) λx=>W.aj (af E s x f) λv=>P v m lo
 |.field t x f=>aj (jY K x) λx=>W.aj (Ah E t x f) λv=>P v m lo
 |.indexAddr t x i=>aj (jY K x) λx=>aj (jY K i) λi=>W.aj (ak E t x i) λv=>P v m lo
 |.index t x i=>aj (jY K x) λx=>aj (jY K i) λi=>W.aj (index? E t x i) λv=>P v m lo
 |.lookup t x i ok=>aj (jY K x) λx=>aj (jY K i) λi=>W.aj (dn E m t x i ok) λv=>P v m lo
 |.mapUpdate t x k y=>aj (jY K x) λx=>aj (jY K k) λk=>aj (jY K y) λy=>W.aT (fN E m t x k y) λF b=>Pr H (m.n<=b) (P undef F (min lo b))
 |.insert t x k y=>aj (jY K x) λx=>aj (jY K k) λk=>aj (jY K y) λy=>W.aT (fN E m t x k y) λF b=>Pr H (m.n<=b) (P undef F (min lo b))
 |.mapEntry t x k=>aj (jY K x) λx=>aj (jY K k) λk=>W.aT (ez E (m.wl m.n) t x k) λv F=>Pr H (m.n<=F.low) (P v F (min lo F.low))
 |.entryStore _ x s y=>aj (jY K x) λx=>aj (jY K s) λs=>aj (jY K y) λy=>W.aj (dv (m.wl m.n) x s y) λF=>Pr H (m.n<=F.low) (P undef F (min lo F.low))
 |.extract x i=>aj (jY K x) λx=>W.aj (bF x i) λv=>P v m lo
 |.typeAssert x _ t ok=>aj (jY K x) λx=>W.aj (oI E t ok x) λv=>P v m lo
 |.call c=>match c.callee with
  |.value f=>aj (jY K f) λf=>jN f λg fi ca=>aj (wE K c.args.toList) λargs=>W.bt g (fi.toList++(args++ca.toList)) m λv F b=>bif EZ c then VJ H pt K (m.n<=b) (FV m args) b (P v F (min lo b))else Pr H (m.n<=b) (P v F (min lo b))
  |.builtin b=>aj (wE K c.args.toList) λargs=>Uw E W b c.argTypes.toList args H m lo P
  |_=>False
 |_=>False
def yA(ops:Array Oper)(K:KT)(o:Oper)(P S:KT->Prop):Prop:=
 match o.guard with
 |none=>P K
 |some (j,want)=>match(ops.toList[j]?).bind (·.dst)with
  |some d=>match K.get d with
   |some (.v v)=>bD v (cond want (P (K.set d (.v (.bool true)))) (S (K.set d (.v (.bool true))))) (cond want (S (K.set d (.v (.bool false)))) (P (K.set d (.v (.bool false)))))
   |some .u=>S K
   |none=>False
  |none=>S K
def IV(d:Bool)(ops:Array Oper):List Oper->Nat->St->(St->Prop)->Prop
 |[],_,s,P=>P s
 |o::rest,j,s,P=>yA ops s.K o
   (λK=>QF E W o.op (d && !(eL ops j)) (bif d && !(eL ops j)then DD ops j else none) K s.m s.lo λv m lo=>IV d ops rest (j+1) ⟨mS K o.dst (.v v),m,lo⟩ P)
   (λK=>IV d ops rest (j+1) ⟨mS K o.dst .u,s.m,s.lo⟩ P)
def Ex.FU(id:Nat)(e:Ex):Ex:=match e with |.exit F=>bif Nat.beq F id then .normal else .exit F |e=>e
def assigned:Code->List Nat
 |.region _ ops _=>ops.toList.filterMap (·.dst)
 |.seq a b=>assigned a++assigned b
 |.cond _ x y=>assigned x++assigned y
 |.block _ c |.loop c |.scope c=>assigned c
 |_=> []
def carried(K:KT):List Nat->List Nat->List Nat
 |[],acc=>acc
 |t::ts,acc=>bif acc.contains t then carried K ts acc else match K.get t with
  |some (.v _)=>carried K ts (acc++ [t])
  |_=>carried K ts acc
def forget(K:KT):List Nat->KT
 |[]=>K
 |t::ts=>forget (K.del t) ts
def CH:List Nat->aee->KT->(KT->Prop)->Prop
 |[],_,K,f=>f K
 |t::ts,F,K,f=>W.un F λv r=>CH ts r (K.set t (.v v)) f
def FW:List Nat->aee->KT->(KT->Prop)->Prop
 |[],F,K,f=>W.II F (f K)
 |t::ts,F,K,f=>W.un F λv r=>FW ts r (K.set t (.v v)) f
def ss(K:KT):List Nat->Option (aee)
 |[]=>some []
 |t::ts=>match K.get t with
  |some (.v v)=>match ss K ts with
   |some F=>some (v::F)
   |none=>none
  |_=>none
def DC(xs:List Operand):List Nat:=xs.filterMap λ|.tmp t=>some t |_=>none
def reads:Code->List Nat
 |.region _ ops _=>ops.toList.flatMap λo=>DC o.op.operands.toList
 |.seq a b=>reads a++reads b
 |.cond c x y=>DC [c]++(reads x++reads y)
 |.block _ c |.loop c |.scope c=>reads c
 |.rangeFunc f _ a b=>DC [f]++(reads a++reads b)
 |_=> []
def parts:Code->Bool
 |.region _ ops _=>ops.toList.any λo=>o.guard.isSome
 |_=>false
def dedup:List Nat->List Nat->List Nat
 |[],acc=>acc
 |t::ts,acc=>bif acc.contains t then dedup ts acc else dedup ts (acc++ [t])
def KW(a:Code)(rd:List Nat):List Nat:=(dedup (assigned a) []).filter rd.contains
def TH(e:Ex)(l:List Ex):List Ex:=bif l.any (·==e)then l else l++ [e]
def jD:Code->List Ex->List Ex
 |.exit id,acc=>TH (.exit id) acc
 |.ret,acc=>TH .ret acc
 |.seq a b,acc=>jD b (jD a acc)
 |.cond _ x y,acc=>jD y (jD x acc)
 |.block id c,acc=>(jD c []).foldl (λacc e=>bif e==.exit id then acc else TH e acc) acc
 |.loop c,acc |.scope c,acc=>jD c acc
 |.rangeFunc _ _ _ b,acc=>jD b acc
 |_,acc=>acc
def leaves(c:Code):List Ex:=jD c []
def sj:Code->List Nat->St->(Ex->St->Prop)->Prop
 |.skip,_,s,Q=>Q .normal s
 |.label _,_,s,Q=>Q .normal s
 |.region _ ops d,_,s,Q=>IV E W d ops ops.toList 0 s (Q .normal)
 |.seq a b,rd,s,Q=>
  bif parts a then
   W.jn (λR=>sj a (reads b++rd) s λe F=>e.IK (aj (ss F.K (KW a (reads b++rd))) λH=>R H F.m F.lo) (Q e F))
    (λH m lo=>CH W (KW a (reads b++rd)) H (forget s.K (assigned a)) λK=>sj b rd ⟨K,m,lo⟩ Q)
  else sj a (reads b++rd) s λe s=>e.IK (sj b rd s Q) (Q e s)
 |.cond c x y,rd,s,Q=>aj (jY s.K c) λv=>bD v (sj x rd s Q) (sj y rd s Q)
 |.block id c,rd,s,Q=>sj c rd s λe s=>Q (e.FU id) s
 |.exit id,_,s,Q=>Q (.exit id) s
 |.ret,_,s,Q=>Q .ret s
 |.loop c,rd,s,Q=>
  aj (ss s.K (carried s.K (assigned c) [])) λH=>W.Lp (λP H m lo=>CH W (carried s.K (assigned c) []) H (forget s.K (assigned c)) λK=>sj c (carried s.K (assigned c) []++rd) ⟨K,m,lo⟩ λe F=>
   e.IK (aj (ss F.K (carried s.K (assigned c) [])) λH=>P H F.m F.lo) (Q e F)) H s.m s.lo
 |.scope c,rd,s,Q=>sj c rd s Q
 |.rangeFunc f ps a b,_,s,Q=>aj (jY s.K f) λf=>jN f λg fi ca=>W.RF g fi.toList ca.toList s.m s.lo
   (λargs m1 Qb=>FW W ps.toList args s.K λK1=>sj a (reads b) ⟨K1,m1,m1.n⟩ λe s1=>e.IK (W.QY s.m.n m1 s1.m λm2=>sj b [] ⟨s1.K,m2,min s1.lo s.m.n⟩ λe2 s2=>Qb m2 e2 s2.m s2.lo) False)
   (λm lo=>Q .normal ⟨s.K,m,lo⟩) ((leaves b).map λe=>(e,λm lo=>Q e ⟨s.K,m,lo⟩))
 |_,_,_,_=>False
end
section
variable {E:Env} {X:aG}
theorem ae{α:Type}{x:α}{P:α->Prop}:aj (some x) P=P x:=rfl
theorem aE{α β:Type}{x:α}{y:β}{P:α->β->Prop}:aT (some (x,y)) P=P x y:=rfl
theorem aZ{α:Type}{r:Option α}{P:α->Prop}:aj r P↔∃x,r=some x/\P x:=by
 cases r with
 |none=>exact⟨λh=>h.elim,λ⟨x,h,_⟩=>by cases h⟩
 |some y=>exact⟨λh=>⟨y,rfl,h⟩,λ⟨x,h,F⟩=>by cases h;exact F⟩
theorem lH{α β:Type}{r:Option (α×β)}{P:α->β->Prop}:aT r P↔∃x y,r=some (x,y)/\P x y:=by
 cases r with
 |none=>exact⟨λh=>h.elim,λ⟨x,y,h,_⟩=>by cases h⟩
 |some y=>exact⟨λh=>⟨y.1,y.2,rfl,h⟩,λ⟨x,y,h,F⟩=>by cases h;exact F⟩
theorem OG{b:Bool}{P Q:Prop}:Ce b P Q↔(b=true->P)/\(b=false->Q):=by
 cases b with
 |true=>exact⟨λh=>⟨λ_=>h,λe=>by cases e⟩,λh=>h.1 rfl⟩
 |false=>exact⟨λh=>⟨(λe=>by cases e),λ_=>h⟩,λh=>h.2 rfl⟩
theorem uz{v:aed}{P Q:Prop}:bD v P Q↔∃b,v=.bool b/\Ce b P Q:=by
 constructor
 ·intro h
  cases v with
  |bool b=>exact⟨b,rfl,h⟩
  |_=>exact h.elim
 rintro⟨b,rfl,h⟩;exact h
theorem od{v:aed}{P:Fn->Array aed->Array aed->Prop}:jN v P↔∃g fi ca,v=.func g fi ca/\P g fi ca:=by
 constructor
 ·intro h
  cases v with
  |func g fi ca=>exact⟨g,fi,ca,rfl,h⟩
  |_=>exact h.elim
 rintro⟨g,fi,ca,rfl,h⟩;exact h
theorem Jc{vs:aee}{P:aed->aee->Prop}:un vs P↔∃v r,vs=v::r/\P v r:=by
 cases vs with
 |nil=>exact⟨λh=>h.elim,λ⟨v,r,h,_⟩=>by cases h⟩
 |cons v r=>exact⟨λh=>⟨v,r,rfl,h⟩,λ⟨v,r,h,F⟩=>by cases h;exact F⟩
theorem uD{F:Bool}{c P:Prop}:Pr F c P↔(F=true->c)/\P:=by
 cases F with
 |true=>exact⟨λh=>⟨λ_=>h.1,h.2⟩,λh=>⟨h.1 rfl,h.2⟩⟩
 |false=>exact⟨λh=>⟨(λe=>by cases e),h⟩,λh=>h.2⟩
theorem Kn.put{K:KT}{T:Tr aed}(h:Kn K T)(d:Option Tmp)(v:KV):Kn (mS K d v) (put T d v.val):=by
 cases d with
 |none=>exact h
 |some d=>
  intro t x F;simp only[D.put,mS,Tr.cD,KT.cD]at F⊢;split;·rename_i e;rw[aaf e]at F;cases F;rfl
  rename_i e;rw[aaa e]at F;exact h t x F
theorem Kn.again{K:KT}{T:Tr aed}(h:Kn K T){d:Nat}{v:aed}(H:K.get d=some (.v v)):Kn (K.set d (.v v)) T:=by
 intro t x F;simp only[KT.cD]at F;split at F;·rename_i e;cases F;rw[e];exact h d _ H
 exact h t x F
theorem Kn.set{K:KT}{T:Tr aed}(h:Kn K T){d:Nat}{v:aed}(H:T.get d=some v):Kn (K.set d (.v v)) T:=by
 intro t x F;simp only[KT.cD]at F;split at F;·rename_i e;cases F;rw[e];exact H
 exact h t x F
theorem bd{K:KT}{T:Tr aed}(h:Kn K T){x:Operand}{v:aed}(F:jY K x=some v):ev T x=v:=by
 cases x with
 |tmp t=>
  simp only[jY]at F;split at F
  ·rename_i k H;cases F;simp only[ev,gn,h t k H,abN]
  cases F
 |const c=>cases F;rfl
 |global g=>cases F;rfl
 |func f=>cases F;rfl
theorem fZ{K:KT}{T:Tr aed}(h:Kn K T):∀{xs:List Operand} {vs:aee},wE K xs=some vs->xs.map (ev T)=vs
 |[],vs,F=>by cases F;rfl
 |x::xs,vs,F=>by
  unfold wE at F
  split at F
  ·rename_i v H
   split at F
   ·rename_i a0 h2
    cases F
    simp only[abT,bd h H,fZ h h2]
   ·cases F
  ·cases F
theorem qA{K:KT}{T:Tr aed}(h:Kn K T):∀{xs:List (Nat×Operand)} {vs:List (Nat×aed)},MA K xs=some vs->xs.map (λp=>(p.1,ev T p.2))=vs
 |[],vs,F=>by cases F;rfl
 |x::xs,vs,F=>by
  unfold MA at F
  split at F
  ·rename_i v H
   split at F
   ·rename_i a0 h2
    cases F
    simp only[abT,bd h H,qA h h2]
   ·cases F
  ·cases F
theorem sV{K:KT}{T:Tr aed}(h:Kn K T){x:Option Operand}{v:Option aed}(F:VG K x=some v):x.map (ev T)=v:=by
 cases x with
 |none=>cases F;rfl
 |some x=>
  unfold VG at F;dsimp only at F;split at F
  ·rename_i w H;cases F;simp only[aag,bd h H]
  cases F
def Qi(E:Env)(X:aG)(o:Op)(H:Bool)(pt:Option (List iF))(K:KT)(T:Tr aed)(m:M)(lo:Nat)(P:aed->M->Nat->Prop):Prop:=
 ∃v F w,P v F (min lo w)/\m.n<=F.n/\(H=true->m.n<=w\/∃ts,pt=some ts/\jT K w ts/\fM m T o=some w)/\
  ∃n0,∀n,n0<=n->∀l,l<=m.n->dt o E (bO E X n) T (m.wl l)=some (v,F.wl (min l w))
theorem Qi.push{o:Op}{H:Bool}{pt:Option (List iF)}{K:KT}{T:Tr aed}{m:M}{lo:Nat}{P:aed->M->Nat->Prop}{v:aed}{m1:M}(F:lo<=m.n)(hP:P v m1 lo)(hn:m.n<=m1.n)(h:∀n l,dt o E (bO E X n) T (m.wl l)=some (v,m1.wl l)):Qi E X o H pt K T m lo P:=
 ⟨v,m1,m.n,by rw[abL F];exact hP,hn,λ_=> .inl (Ξ _),0,λn _ l hl=>by rw[abL hl];exact h n l⟩
theorem Qi.bH{o:Op}{H:Bool}{pt:Option (List iF)}{K:KT}{T:Tr aed}{m:M}{lo:Nat}{P:aed->M->Nat->Prop}{v:aed}(F:lo<=m.n)(hP:P v m lo)(h:∀n l,dt o E (bO E X n) T (m.wl l)=some (v,m.wl l)):Qi E X o H pt K T m lo P:=
 .push F hP (Ξ _) h
theorem tk{m m1:M}{t:TypeId}{a:Addr}{x:aed}(h:storeVar E m t a x=some m1)(l:Nat):storeVar E (m.wl l) t a x=some (m1.wl (min l a.block))/\m1.n=m.n:=by
 unfold storeVar at h⊢
 cases F:E.ty.get t with
 |none=>rw[F]at h;cases h
 |some ti=>
  rw[F]at h
  dsimp only at h⊢
  cases H:Nat.beq (cells x).length ti.size with
  |false=>rw[H]at h;cases h
  |true=>
   rw[H]at h
   simp only[cond_true]at h⊢
   unfold storeCells at h⊢
   rw[M.cR]
   cases hg:m.get a.block with
   |cells c e g=>
    rw[hg]at h
    dsimp only at h⊢
    cases hc:(a.spot.isNone && Nat.ble (a.off+(cells x).length) c.length && (cells x).all one)with
    |false=>rw[hc]at h;cases h
    |true=>rw[hc]at h;cases h;exact⟨rfl,rfl⟩
   |_=>rw[hg]at h;cases h
theorem ju{m m1:M}{t:TypeId}{r:Nat}{k y:aed}(h:eV E m t (.map (some r)) k y=some m1)(l:Nat):eV E (m.wl l) t (.map (some r)) k y=some (m1.wl (min l r))/\m1.n=m.n:=by
 unfold eV at h⊢
 cases H:E.ty.get t with
 |none=>rw[H]at h;cases h
 |some ti=>
  rw[H]at h
  dsimp only at h⊢
  rw[M.cR]
  cases F:ti.d with
  |map kt et=>
   cases hg:m.get r with
   |map es clock=>
    rw[F,hg]at h
    dsimp only at h⊢
    cases hk:keyed E kt k with
    |false=>rw[hk]at h;cases h
    |true=>
     rw[hk]at h
     simp only[cond_true]at h⊢
     cases hf:findKey E kt k es 0 with
     |none=>rw[hf]at h;cases h
     |some p=>
      rw[hf]at h
      cases p with
      |none=>cases h;exact⟨rfl,rfl⟩
      |some q=>cases h;exact⟨rfl,rfl⟩
   |_=>rw[F,hg]at h;cases h
  |_=>rw[F]at h;cases h
theorem oH{m m1:M}{t:TypeId}{n:Nat}{ps:List (Nat×aed)}{v:aed}(h:aK E m t n ps=some (v,m1))(l:Nat):aK E (m.wl l) t n ps=some (v,m1.wl l)/\m.n<=m1.n:=by
 unfold aK at h⊢;split at h;·cases h
 split at h
 ·split at h;·cases h
  ·rename_i F ht _ e hd _ z hz
   cases H:(Nat.beq (cells z).length F.es && Nat.ble (n*F.es) 1048576)with
   |false=>rw[H]at h;cases h
   |true=>
    rw[H]at h
    simp only[cond_true]at h
    cases hf:fill (λi=>some (i*F.es,F.es)) (dB (cells z) n) ps with
    |none=>rw[hf]at h;cases h
    |some cs=>rw[hf]at h;cases h;refine⟨?_,aca _⟩;simp only[ht,hd,hz,H,cond_true,hf];rfl
 cases h
theorem pK{m m1:M}{t:TypeId}{x y v:aed}(h:eE E m t x y=some (v,m1))(l:Nat):eE E (m.wl l) t x y=some (v,m1.wl l)/\m.n<=m1.n:=by
 have hl:=(vV (E:=E) (m:=m) (t:=t) (x:=x) (y:=y))
 unfold eE at h⊢
 cases H:E.ty.get t with
 |none=>rw[H]at h;cases h
 |some ti=>
  rw[H]at h;dsimp only at h⊢;split at h
  ·rename_i e k a k' c hd
   cases he:E.ty.get e with
   |none=>rw[he]at h;cases h
   |some ei=>
    rw[he]at h
    dsimp only at h
    cases F:ei.zero with
    |none=>rw[F]at h;cases h
    |some z=>
     rw[F]at h;dsimp only at h;split at h
     ·rename_i hc;cases h;refine⟨?_,aca _⟩;simp only[hd,he,F];rw[aaf hc];rfl
     cases h
  cases h
theorem xR{m m1:M}{b:Builtin}{ts:List TypeId}{args:aee}{v:aed}(hb:b=.len\/b=.cap\/b=.min\/b=.max)(h:av E m b ts args=some (v,m1))(l:Nat):av E (m.wl l) b ts args=some (v,m.wl l):=by
 rcases hb with rfl |rfl |rfl |rfl
 ·unfold av at h⊢;split at h;all_goals try (rename_i H;first |cases H |skip)
  all_goals first |(simp only[dH];cases F:pC E m _ _ with |none=>rw[F]at h;cases h |some w=>rw[F]at h;cases h;rfl) |cases h |skip
 ·unfold av at h⊢;split at h;all_goals try (rename_i H;first |cases H |skip)
  ·split at h
   ·split at h
    ·rename_i ti ht _ _ e a n c hd
     cases hs:nM m a with
     |true=>rw[hs]at h;cases h
     |false=>rw[hs]at h;cases h;simp only[ht,hd,cT,hs,cond_false]
    ·rename_i ti ht _ _ e n c hd;cases h;simp only[ht,hd]
    cases h
   cases h
  cases h
 ·have h:(dR (λx y=>if y < x then y else x) args).map (·,m)=some (v,m1):=h
  show(dR (λx y=>if y < x then y else x) args).map (·,m.wl l)=some (v,m.wl l)
  cases F:dR (λx y=>if y < x then y else x) args with
  |none=>rw[F]at h;cases h
  |some w=>rw[F]at h;cases h;rfl
 ·have h:(dR (λx y=>if y >x then y else x) args).map (·,m)=some (v,m1):=h
  show(dR (λx y=>if y >x then y else x) args).map (·,m.wl l)=some (v,m.wl l)
  cases F:dR (λx y=>if y >x then y else x) args with
  |none=>rw[F]at h;cases h
  |some w=>rw[F]at h;cases h;rfl
noncomputable section
def sX:aee->Nat->KT
 |[],_=> .e
 |v::F,i=>(sX F (i+1)).set i (.v v)
def vn(E:Env)(K:KT)(m:M):List ResultVar->(aee->Prop)->Prop
 |[],f=>f []
 |.tmp t::rs,f=>aj (match K.get t with |some k=>some k.val |none=>none) λv=>vn E K m rs λF=>f (v::F)
 |.cell a t::rs,f=>aj (match K.get a with |some k=>some k.val |none=>none) λa=>aj (ah E m t a) λv=>vn E K m rs λF=>f (v::F)
def aO:aee->aed
 |[v]=>v
 |F=> .tuple F.toArray
def post(E:Env)(rs:List ResultVar)(R:aee->M->Nat->Prop):Ex->St->Prop:=λe s=>match e with
 |.exit _=>False
 |_=>vn E s.K s.m rs λF=>R F s.m s.lo
def tn(rs:List ResultVar):List Nat:=rs.map λ|.tmp t=>t |.cell a _=>a
def dm(E:Env)(W:Words)(fn:Func)(args:aee)(m:M)(R:aee->M->Nat->Prop):Prop:=
 match fn.body with
 |some body=>sj E W body (tn fn.results.toList) ⟨sX args 0,m,m.n⟩ (post E fn.results.toList R)
 |none=>False
end
end
end
section
section
variable {E:Env} {X:aG}
theorem MX{F:Bool}{H:Option (List iF)}{K:KT}{c P:Prop}{b:Nat}:VK F H K c b P↔(F=true->c\/∃ts,H=some ts/\jT K b ts)/\P:=by
 cases F with
 |true=>
  cases H with
  |none=>exact⟨λh=>⟨λ_=> .inl h.1,h.2⟩,λh=>⟨(h.1 rfl).elim id (λ⟨_,h,_⟩=>by cases h),h.2⟩⟩
  |some ts=>exact⟨λh=>⟨λ_=>h.1.imp id (λx=>⟨ts,rfl,x⟩),h.2⟩,λh=>⟨(h.1 rfl).imp id (λ⟨_,h,x⟩=>by cases h;exact x),h.2⟩⟩
 |false=>exact⟨λh=>⟨(λe=>by cases e),h⟩,λh=>h.2⟩
theorem MW{F:Bool}{H:Option (List iF)}{K:KT}{c P:Prop}{bo:Option Nat}{b:Nat}:VJ F H K c bo b P↔(F=true->c\/∃ts,H=some ts/\jT K b ts/\bo=some b)/\P:=by
 cases F with
 |true=>
  cases H with
  |none=>exact⟨λh=>⟨λ_=> .inl h.1,h.2⟩,λh=>⟨(h.1 rfl).elim id (λ⟨_,h,_⟩=>by cases h),h.2⟩⟩
  |some ts=>exact⟨λh=>⟨λ_=>h.1.imp id (λx=>⟨ts,rfl,x.2,x.1⟩),h.2⟩,λh=>⟨(h.1 rfl).imp id (λ⟨_,h,x⟩=>by cases h;exact⟨x.2,x.1⟩),h.2⟩⟩
 |false=>exact⟨λh=>⟨(λe=>by cases e),h⟩,λh=>h.2⟩
theorem xT{c:Call}{K:KT}{T:Tr aed}{m:M}{args:aee}{b:Nat}(hk:Kn K T)(H:EZ c=true)(F:wE K c.args.toList=some args)(hb:FV m args=some b):fM m T (.call c)=some b:=by
 unfold EZ at H;split at H
 ·rename_i g x hc hx;have hg:=aab H;rw[hx]at F;unfold wE at F;split at F
  ·rename_i v hv;have F:some [v]=some args:=F;cases F;unfold FV at hb;split at hb
   ·rename_i a he;cases he;unfold fM;dsimp only;rw[hc,hx];dsimp only;rw[bd hk hv];have h2:Nat.beq g tP=true:=H;show(bif Nat.beq g tP && true && true then pR m a else none)=some b;rw[h2];exact hb
   cases hb
  cases F
 cases H
def PF(ops:Array Oper)(j i:Nat)(o:Oper)(ts:List iF):Prop:=
 (∃t,o.op=.alloc t)\/(∃t y,o.op=.box t y)\/(∃t s g,o.op=.load t (.tmp s)/\qV ops j i s=true/\((o.guard=none/\g=none)\/∃q want d,o.guard=some (q,want)/\(ops.toList[q]?).bind (·.dst)=some d/\qV ops j i d=true/\g=some (d,want))/\(true,s,g)∈ts)\/
  mZ o.op=true\/∃s,lenOf o.op=some s/\qV ops j i s=true/\(false,s,none)∈ts
theorem PF.more{ops:Array Oper}{j i:Nat}{o:Oper}{ts:List iF}{x:iF}(h:PF ops j i o ts):PF ops j i o (x::ts):=by
 rcases h with h |h |⟨t,s,g,F,H,h3,h4⟩ |h |⟨s,F,H,h3⟩;·exact .inl h
 ·exact .inr (.inl h)
 ·exact .inr (.inr (.inl ⟨t,s,g,F,H,h3,aaZ _ h4⟩))
 ·exact .inr (.inr (.inr (.inl h)))
 exact .inr (.inr (.inr (.inr ⟨s,F,H,aaZ _ h3⟩)))
theorem fm{bf:Array Nat}{ops:Array Oper}{j:Nat}:∀(l:List (Oper×Nat)) (ts:List iF),
  l.foldr (Ko bf ops j) (some [])=some ts->∀o i,(o,i)∈l->(i==j ||eO o.op ||(bf.getD j 0).testBit i ||(bf.getD i 0).testBit j)=true\/(Nat.blt i j=true/\PF ops j i o ts)
 |[],ts,_,o,i,hm=>by cases hm
 |(o',i')::l,ts,h,o,i,hm=>by
  rw[List.foldr_cons]at h
  unfold Ko at h
  dsimp only at h
  cases hc:(i'==j ||eO o'.op ||(bf.getD j 0).testBit i' ||(bf.getD i' 0).testBit j)with
  |true=>
   rw[hc]at h
   simp only[cond_true]at h
   rcases aaS.1 hm with e |hm
   ·cases e;exact .inl hc
   ·exact fm l ts h o i hm
  |false=>
   rw[hc]at h
   simp only[cond_false]at h
   cases hb:Nat.blt i' j with
   |false=>rw[hb]at h;cases h
   |true=>
    rw[hb]at h
    simp only[cond_true]at h
    split at h
    ·rename_i t F
     rcases aaS.1 hm with e |hm
     ·cases e;exact .inr ⟨hb,.inl ⟨t,F⟩⟩
     ·exact fm l ts h o i hm
    ·rename_i t y F
     rcases aaS.1 hm with e |hm
     ·cases e;exact .inr ⟨hb,.inr (.inl ⟨t,y,F⟩)⟩
     ·exact fm l ts h o i hm
    ·rename_i t s F
     cases hs:qV ops j i' s with
     |false=>rw[hs]at h;cases h
     |true=>
      rw[hs]at h
      simp only[cond_true]at h
      cases hg:o'.guard with
      |none=>
       rw[hg]at h
       simp only[aaj]at h
       obtain⟨H,h,rfl⟩:=h
       rcases aaS.1 hm with e |hm
       ·cases e;exact .inr ⟨hb,.inr (.inr (.inl ⟨t,s,none,F,hs,.inl ⟨hg,rfl⟩,aaP⟩))⟩
       ·exact(fm l H h o i hm).imp id (λ⟨q1,q2⟩=>⟨q1,q2.more⟩)
      |some gw=>
       obtain⟨q,want⟩:=gw
       rw[hg]at h
       dsimp only at h
       cases hd:(ops.toList[q]?).bind (·.dst)with
       |none=>rw[hd]at h;cases h
       |some d=>
        rw[hd]at h
        dsimp only at h
        cases a0:qV ops j i' d with
        |false=>rw[a0]at h;cases h
        |true=>
         rw[a0]at h
         simp only[cond_true,aaj]at h
         obtain⟨H,h,rfl⟩:=h
         rcases aaS.1 hm with e |hm
         ·cases e;exact .inr ⟨hb,.inr (.inr (.inl ⟨t,s,some (d,want),F,hs,.inr ⟨q,want,d,hg,hd,a0,rfl⟩,aaP⟩))⟩
         ·exact(fm l H h o i hm).imp id (λ⟨q1,q2⟩=>⟨q1,q2.more⟩)
    ·cases b0:mZ o'.op with
     |true=>
      rw[b0,cond_true]at h
      rcases aaS.1 hm with e |hm
      ·cases e;exact .inr ⟨hb,.inr (.inr (.inr (.inl b0)))⟩
      ·exact fm l ts h o i hm
     |false=>
      rw[b0,cond_false]at h
      split at h
      ·rename_i s F
       cases hs:qV ops j i' s with
       |false=>rw[hs]at h;cases h
       |true=>
        rw[hs]at h
        simp only[cond_true,aaj]at h
        obtain⟨H,h,rfl⟩:=h
        rcases aaS.1 hm with e |hm
        ·cases e;exact .inr ⟨hb,.inr (.inr (.inr (.inr ⟨s,F,hs,aaP⟩)))⟩
        ·exact(fm l H h o i hm).imp id (λ⟨q1,q2⟩=>⟨q1,q2.more⟩)
      ·cases h
theorem qJ{K:KT}{b:Nat}:∀{ts:List iF} {c:Bool} {t:Nat} {g:Option (Nat×Bool)},jT K b ts->(c,t,g)∈ts->
  match c,g with |true,none=>gM (K.get t) b |true,some (d,want)=>Ay (K.get d) want (gM (K.get t) b) |false,_=>zN (K.get t)
 |(c',t',F)::ts,c,t,g,h,hm=>by
  rcases aaS.1 hm with e |hm
  ·cases e
   cases c' with
   |false=>exact h.1
   |true=>
    cases F with
    |none=>exact h.1
    |some p=>obtain⟨d,want⟩:=p;exact h.1
  ·have H:jT K b ts:=by
    cases c' with
    |false=>exact h.2
    |true=>
     cases F with
     |none=>exact h.2
     |some p=>obtain⟨d,want⟩:=p;exact h.2
   exact qJ H hm
theorem Hg{ops:Array Oper}{j b:Nat}{K:KT}{T:Tr aed}{ts:List iF}(h:DD ops j=some ts)(ha:jT K b ts)(hk:Kn K T):lQ ops j b T=true:=by
 unfold DD at h;unfold lQ;refine aay.2 λx hx=>?_;obtain⟨o,i⟩:=x;dsimp only;rcases fm _ _ h o i hx with h1 |⟨h1,H⟩;·rw[h1];rfl
 rcases H with⟨t,H⟩ |⟨t,y,H⟩ |⟨t,s,g,H,h3,h4,h5⟩ |H |⟨s,H,h3,h5⟩;·rw[h1,H];simp
 ·rw[h1,H];simp
 ·have h3:(ops.toList.zipIdx.all λ(q,k)=> !(Nat.ble i k && Nat.blt k j && q.dst==some s))=true:=h3;have a0:=qJ ha h5
  have d0:gM (K.get s) b->∃a:Addr,gn T s=.pointer (some a)/\(a.block==b)=false:=λF=>by
   unfold gM at F;split at F
   ·rename_i a hg;exact⟨a,by simp only[gn,hk s _ hg,abN,KV.val],by simpa using F⟩
   exact F.elim
  rcases h4 with⟨h4,rfl⟩ |⟨q,want,d,h4,h6,h7,rfl⟩
  ·obtain⟨a,e,b0⟩:=d0 a0;rw[h1,H];dsimp only;rw[h3,h4,e];dsimp only;rw[b0];simp
  have F:Ay (K.get d) want (gM (K.get s) b):=a0;have h7:(ops.toList.zipIdx.all λ(q,k)=> !(Nat.ble i k && Nat.blt k j && q.dst==some d))=true:=h7
  have hw:bV ops T o=false\/gM (K.get s) b:=by
   unfold bV;rw[h4];dsimp only;rw[h6];dsimp only;unfold Ay at F;split at F
   ·rename_i b' hg
    have e:gn T d=.bool b':=by simp only[gn,hk d _ hg,abN,KV.val]
    rw[e]
    dsimp only
    cases e0:b'==want with
    |false=>exact .inl rfl
    |true=>rw[e0]at F;exact .inr F
   ·rename_i hg;have e:gn T d=undef:=by simp only[gn,hk d _ hg,abN,KV.val]
    rw[e];exact .inl rfl
   exact F.elim
  rcases hw with hw |F
  ·rw[h1,H];dsimp only;rw[h3,hw,h4];dsimp only;rw[h6];dsimp only;rw[h7];simp
  obtain⟨a,e,b0⟩:=d0 F;rw[h1,H];dsimp only;rw[h3,h4,e];dsimp only;rw[h6];dsimp only;rw[h7,b0];simp
 ·have:∃c,o.op=.call c:=by cases ho:o.op <;>rw[ho]at H <;>first |exact⟨_,rfl⟩ |cases H
  obtain⟨c,hc⟩:=this;rw[h1,hc];rw[hc]at H;dsimp only;rw[H];simp
 have:∃c,o.op=.call c:=by cases ho:o.op <;>rw[ho]at H <;>first |exact⟨_,rfl⟩ |cases H
 obtain⟨c,hc⟩:=this;have h3:(ops.toList.zipIdx.all λ(q,k)=> !(Nat.ble i k && Nat.blt k j && q.dst==some s))=true:=h3;have F:zN (K.get s):=qJ ha h5;rw[h1,hc];rw[hc]at H;dsimp only;rw[H];dsimp only;rw[h3]
 have g0:∀r,gn T s≠.map r:=by
  intro r hr
  unfold zN at F
  cases hg:K.get s with
  |none=>rw[hg]at F;exact F.elim
  |some k=>
   have e2:gn T s=k.val:=by simp only[gn,hk s _ hg,abN]
   rw[hg]at F
   cases k with
   |u=>rw[hr]at e2;cases e2
   |v x=>rw[hr]at e2;have e2:Value.map r=x:=e2;subst e2;exact F.elim
 cases hq:gn T s <;>first |exact absurd hq (g0 _) |simp
theorem ta{o:Op}{br:Bool}{pt:Option (List iF)}{K:KT}{T:Tr aed}{m:M}{lo:Nat}{P:aed->M->Nat->Prop}{v:aed}{m1:M}{f:M->Option (aed×M)}
  (F:∀n m,dt o E (bO E X n) T m=f m) (hl:bQ m f) (h1:f (m.wl m.n)=some (v,m1)) (H:Pr br (m.n<=m1.low) (P v m1 (min lo m1.low))):Qi E X o br pt K T m lo P:=by obtain⟨hc,H⟩:=uD.1 H;refine⟨v,m1,m1.low,H,hl.IL _ h1,λhb=> .inl (hc hb),0,λn _ l a0=>?_⟩;rw[F,hl.eq l a0,h1];rfl
theorem sq{o:Op}{br:Bool}{pt:Option (List iF)}{K:KT}{T:Tr aed}{m:M}{lo:Nat}{P:aed->M->Nat->Prop}(h:QF E (aI E X) o br pt K m lo P)(hk:Kn K T)(H:lo<=m.n):Qi E X o br pt K T m lo P:=by
 cases o <;>dsimp only[QF]at h
 case move x=>obtain⟨x',hx,h⟩:=aZ.1 h;exact .bH H h λn l=>by simp only[dt,zK,bd hk hx]
 case assign x=>obtain⟨x',hx,h⟩:=aZ.1 h;exact .bH H h λn l=>by simp only[dt,zK,bd hk hx]
 case pick c a b=>
  obtain⟨c',hc,h⟩:=aZ.1 h
  obtain⟨q,rfl,h⟩:=uz.1 h
  cases q with
  |true=>obtain⟨x',hx,h⟩:=aZ.1 h;exact .bH H h λn l=>by simp only[dt,nW,bd hk hc,bd hk hx,cond_true]
  |false=>obtain⟨x',hx,h⟩:=aZ.1 h;exact .bH H h λn l=>by simp only[dt,nW,bd hk hc,bd hk hx,cond_false]
 case alloc t=>obtain⟨z,hz,h⟩:=aZ.1 h;exact .push H h (aca _) λn l=>by simp only[dt,rp,hz];rfl
 case box t x=>obtain⟨x',hx,h⟩:=aZ.1 h;exact .push H h (aca _) λn l=>by simp only[dt,Kz,bd hk hx];rfl
 case build t ps=>obtain⟨g0,hp,h⟩:=aZ.1 h;obtain⟨v,F,h⟩:=aZ.1 h;exact .bH H h λn l=>by simp only[dt,oV,qA hk hp,F]
 case buildSlice t k ps=>obtain⟨g0,hp,h⟩:=aZ.1 h;obtain⟨v,m1,F,h⟩:=lH.1 h;exact .push H h (oH F 0).2 λn l=>by simp only[dt,mW,qA hk hp,(oH F l).1]
 case insert t x k y=>
  obtain⟨x',hx,h⟩:=aZ.1 h;obtain⟨k',a0,h⟩:=aZ.1 h;obtain⟨y',hy,h⟩:=aZ.1 h;obtain⟨m1,b,F,hQ⟩:=lH.1 h;obtain⟨hc,hP⟩:=uD.1 hQ;unfold fN at F;split at F
  ·rename_i r;split at F
   ·rename_i m2 hu;cases F;refine⟨undef,m1,b,hP,by rw[(ju hu 0).2];exact Ξ _,λhb=> .inl (hc hb),0,λn _ l hl=>?_⟩;simp only[dt,fo,bd hk hx,bd hk a0,bd hk hy,(ju hu l).1]
   cases F
  cases F
 case load t a=>
  obtain⟨a',ha,h⟩:=aZ.1 h;obtain⟨v,F,hP⟩:=aZ.1 h;unfold ah at F;split at F;·exact .bH H hP λn l=>by simp only[dt,qi,bd hk ha,vX,F]
  cases F
 case store t a x=>
  obtain⟨a',ha,h⟩:=aZ.1 h;obtain⟨x',hx,h⟩:=aZ.1 h;obtain⟨m1,b,F,hQ⟩:=lH.1 h;obtain⟨hc,hP⟩:=MX.1 hQ;unfold aA at F;split at F
  ·rename_i ad _;split at F
   ·rename_i m2 hu;cases F;refine⟨undef,m1,ad.block,hP,by rw[(tk hu 0).2];exact Ξ _,λhb=>(hc hb).imp id (λ⟨ts,h1,h2⟩=>⟨ts,h1,h2,by simp only[fM,bd hk ha]⟩),0,λn _ l hl=>?_⟩;simp only[dt,mV,bd hk ha,bd hk hx,(tk hu l).1]
   cases F
  cases F
 case nilCheck x=>
  obtain⟨x',hx,h⟩:=aZ.1 h;obtain⟨v,F,h⟩:=aZ.1 h;unfold cP at F;split at F;·cases F;exact .bH H h λn l=>by simp only[dt,fS,bd hk hx]
  ·cases F;exact .bH H h λn l=>by simp only[dt,fS,bd hk hx]
  cases F
 case binOp op t x y _=>obtain⟨x',hx,h⟩:=aZ.1 h;obtain⟨y',hy,h⟩:=aZ.1 h;obtain⟨v,F,h⟩:=aZ.1 h;exact .bH H h λn l=>by simp only[dt,yQ,bd hk hx,bd hk hy,F]
 case unOp op t x=>obtain⟨x',hx,h⟩:=aZ.1 h;obtain⟨v,F,h⟩:=aZ.1 h;exact .bH H h λn l=>by simp only[dt,Hm,bd hk hx,F]
 case convert s d x=>obtain⟨x',hx,h⟩:=aZ.1 h;obtain⟨v,F,h⟩:=aZ.1 h;exact .bH H h λn l=>by simp only[dt,DK,bd hk hx,Tk,F]
 case makeFunc f a b=>
  obtain⟨a',ha,h⟩:=aZ.1 h;obtain⟨b',hb,h⟩:=aZ.1 h;split at h;·exact .bH H h λn l=>by simp only[dt,ia,fZ hk ha,fZ hk hb]
  exact h.elim
 case makeMap t r=>
  cases r with
  |none=>exact .push (m1:=m.push (.map [] 0)) H h (aca _) λn l=>by simp only[dt,oS];rfl
  |some r=>exact h.elim
 case makeSlice t x y=>obtain⟨x',hx,h⟩:=aZ.1 h;obtain⟨y',hy,h⟩:=aZ.1 h;obtain⟨v,m1,F,h⟩:=lH.1 h;exact .push H h (pK F 0).2 λn l=>by simp only[dt,tq,bd hk hx,bd hk hy,(pK F l).1]
 case slice t x a b c=>obtain⟨x',hx,h⟩:=aZ.1 h;obtain⟨a',ha,h⟩:=aZ.1 h;obtain⟨b',hb,h⟩:=aZ.1 h;obtain⟨c',hc,h⟩:=aZ.1 h;obtain⟨v,F,h⟩:=aZ.1 h;exact .bH H h λn l=>by simp only[dt,zJ,bd hk hx,sV hk ha,sV hk hb,sV hk hc,GQ,F]
 case fieldAddr s x f=>obtain⟨x',hx,h⟩:=aZ.1 h;obtain⟨v,F,h⟩:=aZ.1 h;exact .bH H h λn l=>by simp only[dt,iA,bd hk hx,F]
 case field t x f=>obtain⟨x',hx,h⟩:=aZ.1 h;obtain⟨v,F,h⟩:=aZ.1 h;exact .bH H h λn l=>by simp only[dt,oU,bd hk hx,F]
 case indexAddr t x i=>obtain⟨x',hx,h⟩:=aZ.1 h;obtain⟨i',hi,h⟩:=aZ.1 h;obtain⟨v,F,h⟩:=aZ.1 h;exact .bH H h λn l=>by simp only[dt,iz,bd hk hx,bd hk hi,F]
 case index t x i=>obtain⟨x',hx,h⟩:=aZ.1 h;obtain⟨i',hi,h⟩:=aZ.1 h;obtain⟨v,F,h⟩:=aZ.1 h;exact .bH H h λn l=>by simp only[dt,oT,bd hk hx,bd hk hi,F]
 case lookup t x i ok=>obtain⟨x',hx,h⟩:=aZ.1 h;obtain⟨i',hi,h⟩:=aZ.1 h;obtain⟨v,F,h⟩:=aZ.1 h;exact .bH H h λn l=>by simp only[dt,vO,bd hk hx,bd hk hi,DS,F]
 case mapUpdate t x k y=>
  obtain⟨x',hx,h⟩:=aZ.1 h;obtain⟨k',a0,h⟩:=aZ.1 h;obtain⟨y',hy,h⟩:=aZ.1 h;obtain⟨m1,b,F,hQ⟩:=lH.1 h;obtain⟨hc,hP⟩:=uD.1 hQ;unfold fN at F;split at F
  ·rename_i r;split at F
   ·rename_i m2 hu;cases F;refine⟨undef,m1,b,hP,by rw[(ju hu 0).2];exact Ξ _,λhb=> .inl (hc hb),0,λn _ l hl=>?_⟩;simp only[dt,fo,bd hk hx,bd hk a0,bd hk hy,(ju hu l).1]
   cases F
  cases F
 case mapEntry t x k=>obtain⟨x',hx,h⟩:=aZ.1 h;obtain⟨k',a0,h⟩:=aZ.1 h;obtain⟨v,m1,F,h⟩:=lH.1 h;exact ta (f:=λm=>ez E m t x' k') (λn m=>by simp only[dt,qh,bd hk hx,bd hk a0]) xJ F h
 case entryStore t x s y=>obtain⟨x',hx,h⟩:=aZ.1 h;obtain⟨s',h0,h⟩:=aZ.1 h;obtain⟨y',hy,h⟩:=aZ.1 h;obtain⟨m1,F,h⟩:=aZ.1 h;refine ta (v:=undef) (m1:=m1) (f:=λm=>(dv m x' s' y').map λm=>(undef,m)) (λn m=>?_) ua (by rw[F];rfl) h;simp only[dt,kc,bd hk hx,bd hk h0,bd hk hy];cases dv m x' s' y' <;>rfl
 case typeAssert x s t ok=>
  obtain⟨x',hx,h⟩:=aZ.1 h;obtain⟨v,F,hP⟩:=aZ.1 h;refine .bH H hP λn l=>?_;show nZ x t ok E (bO E X n) T (m.wl l)=_;unfold nZ;rw[bd hk hx];unfold oI at F;split at F
  ·dsimp only
   cases ok with
   |false=>cases F
   |true=>
    simp only[cond_true]at F⊢
    cases hz:eZ E t with
    |none=>rw[hz]at F;cases F
    |some z=>rw[hz]at F;cases F;rfl
  ·rename_i t' cs
   dsimp only
   cases hc:(ok && (Nat.beq t' t && cs.toList.isEmpty))with
   |false=>rw[hc]at F;cases F
   |true=>
    rw[hc]at F;simp only[cond_true]at F⊢;split at F
    ·rename_i ti i0
     rw[i0]
     dsimp only
     cases hd:ti.d with
     |struct fs=>rw[hd]at F;cases F;rfl
     |_=>rw[hd]at F;cases F
    cases F
  cases F
 case extract x i=>
  obtain⟨x',hx,h⟩:=aZ.1 h;obtain⟨v,F,hP⟩:=aZ.1 h;unfold bF at F;split at F;·exact .bH H hP λn l=>by simp only[dt,jg,bd hk hx,F]
  cases F
 case call c=>
  split at h
  ·rename_i f hf;obtain⟨f',h1,h⟩:=aZ.1 h;obtain⟨g,fi,ca,rfl,h⟩:=od.1 h;obtain⟨args,h2,v,m1,b,⟨d0,_,n0,hc⟩,h⟩:=aZ.1 h
   have hh:(br=true->m.n<=b\/∃ts,pt=some ts/\jT K b ts/\fM m T (.call c)=some b)/\P v m1 (min lo b):=by
    cases hs:EZ c with
    |false=>rw[hs,cond_false]at h;obtain⟨b0,hP⟩:=uD.1 h;exact⟨λhb=> .inl (b0 hb),hP⟩
    |true=>rw[hs,cond_true]at h;obtain⟨b0,hP⟩:=MW.1 h;refine⟨λhb=>(b0 hb).imp id λ⟨ts,x1,x2,x3⟩=>⟨ts,x1,x2,?_⟩,hP⟩;have hz:FV m args=some b:=x3;exact xT hk hs h2 hz
   obtain⟨b0,hP⟩:=hh;refine⟨v,m1,b,hP,d0,b0,n0,λn hn l hl=>?_⟩;simp only[dt,kM,hf,bd hk h1,fZ hk h2,hc n hn l hl]
  ·rename_i b hb;obtain⟨args,h2,h⟩:=aZ.1 h;have e0:∀n m,dt (.call c) E (bO E X n) T m=av E m b c.argTypes.toList args:=λn m=>by simp only[dt,kM,hb,fZ hk h2]
   have bH:(b=.len\/b=.cap\/b=.min\/b=.max)->(aT (av E m b c.argTypes.toList args) λv _=>P v m lo)->Qi E X (.call c) br pt K T m lo P:=λj0 h=>by obtain⟨v,m1,F,h⟩:=lH.1 h;exact .bH H h λn l=>by rw[e0];exact xR j0 F l
   have gen:(aT (av E (m.wl m.n) b c.argTypes.toList args) λv m1=>Pr br (m.n<=m1.low) (P v m1 (min lo m1.low)))->Qi E X (.call c) br pt K T m lo P:=λh=>by obtain⟨v,m1,F,h⟩:=lH.1 h;exact ta e0 As F h
   unfold Uw at h;split at h;·exact bH (.inl rfl) h
   ·exact bH (.inr (.inl rfl)) h
   ·exact bH (.inr (.inr (.inl rfl))) h
   ·exact bH (.inr (.inr (.inr rfl))) h
   exact gen h
  exact h.elim
 all_goals exact h.elim
theorem mN{ops:Array Oper}{T:Tr aed}{o:Oper}{b:Bool}(h:bV ops T o=b){m:M}:bV ops (Fr.T ⟨T,m⟩) o=b:=h
theorem lv{ops:Array Oper}{K:KT}{T:Tr aed}{o:Oper}{P S:KT->Prop}(h:yA ops K o P S)(H:Kn K T):∃K',Kn K' T/\((bV ops T o=true/\P K')\/(bV ops T o=false/\S K')):=by
 unfold yA at h;unfold bV;split at h
 ·rename_i hg;rw[hg];exact⟨K,H,.inl ⟨rfl,h⟩⟩
 rename_i j want hg;rw[hg];dsimp only;split at h
 ·rename_i d hd;rw[hd];dsimp only;split at h
  ·rename_i v hv
   obtain⟨b,rfl,h⟩:=uz.1 h
   have e:gn T d=.bool b:=by simp only[gn,H d _ hv,abN,KV.val]
   rw[e]
   have F:=H.again hv
   cases b with
   |true=>
    cases want with
    |true=>exact⟨_,F,.inl ⟨rfl,h⟩⟩
    |false=>exact⟨_,F,.inr ⟨rfl,h⟩⟩
   |false=>
    cases want with
    |true=>exact⟨_,F,.inr ⟨rfl,h⟩⟩
    |false=>exact⟨_,F,.inl ⟨rfl,h⟩⟩
  ·rename_i hv;have e:gn T d=undef:=by simp only[gn,H d _ hv,abN,KV.val]
   rw[e];exact⟨K,H,.inr ⟨rfl,h⟩⟩
  exact h.elim
 rename_i hd;rw[hd];exact⟨K,H,.inr ⟨rfl,h⟩⟩
theorem pS{d:Bool}{ops:Array Oper}:∀(l:List Oper) (j:Nat) (s:St) (P:St->Prop),IV E (aI E X) d ops l j s P->∀T,Kn s.K T->s.lo<=s.m.n->
  ∃H T',P H/\Kn H.K T'/\s.m.n<=H.m.n/\H.lo<=H.m.n/\∃n0,∀n,n0<=n->(bif d then fO E (bO E X n) ops l j ⟨T,s.m.wl s.lo⟩else vM E (bO E X n) ops l ⟨T,s.m.wl s.lo⟩)=some ⟨T',H.m.wl H.lo⟩
 |[],j,s,P,h,T,hk,a0=>⟨s,T,h,hk,Ξ _,a0,0,λn _=>by cases d <;>rfl⟩
 |o::rest,j,s,P,h,T,hk,a0=>by
  unfold IV at h
  obtain⟨K1,hk,⟨hw,h⟩ |⟨hw,h⟩⟩:=lv h hk
  ·obtain⟨v,m1,w,d0,k0,i0,n1,h0⟩:=sq h hk a0
   obtain⟨H,T',hP,e0,F,b0,n2,hr⟩:=pS rest (j+1) _ P d0 (put T o.dst v) (hk.put _ (.v v)) (by show min s.lo w<=m1.n;omega)
   dsimp only at F hr
   refine⟨H,T',hP,e0,by omega,b0,max n1 n2,λn hn=>?_⟩
   have e2:=hr n (by omega)
   cases d with
   |false=>
    rw[cond_false]at e2⊢
    rw[kr,mN hw]
    dsimp only[cond_true]
    rw[h0 n (by omega) s.lo a0]
    exact e2
   |true=>
    rw[cond_true]at e2⊢
    rw[fA,mN hw]
    dsimp only[cond_true]
    have j0:dt o.op E (bO E X n) T {s.m.wl s.lo with low:=(s.m.wl s.lo).n}=some (v,m1.wl (min s.m.n w)):=h0 n (by omega) s.m.n (Ξ _)
    rw[j0]
    dsimp only
    have g0:(Nat.ble (s.m.wl s.lo).n (m1.wl (min s.m.n w)).low ||(eL ops j ||vu ops j (s.m.wl s.lo) T o.op))=true:=by
     cases hb:eL ops j with
     |true=>rw[aaM,aaV]
     |false=>
      rcases i0 (by rw[hb];rfl)with this |⟨ts,h1,h2,h3⟩
      ·have:Nat.ble (s.m.wl s.lo).n (m1.wl (min s.m.n w)).low=true:=aa3 (by show s.m.n<=min s.m.n w;omega)
       rw[this];rfl
      ·rw[hb]at h1
       have:vu ops j (s.m.wl s.lo) T o.op=true:=by
        unfold vu
        have h3:fM (s.m.wl s.lo) T o.op=some w:=h3
        rw[h3]
        exact Hg h1 h2 hk
       rw[this]
       simp
    rw[g0]
    have e3:m1.wl (min s.lo w)={m1.wl (min s.m.n w)with low:=min (s.m.wl s.lo).low (m1.wl (min s.m.n w)).low}:=by
     show m1.wl (min s.lo w)=m1.wl (min s.lo (min s.m.n w))
     congr 1
     omega
    rw[e3]at e2
    exact e2
  ·obtain⟨H,T',hP,e0,F,b0,n2,hr⟩:=pS rest (j+1) _ P h (put T o.dst undef) (hk.put _ .u) a0
   refine⟨H,T',hP,e0,F,b0,n2,λn hn=>?_⟩
   have e2:=hr n hn
   cases d with
   |false=>
    rw[cond_false]at e2⊢
    rw[kr,mN hw]
    exact e2
   |true=>
    rw[cond_true]at e2⊢
    rw[fA,mN hw]
    exact e2
theorem V.mono{c:Code}{s:St}{Q R:Ex->St->Prop}(h:V E X c s Q)(H:∀e s,Q e s->R e s):V E X c s R:=λT hk F=>by
 obtain⟨e,s',T',h1,h2⟩:=h T hk F
 exact⟨e,s',T',H _ _ h1,h2⟩
theorem V.seq{a b:Code}{s:St}{Q:Ex->St->Prop}(h:V E X a s λe s=>e.IK (V E X b s Q) (Q e s)):V E X (.seq a b) s Q:=λT hk e0=>by
 obtain⟨e,s1,T1,h1,H,b0,F,n1,a0⟩:=h T hk e0
 cases e with
 |normal=>
  obtain⟨e,s2,T2,h2,g0,i0,d0,n2,h0⟩:=h1 T1 H F
  exact⟨e,s2,T2,h2,g0,by omega,d0,max n1 n2,λn hn=>by simp only[bz,a0 n (by omega),h0 n (by omega)]⟩
 |exit id=>exact⟨_,s1,T1,h1,H,b0,F,n1,λn hn=>by simp only[bz,a0 n hn]⟩
 |ret=>exact⟨_,s1,T1,h1,H,b0,F,n1,λn hn=>by simp only[bz,a0 n hn]⟩
theorem V.UL{c:Code}{s:St}{Q:Ex->St->Prop}{γ:Type}(μ:γ->Nat)(A:γ->Tr aed->M->Nat->Prop)(g0:γ)
  (h0:∀T,Kn s.K T->A g0 T s.m s.lo)
  (b0:∀g T m lo,A g T m lo->lo<=m.n->∃e H T',(e.IK (∃g',μ g' < μ g/\A g' T' H.m H.lo) (Q e H))/\Kn H.K T'/\m.n<=H.m.n/\H.lo<=H.m.n/\∃n0,∀n,n0<=n->
   bz E (bO E X n) n c ⟨T,m.wl lo⟩=some (e,⟨T',H.m.wl H.lo⟩)):
  V E X (.loop c) s Q:=by
 have key:∀k g,μ g<=k->∀T m lo,A g T m lo->lo<=m.n->∃e H T',Q e H/\Kn H.K T'/\m.n<=H.m.n/\H.lo<=H.m.n/\∃n0,∀n,n0<=n->∀j,k+1<=j->
   jC (bz E (bO E X n) n c) j ⟨T,m.wl lo⟩=some (e,⟨T',H.m.wl H.lo⟩):=by
  intro k
  induction k with
  |zero=>
   intro g hg T m lo hA d0
   obtain⟨e,s1,T1,hQ,e0,a0,F,n1,hr⟩:=b0 g T m lo hA d0
   cases e with
   |normal=>obtain⟨g',k0,_⟩:=hQ;omega
   |exit id=>exact⟨_,s1,T1,hQ,e0,a0,F,n1,λn hn j hj=>by
    obtain⟨j,rfl⟩:∃j',j=j'+1:=⟨j-1,by omega⟩
    simp only[jC,hr n hn]⟩
   |ret=>exact⟨_,s1,T1,hQ,e0,a0,F,n1,λn hn j hj=>by
    obtain⟨j,rfl⟩:∃j',j=j'+1:=⟨j-1,by omega⟩
    simp only[jC,hr n hn]⟩
  |succ k ih=>
   intro g hg T m lo hA d0
   obtain⟨e,s1,T1,hQ,e0,a0,F,n1,hr⟩:=b0 g T m lo hA d0
   cases e with
   |normal=>
    obtain⟨g',k0,l0⟩:=hQ;obtain⟨e,s2,T2,o0,q0,r0,i0,n2,s0⟩:=ih g' (by omega) T1 s1.m s1.lo l0 F;refine⟨e,s2,T2,o0,q0,abD a0 r0,i0,max n1 n2,λn hn j hj=>?_⟩;obtain⟨j,rfl⟩:∃j',j=j'+1:=⟨j-1,by omega⟩
    simp only[jC,hr n (by omega),s0 n (by omega) j (by omega)]
   |exit id=>exact⟨_,s1,T1,hQ,e0,a0,F,n1,λn hn j hj=>by
    obtain⟨j,rfl⟩:∃j',j=j'+1:=⟨j-1,by omega⟩
    simp only[jC,hr n hn]⟩
   |ret=>exact⟨_,s1,T1,hQ,e0,a0,F,n1,λn hn j hj=>by
    obtain⟨j,rfl⟩:∃j',j=j'+1:=⟨j-1,by omega⟩
    simp only[jC,hr n hn]⟩
 intro T hk d0;obtain⟨e,H,T',hQ,u0,hn,j0,n0,hr⟩:=key (μ g0) g0 (Ξ _) T s.m s.lo (h0 T hk) d0;exact⟨e,H,T',hQ,u0,hn,j0,max n0 (μ g0+1),λn hn=>by simp only[bz,hr n (by omega) n (by omega)]⟩
theorem ko(T:Tr aed)(dst:Option Tmp)(v:aed)(t:Nat)(h:∀d,dst=some d->d≠t):(put T dst v).get t=T.get t:=by
 cases dst with
 |none=>rfl
 |some d=>simp only[put,Tr.cD];rw[aaa (λe=>h d rfl e.symm)]
theorem qf{call:aG}{ops:Array Oper}{t:Nat}:∀(l:List Oper) (fr F:Fr),vM E call ops l fr=some F->(∀o∈l,∀d,o.dst=some d->d≠t)->F.T.get t=fr.T.get t
 |[],fr,F,h,_=>by cases h;rfl
 |o::rest,fr,F,h,hd=>by
  have hr:=λo' H=>hd o' (aaZ _ H)
  have h0:=hd o aaP
  rw[kr]at h
  cases hw:bV ops fr.T o with
  |true=>
   rw[hw,cond_true]at h
   split at h
   ·rw[qf rest _ _ h hr];exact ko _ _ _ _ h0
   ·cases h
  |false=>
   rw[hw,cond_false]at h
   rw[qf rest _ _ h hr];exact ko _ _ _ _ h0
theorem oD{call:aG}{ops:Array Oper}{t:Nat}:∀(l:List Oper) (j:Nat) (fr F:Fr),fO E call ops l j fr=some F->(∀o∈l,∀d,o.dst=some d->d≠t)->F.T.get t=fr.T.get t
 |[],j,fr,F,h,_=>by cases h;rfl
 |o::rest,j,fr,F,h,hd=>by
  have hr:=λo' H=>hd o' (aaZ _ H)
  have h0:=hd o aaP
  rw[fA]at h
  cases hw:bV ops fr.T o with
  |true=>
   rw[hw,cond_true]at h
   split at h
   ·rename_i v m _
    cases hb:(Nat.ble fr.m.n m.low ||(eL ops j ||vu ops j fr.m fr.T o.op))with
    |true=>
     rw[hb,cond_true]at h
     rw[oD rest _ _ _ h hr];exact ko _ _ _ _ h0
    |false=>rw[hb,cond_false]at h;cases h
   ·cases h
  |false=>
   rw[hw,cond_false]at h
   rw[oD rest _ _ _ h hr];exact ko _ _ _ _ h0
theorem tt{body:Fr->Option (Ex×Fr)}{t:Nat}(H:∀fr e F,body fr=some (e,F)->F.T.get t=fr.T.get t):∀(n:Nat) (fr:Fr) (e:Ex) (F:Fr),jC body n fr=some (e,F)->F.T.get t=fr.T.get t
 |0,_,_,_,h=>by cases h
 |n+1,fr,e,F,h=>by
  unfold jC at h
  split at h
  ·rename_i a0 h1
   rw[tt H n _ _ _ h,H _ _ _ h1]
  ·exact H _ _ _ h
theorem dM{call:aG}{n t:Nat}:∀(c:Code) (fr:Fr) (e:Ex) (F:Fr),bz E call n c fr=some (e,F)->t∉assigned c->F.T.get t=fr.T.get t
 |.skip,fr,e,F,h,_=>by cases h;rfl
 |.label _,fr,e,F,h,_=>by cases h;rfl
 |.exit id,fr,e,F,h,_=>by cases h;rfl
 |.ret,fr,e,F,h,_=>by cases h;rfl
 |.goto _,fr,e,F,h,_=>by cases h
 |.refuse _,fr,e,F,h,_=>by cases h
 |.scope c,fr,e,F,h,H=>by
  simp only[bz]at h
  exact dM c _ _ _ h H
 |.region id ops d,fr,e,F,h,H=>by
  have hd:∀o∈ops.toList,∀d,o.dst=some d->d≠t:=λo ho d hd he=>H (acL.2 ⟨o,ho,by rw[hd,he]⟩)
  cases d with
  |true=>
   simp only[bz,cond_true]at h
   cases hq:fO E call ops ops.toList 0 fr with
   |none=>rw[hq]at h;cases h
   |some a0=>rw[hq]at h;cases h;exact oD _ _ _ _ hq hd
  |false=>
   simp only[bz,cond_false]at h
   cases hq:vM E call ops ops.toList fr with
   |none=>rw[hq]at h;cases h
   |some a0=>rw[hq]at h;cases h;exact qf _ _ _ hq hd
 |.seq a b,fr,e,F,h,H=>by
  simp only[assigned,aaR,not_or]at H
  simp only[bz]at h
  split at h
  ·rename_i a0 h1
   rw[dM b _ _ _ h H.2,dM a _ _ _ h1 H.1]
  ·exact dM a _ _ _ h H.1
 |.cond c x y,fr,e,F,h,H=>by
  simp only[assigned,aaR,not_or]at H
  simp only[bz]at h
  split at h
  ·rename_i b _
   cases b with
   |true=>exact dM x _ _ _ h H.1
   |false=>exact dM y _ _ _ h H.2
  ·cases h
 |.block id c,fr,e,F,h,H=>by
  simp only[bz]at h
  split at h
  ·rename_i b0 a0 h1
   have:=dM c _ _ _ h1 H
   cases hb:Nat.beq b0 id with
   |true=>rw[hb]at h;cases h;exact this
   |false=>rw[hb]at h;cases h;exact this
  ·exact dM c _ _ _ h H
 |.loop c,fr,e,F,h,H=>by
  simp only[bz]at h
  exact tt (λfr e F h=>dM c fr e F h H) _ _ _ _ h
 |.rangeFunc g ps a b,fr,e,F,h,H=>by
  simp only[bz]at h
  split at h
  ·split at h
   ·split at h
    ·split at h
     ·cases h
     ·cases h;rfl
    ·cases h
   ·cases h
  ·cases h
theorem ig:∀(ts:List Nat) (K:KT) {t:Nat} {k:KV},(forget K ts).get t=some k->t∉ts/\K.get t=some k
 |[],K,t,k,h=>⟨by simp,h⟩
 |a::ts,K,t,k,h=>by
  obtain⟨h1,F⟩:=ig ts (K.del a) h
  rw[KT.OR]at F
  split at F
  ·cases F
  ·rename_i H
   exact⟨by simp only[aaS,not_or];exact⟨H,h1⟩,F⟩
end
end
end Go.D
