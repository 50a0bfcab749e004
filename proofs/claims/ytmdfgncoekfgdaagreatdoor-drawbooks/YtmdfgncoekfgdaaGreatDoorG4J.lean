/- Calls: what D returns, the model returns. -/
import Derived.Test.YtmdfgncoekfgdaaGreatDoorG3J
namespace Go.D
open Go
section
variable {E:Env} {P:Program} {call:aF} {nt:Nat} {σ σ':Sg} {m m':M} {w w':World} {a:Act}
theorem zY:∀(l:List Value) (i t:Nat),gR (enter l i) t=if t < i then undef else(l[t-i]?).getD undef
 |[],i,t=>by
  unfold enter gR
  rw[Tr.tC]
  by_cases h:t < i <;>simp[h]
 |v::l,i,t=>by
  unfold enter
  have ih:=zY l (i+1) t
  unfold gR at ih⊢
  rw[Tr.bH]
  by_cases h:t=i
  ·subst h;simp
  ·rw[if_neg h,ih]
   by_cases h1:t < i
   ·rw[if_pos (by omega),if_pos h1]
   ·rw[if_neg (by omega),if_neg h1]
    have:t-i=(t-(i+1))+1:=by omega
    rw[this]
    simp
theorem qA{args:List Value}{args':Array Value}(h:aT σ args args'.toList)(hn:args.length<=nt):
  cY σ (enter args 0) {tmps:=args'++Array.replicate (nt-args'.size) undef,defers:=[]} nt:=by
 have hl:=h.1
 simp only[Array.length_toList]at hl
 refine⟨by simp;omega,fun t ht=>?_⟩
 rw[zY,if_neg (by omega),Nat.sub_zero]
 simp only[Act.eval]
 by_cases hta:t < args'.size
 ·have h1:args[t]?=some args[t]:=by simp[show t < args.length by omega]
  obtain⟨u',hu,hr⟩:=h.get h1
  have hu':args'[t]?=some u':=by simpa using hu
  rw[h1,Option.getD_some,Array.getD_eq_getD_getElem?,Array.getElem?_append_left hta,hu']
  exact hr
 ·rw[List.getElem?_eq_none (by omega),Option.getD_none,Array.getD_eq_getD_getElem?,Array.getElem?_append_right (by omega),Array.getElem?_replicate]
  split <;>exact aJ.undef
theorem rj(hE:E.OK P)(hs:dB P σ m w){T:Tr Value}(hf:cY σ T a nt){r:ResultVar}(hr:(match r with |.tmp t=>Nat.blt t nt |.cell a _=>Nat.blt a nt)=true){v:Value}(h:jc E T m r=some v):
  ∃v',((match r with |.tmp t=>pure (a.tmps.getD t undef) |.cell x t=>do Go.loadVar t (<-asAddr (a.tmps.getD x undef))):Sem Value).run P w=.ok v' w/\aJ σ v v':=by
 unfold jc at h
 cases r with
 |tmp t=>
  cases h
  have hr:Nat.blt t nt=true:=hr
  rw[dQ]at hr
  exact⟨_,rfl,hf.2 t (by simpa using hr)⟩
 |cell x t=>
  have hr:Nat.blt x nt=true:=hr
  rw[dQ]at hr
  have hx:=hf.2 x (by simpa using hr)
  dsimp only at h
  split at h
  ·rename_i ad had
   rw[had]at hx
   obtain⟨i,hi,_,he⟩:=hx.dO
   have he:a.tmps.getD x undef=_:=he
   obtain⟨v',h1,h2,_⟩:=ni (w:=w) hE hs hi h
   refine⟨v',?_,h2⟩
   dsimp only
   rw[he,Sem.run_bind]
   simp only[asAddr,Sem.run_pure,Result.andThen_ok]
   exact h1
  ·cases h
theorem nf(hE:E.OK P)(hs:dB P σ m w){T:Tr Value}(hf:cY σ T a nt):∀(rs:List ResultVar) (vs:List Value),(∀r∈rs,(match r with |.tmp t=>Nat.blt t nt |.cell a _=>Nat.blt a nt)=true)->eQ E T m rs=some vs->
  ∃vs':List Value,(rs.mapM (m:=Sem) fun |.tmp t=>pure (a.tmps.getD t undef) |.cell x t=>do Go.loadVar t (<-asAddr (a.tmps.getD x undef))).run P w=.ok vs' w/\aT σ vs vs'
 |[],vs,_,h=>by
  simp only[eQ,Option.some.injEq]at h
  subst h
  exact⟨[],rfl,aT.nil⟩
 |r::rs,vs,hr,h=>by
  unfold eQ at h
  cases h1:jc E T m r with
  |none=>rw[h1]at h;simp at h
  |some v=>
   cases h2:eQ E T m rs with
   |none=>rw[h1,h2]at h;simp at h
   |some vs1=>
    rw[h1,h2]at h
    simp only[Option.some.injEq]at h
    subst h
    obtain⟨v',q1,q2⟩:=rj hE hs hf (hr r List.mem_cons_self) h1
    obtain⟨vs',q3,q4⟩:=nf hE hs hf rs vs1 (fun r h=>hr r (List.mem_cons_of_mem _ h)) h2
    refine⟨v'::vs',?_,aT.cons q2 q4⟩
    rw[List.mapM_cons,Sem.run_bind]
    generalize hG:Sem.run P _ w=G
    have hG:G=.ok v' w:=hG.symm.trans q1
    rw[hG,Result.andThen_ok,Sem.run_bind,q3]
    rfl
theorem oK(hE:E.OK P)(hs:dB P σ m w){T:Tr Value}{fn:Func}(hf:cY σ T a nt)(hr:∀r∈fn.results.toList,(match r with |.tmp t=>Nat.blt t nt |.cell a _=>Nat.blt a nt)=true){v:Value}(h:result? E fn T m=some v):
  ∃v',(results fn a.tmps).run P w=.ok v' w/\aJ σ v v':=by
 unfold result? at h
 cases h1:eQ E T m fn.results.toList with
 |none=>rw[h1]at h;simp at h
 |some vs=>
  rw[h1]at h
  obtain⟨vs',q1,q2⟩:=nf hE hs hf fn.results.toList vs hr h1
  refine⟨if h:vs'.toArray.size=1 then vs'.toArray[0]else .tuple vs'.toArray,?_,?_⟩
  ·unfold results
   rw[Array.mapM_eq_mapM_toList]
   rw[Sem.run_bind,Sem.run_map]
   generalize hG:Sem.run P (List.mapM _ _) w=G
   have hG:G=.ok vs' w:=hG.symm.trans q1
   rw[hG]
   rfl
  ·split at h
   ·rename_i v1 hv1
    cases hv1
    cases h
    obtain⟨v',l2,rfl,hv,hl⟩:=q2.cases
    obtain rfl:=hl.nil_eq
    simpa using hv
   ·rename_i vs1 hne hv1
    cases hv1
    cases h
    have hlen:¬vs'.toArray.size=1:=by
     intro hl
     have:vs.length=1:=by rw[q2.1];simpa using hl
     obtain⟨x,rfl⟩:=List.length_eq_one_iff.1 this
     exact hne x rfl
    rw[dif_neg hlen]
    exact q2.tuple
   ·rename_i hv1;cases hv1
theorem Ev.Cf(h:Ev P σ {m with low:=m.n} w σ' m' w'):Ev P σ m w σ' {m' with low:=min m.low m'.low} w' where
 ext:=h.ext
 nG:=h.nG.low _
 low:=Nat.min_le_left _ _
 FE:=h.FE
 hle:=h.hle
 new:=fun b i x y=>by
  obtain⟨h1,h2⟩:=h.new b i x y
  refine⟨h1,h2.imp id ?_⟩
  rintro⟨b0,i0,p,q,r⟩
  exact⟨b0,i0,p,q,by dsimp only;omega⟩
 abs:=fun b x y=>h.abs b (by dsimp only at x;omega) y
 heap:=fun B x y=>h.heap B x fun b i p q=>by have:=y b i p q;dsimp only at this;omega
 os:=h.os
 tape:=h.tape
 output:=h.output
theorem aJ.qT{v v':Value}(h:aJ σ v v')(h0:bY v=true):v'=v:=by
 by_cases hc:gg v=true
 ·exact h.iy hc
 ·cases v with
  |tuple vs=>
   obtain⟨a',rfl,ha⟩:=h.pU
   congr 1
   apply Array.ext'
   apply List.ext_getElem?
   intro j
   cases hj:vs.toList[j]? with
   |none=>exact List.getElem?_eq_none (by rw[<-ha.1];exact List.getElem?_eq_none_iff.1 hj)
   |some u=>
    obtain⟨u',hu,hr⟩:=ha.get hj
    rw[hu,hr.iy (List.all_eq_true.1 h0 u (List.mem_of_getElem? hj))]
  |_=>exact absurd h0 hc
theorem Ev.forget(hs:dB P σ m w)(h:Ev P σ {m with low:=m.n} w σ' m' w')(hl:m.n<=m'.low):Ev P σ m w σ m w':=by
 have hk:∀B,B < w.heap.size->w'.heap[B]?=w.heap[B]?:=fun B hB=>h.heap B hB fun b i p _=>by have:=hs.mV b i p;omega
 have hsz:=h.hle
 refine⟨fun _ _ x=>x,⟨hs.mV,fun b i hb=>(hs.obj b i hb).bw (fun _ _ x=>x) (hk _ (hs.lt b i hb)),fun b i hb=>?_,hs.inj,hs.iG⟩,Nat.le_refl _,Nat.le_refl _,hsz,fun b i x y=>(by rw[x]at y;cases y),fun _ _ _=>rfl,fun B hB _=>hk B hB,h.os,h.tape,h.output⟩
 have:=hs.lt b i hb
 omega
theorem Ev.qG{r:Nat}{o:Obj}(h:Ev P σ m w σ' m' w')(hb:w.heap.size<=r)(hr:∀b i,σ' b=some i->i.bX≠r):Ev P σ m w σ' m' (w'.putObj r o):=by
 have hs:=h.nG
 refine⟨h.ext,⟨hs.mV,fun b i x=>(hs.obj b i x).bw (fun _ _ x=>x) (World.putObj_heap_other (hr b i x)),fun b i x=>by rw[World.putObj_size];exact hs.lt b i x,hs.inj,hs.iG⟩,h.low,h.FE,by rw[World.putObj_size];exact h.hle,h.new,h.abs,fun B x y=>?_,h.os,h.tape,h.output⟩
 rw[World.putObj_heap_other (by omega)]
 exact h.heap B x y
theorem kc.qG{base r:Nat}{o:Obj}:∀{ds:List Deferred},kc base σ w ds->(∀d∈ds,d.target≠.collected r)->kc base σ (w.putObj r o) ds
 |[],_,_=>trivial
 |d::ds,h,hn=>by
  obtain⟨⟨q,h1,h2,h3,h4,h5⟩,h6⟩:=h
  refine⟨⟨q,h1,h2,?_,h4,h5⟩,h6.qG fun d' hd'=>hn d' (List.mem_cons_of_mem _ hd')⟩
  rw[World.putObj_heap_other (fun e=>hn d List.mem_cons_self (by rw[h1,e]))]
  exact h3
theorem iX{fn:Func}{tmps:Array Value}{R:Ending->World->Prop}:∀(ds:List Deferred) (w':World),kc w.heap.size σ' w' ds->Ev P σ m w σ' m' w'->
  (∀w2,Ev P σ m w σ' m' w2->∃v,(results fn tmps).run P w2=.ok v w2/\R (.returned v) w2)->LeavesInM Fence.wide 0 P fn tmps R ds .returning w'
 |[],w',_,he,h=>h w' he
 |d::ds,w',hd,he,h=>by
  obtain⟨⟨r,h1,h2,h3,h4,h5⟩,h6⟩:=hd
  exact⟨by simp,.inl ⟨r,_,h1,run_takeDeferred h3,iX ds _ (h6.qG h5) (he.qG h2 h4) h⟩⟩
theorem nj{fn:Func}{tmps:Array Value}{R:Ending->World->Prop}{rest:List Deferred}{base:Nat}{K:World->Prop}(hK:∀w r o,base<=r->(∀b i,σ' b=some i->i.bX≠r)->K w->K (w.putObj r o))(hb:w.heap.size<=base):
  ∀(ds:List Deferred) (w':World),kc base σ' w' ds->Ev P σ m w σ' m' w'->K w'->
  (∀w2,Ev P σ m w σ' m' w2->K w2->LeavesInM Fence.wide 0 P fn tmps R rest .returning w2)->LeavesInM Fence.wide 0 P fn tmps R (ds++rest) .returning w'
 |[],w',_,he,hk,h=>h w' he hk
 |d::ds,w',hd,he,hk,h=>by
  obtain⟨⟨r,h1,h2,h3,h4,h5⟩,h6⟩:=hd
  exact⟨by simp,.inl ⟨r,_,h1,run_takeDeferred h3,nj hK hb ds _ (h6.qG h5) (he.qG (Nat.le_trans hb h2) h4) (hK _ _ _ h2 h4 hk) h⟩⟩
theorem vj(hE:E.OK P){fn:Func}{fr:Fr}{v:Value}(h:Ba E fn m fr=some (v,m'))(hok:(fn.results.toList.all fun |.tmp t=>Nat.blt t nt |.cell a _=>Nat.blt a nt)=true)
  (hs:dB P σ m w) (hf:cY σ' fr.T a nt) (he:Ev P σ {m with low:=m.n} w σ' fr.m w'):∃v',(results fn a.tmps).run P w'=.ok v' w'/\cy P σ m w v m' (.returned v') w':=by
 unfold Ba at h
 cases hr:result? E fn fr.T fr.m with
 |none=>rw[hr]at h;cases h
 |some v1=>
  rw[hr]at h
  dsimp only at h
  obtain⟨v',q1,q2⟩:=oK hE he.nG hf (fun r hr=>by
   have:=List.all_eq_true.1 hok r hr
   cases r <;>exact this) hr
  refine⟨v',q1,?_⟩
  cases hb:(bY v1 && Nat.ble m.n fr.m.low)with
  |true=>
   rw[hb]at h
   cases h
   simp only[Bool.and_eq_true]at hb
   have hv':=q2.qT hb.1
   subst hv'
   exact⟨_,σ,rfl,aJ.eB hb.1,Ev.forget hs he (Nat.le_of_ble_eq_true hb.2)⟩
  |false=>
   rw[hb]at h
   cases h
   exact⟨_,σ',rfl,q2,he.Cf⟩
theorem kM(hE:E.OK P)(cD:cB P call){n:Nat}:∀(pre:List Code) (c2:Code) (fr:Fr) (e:Ex) (fr':Fr),cX nt P.globals.size (jv pre c2)=true->qu (bh E call n) pre fr=some (e,fr')->
  ∀(k base:Nat) (σ:Sg) (a:Act) (w:World) (Q:Exit->Act->World->Prop) (tl:List Deferred),cY σ fr.T a nt->dB P σ fr.m w->xG base σ w tl a.defers->base<=w.heap.size->
  (∀σ' a' w',cY σ' fr'.T a' nt->xG base σ' w' tl a'.defers->Ev P σ fr.m w σ' fr'.m w'->match e with |.normal=>c2.wpIn (dG none) k P Q a' w' |e=>Q e.to a' w')->(jv pre c2).wpIn (dG none) k P Q a w
 |[],c2,fr,e,fr',_,h=>fun k base σ a w Q tl hf hs hd _ hQ=>by
  cases h
  exact hQ σ a w hf hd (Ev.refl hs)
 |c::pre,c2,fr,e,fr',hok,h=>fun k base σ a w Q tl hf hs hd hba hQ=>by
  unfold jv cX at hok
  simp only[Bool.and_eq_true]at hok
  unfold qu at h
  unfold jv
  refine wpIn_seq ?_
  cases hc:bh E call n c fr with
  |none=>rw[hc]at h;cases h
  |some p=>
   obtain⟨e1,fr1⟩:=p
   rw[hc]at h
   refine gQ hE cD c fr e1 fr1 hok.1 hc none k base σ a w _ tl (.inl rfl) hf hs hd hba fun σ1 a1 w1 hf1 hd1 _ he1=>?_
   cases e1 with
   |normal=>exact kM hE cD pre c2 fr1 e fr' hok.2 h k base σ1 a1 w1 Q tl hf1 he1.nG hd1 (Nat.le_trans hba he1.hle) fun σ2 a2 w2 hf2 hd2 he2=>hQ σ2 a2 w2 hf2 hd2 (he1.trans he2)
   |exit id=>cases h;exact hQ σ1 a1 w1 hf1 hd1 he1
   |ret=>cases h;exact hQ σ1 a1 w1 hf1 hd1 he1
theorem ng:∀(pre:List Code) (c:Code) {n G:Nat},cX n G (jv pre c)=true->cX n G c=true
 |[],_,_,_,h=>h
 |_::pre,c,n,G,h=>by
  unfold jv cX at h
  simp only[Bool.and_eq_true]at h
  exact ng pre c h.2
theorem uW{f:FuncId}{fn:Func}{body:Code}{args':Array Value}(hfs:P.funcs[f]?=some fn)(hb:fn.body=some body)(hok:iq P.globals.size fn=true):(callFunc f args').run P w=.ok (.enter f args') w:=by
 unfold iq at hok
 simp only[Bool.and_eq_true]at hok
 have hne:(fn.name== "runtime.NumGoroutine")=false:=by simpa using hok.2.1
 unfold callFunc
 simp only[Sem.run_bind,run_program,Result.andThen_ok,hfs,hne,hb]
 rfl
theorem sD{ops:Array Oper}(hops:∀o∈ops.toList,fK nt P.globals.size o=true){n:Nat}{c₀:Frame}{cs:List Frame}(hu:c₀.mode=.returning)(hs:dB P σ m w){Q:Exit->Act->List Frame->World->Prop}{ds:List Deferred}{T':Tr Value}:
  ∀(l:List Oper) (i:Nat) (T:Tr Value) (a:Act),(∀j o,l[j]?=some o->ops[i+j]?=some o)->kP l T=some T'->cY σ T a nt->a.defers=ds->
  (∀a',cY σ T' a' nt->a'.defers=ds->Q .normal a' (c₀::cs) w)->wpOpsSIn Fence.wide n P ops Q (List.range' i l.length) a (c₀::cs) w
 |[],i,T,a,_,h,hf,hd,hQ=>by
  cases h
  simp only[List.length_nil,List.range'_zero,wpOpsSIn]
  exact hQ a hf hd
 |o::l,i,T,a,hi,h,hf,hd,hQ=>by
  have ho:ops[i]?=some o:=by have:=hi 0 o rfl;simpa using this
  have hmem:o∈ops.toList:=by simpa using Array.mem_of_getElem? ho
  have hokj:=hops o hmem
  have next:∀(v v':Value),kP l (put T o.dst v)=some T'->aJ σ v v'->wpOpsSIn Fence.wide n P ops Q (List.range' (i+1) l.length) (a.put o.dst v') (c₀::cs) w:=fun v v' h1 h2=>
   sD hops hu hs l (i+1) _ _ (fun j o' hj=>by have:=hi (j+1) o' (by simpa using hj);rw[show i+1+j=i+(j+1) by omega];exact this) h1 (hf.put (ee hokj) h2) (by rw[put_defers];exact hd) hQ
  simp only[List.length_cons,List.range'_succ,wpOpsSIn,ho]
  refine⟨fun _ _=>trivial,?_⟩
  unfold kP at h
  have hw:o.guard=none->Region.wanted o (yielded ops a.tmps)=true:=by
   intro hg
   unfold Region.wanted
   rw[hg]
  have hopnd:∀x∈o.op.operands.toList,aJ σ (ev T x) (a.eval x):=fun x hx=>hf.AI hs (fJ hokj x hx)
  split at h
  ·rename_i c hg hop
   rw[if_pos (hw hg)]
   split at h
   ·rename_i hc
    cases hem:c.args.toList.isEmpty with
    |false=>rw[hem]at h;cases h
    |true=>
     rw[hem]at h
     simp only[cond_true]at h
     have hrun:(execOp a.eval o).run P w=.ok .recover w:=by
      unfold execOp
      rw[hop]
      unfold resolve
      dsimp only
      rw[hc]
      simp only[Sem.run_bind,Sem.run_pure,Result.andThen_ok,invoke,Go.builtin]
     rw[hrun]
     have hrec:recoverD (c₀::cs)=none:=by simp[recoverD,hu]
     simp only[hrec]
     exact next .nilIface .nilIface h (.flat _ rfl)
   ·cases h
  ·rename_i x hg hop
   rw[if_pos (hw hg)]
   have hrun:(execOp a.eval o).run P w=.ok (.value (a.eval x)) w:=by
    unfold execOp
    rw[hop]
    rfl
   rw[hrun]
   exact next _ _ h (hopnd x (by rw[hop];simp[Op.operands]))
  ·rename_i x hg hop
   rw[if_pos (hw hg)]
   have hrun:(execOp a.eval o).run P w=.ok (.value (a.eval x)) w:=by
    unfold execOp
    rw[hop]
    rfl
   rw[hrun]
   exact next _ _ h (hopnd x (by rw[hop];simp[Op.operands]))
  ·cases h
theorem Fs(hE:E.OK P)(cD:cB P call){n:Nat}{g:Nat}{args:List Value}{m3:M}(h:Br E (bh E call n) g args m=some m3){args':Array Value}(hs:dB P σ m w)(hl:aT σ args args'.toList):
  CallsDIn Fence.wide 0 P g args' .returning w (fun e u' w'=>u'=.returning/\∃v,e=.returned v/\∃σ',Ev P σ m w σ' m3 w')/\(callFunc g args').run P w=.ok (.enter g args') w:=by
 unfold Br at h
 split at h
 ·rename_i c hc
  obtain⟨hfs,hbody⟩:=hE.cl g c hc
  have hok:=hE.QI hc
  refine⟨?_,uW hfs hbody hok⟩
  unfold iq at hok
  rw[hbody]at hok
  simp only[Bool.and_eq_true]at hok
  cases hb:(Nat.ble args.length c.fn.ntmps && (c.fn.results.toList.isEmpty && ke c.rest))with
  |false=>rw[hb]at h;cases h
  |true=>
   rw[hb]at h
   simp only[cond_true]at h
   simp only[Bool.and_eq_true,List.isEmpty_iff]at hb
   obtain⟨hle,hres,hno⟩:=hb
   have hle:=Nat.le_of_ble_eq_true hle
   have hcode:=hok.1
   unfold cX at hcode
   simp only[Bool.and_eq_true]at hcode
   have hreg:=hcode.1
   unfold cX at hreg
   simp only[Bool.and_eq_true]at hreg
   have hops:∀o∈c.ops.toList,fK c.fn.ntmps P.globals.size o=true:=List.all_eq_true.1 hreg.1
   have hent:=qA (nt:=c.fn.ntmps) hl hle
   split at h
   ·rename_i T hT
    have fin:∀(e:Ex) (fr:Fr),e=.normal\/e=.ret->bh E call n c.rest {T:=T,m:={m with low:=m.n}}=some (e,fr)->m3={fr.m with low:=min m.low fr.m.low}->
      CallsDIn Fence.wide 0 P g args' .returning w (fun e u' w'=>u'=.returning/\∃v,e=.returned v/\∃σ',Ev P σ m w σ' m3 w'):=by
     intro e fr hcase hex hm
     subst hm
     refine callsDIn_of_wpSIn hfs hbody trivial fun c₀ cs hu=>wpSIn_seq (wpSIn_region ?_)
     rw[List.range_eq_range',<-Array.length_toList]
     refine sD (nt:=c.fn.ntmps) hops hu hs c.ops.toList 0 _ _ (fun j o hj=>by simpa using hj) hT hent rfl fun a' hf' hd'=>?_
     refine wpSIn_of_wpIn rfl ?_
     refine gQ hE cD c.rest _ e fr hcode.2 hex none 0 w.heap.size σ a' w _ [] (.inl rfl) hf' (hs.low m.n) ⟨[],by rw[hd'];rfl,trivial⟩ (Nat.le_refl _) fun σ1 a1 w1 hf1 hd1 hq1 he1=>?_
     have hdef:a1.defers=[]:=(hq1 hno).trans hd'
     have hr0:(results c.fn a1.tmps).run P w1=.ok (.tuple #[]) w1:=by
      have:c.fn.results= #[]:=Array.eq_empty_of_size_eq_zero (by rw[<-Array.length_toList,hres];rfl)
      unfold results
      rw[this]
      simp
     have hc0:c₀::cs={c₀ with mode:=.returning}::cs:=by rw[<-hu]
     have hq:a1.defers=[]/\∃u',c₀::cs={c₀ with mode:=u'}::cs/\∃v,(results c.fn a1.tmps).run P w1=.ok v w1/\
       (u'=.returning/\∃v',Ending.returned v=.returned v'/\∃σ',Ev P σ m w σ' {fr.m with low:=min m.low fr.m.low} w1):=
      ⟨hdef,.returning,hc0,_,hr0,rfl,_,rfl,σ1,he1.Cf⟩
     rcases hcase with rfl |rfl <;>exact hq
    split at h
    ·cases h
    ·cases h
    ·rename_i e fr hne hex
     cases h
     refine fin e fr ?_ hex rfl
     cases e with
     |normal=>exact .inl rfl
     |ret=>exact .inr rfl
     |exit id=>exact absurd rfl (hne id)
   ·cases h
 ·cases h
theorem zV(hE:E.OK P)(cD:cB P call){n:Nat}{f:FuncId}{d:OZ}(hd:E.df.get f=some d){args:List Value}{v:Value}(h:tV E (bh E call n) d args m=some (v,m')){args':Array Value}(hs:dB P σ m w)(hl:aT σ args args'.toList):
  CallsIn Fence.wide 0 P f args' w (cy P σ m w v m')/\(callFunc f args').run P w=.ok (.enter f args') w:=by
 obtain⟨hfs,hbody⟩:=hE.df f d hd
 have hok:=hE.QH hd
 refine⟨?_,uW hfs hbody hok⟩
 unfold iq at hok
 rw[hbody]at hok
 simp only[Bool.and_eq_true]at hok
 unfold tV at h
 cases hle:Nat.ble args.length d.fn.ntmps with
 |false=>rw[hle]at h;cases h
 |true=>
  rw[hle]at h
  simp only[cond_true]at h
  have hle:=Nat.le_of_ble_eq_true hle
  have hent:=qA (nt:=d.fn.ntmps) hl hle
  have hs0:=hs.low m.n
  have hcode:=ng _ _ hok.1
  unfold cX at hcode
  simp only[Bool.and_eq_true]at hcode
  have hreg:=hcode.1
  unfold cX at hreg
  simp only[Bool.and_eq_true]at hreg
  have hops:∀o∈(#[d.mf,d.de]:Array Oper).toList,fK d.fn.ntmps P.globals.size o=true:=List.all_eq_true.1 hreg.1
  refine callsIn_of_wp_marks hfs hbody trivial ?_
  split at h
  ·
   rename_i fr hex
   refine kM hE cD d.pre _ _ .ret fr hok.1 hex 0 w.heap.size σ _ w _ [] hent hs0 ⟨[],rfl,trivial⟩ (Nat.le_refl _) fun σ1 a1 w1 hf1 hd1 he1=>?_
   obtain⟨ms,hms,hdo⟩:=hd1
   have hms:a1.defers=ms:=by rw[hms,List.append_nil]
   show LeavesInM Fence.wide 0 P d.fn a1.tmps (cy P σ m w v m') a1.defers .returning w1
   rw[hms]
   exact iX ms w1 hdo he1 fun w2 he2=>vj hE h hok.2.2 hs hf1 he2
  ·rename_i fr hex
   refine kM hE cD d.pre _ _ .normal fr hok.1 hex 0 w.heap.size σ _ w _ [] hent hs0 ⟨[],rfl,trivial⟩ (Nat.le_refl _) fun σ1 a1 w1 hf1 hd1 he1=>?_
   obtain⟨ms1,hms1,hdo1⟩:=hd1
   have hms1:a1.defers=ms1:=by rw[hms1,List.append_nil]
   dsimp only
   split at h
   ·rename_i td g fi ca c hg1 hdst hmf hg2 hde
    split at h
    ·rename_i t hcal
     cases hcond:(Nat.beq t td && (c.args.toList.isEmpty && fi.toList.isEmpty))with
     |false=>rw[hcond]at h;cases h
     |true=>
      rw[hcond]at h
      simp only[cond_true]at h
      simp only[Bool.and_eq_true,List.isEmpty_iff]at hcond
      obtain⟨ht,hca,hfi⟩:=hcond
      obtain rfl:=Nat.eq_of_beq_eq_true ht
      have hfi':fi= #[]:=Array.eq_empty_of_size_eq_zero (by rw[<-Array.length_toList,hfi];rfl)
      have hca':c.args= #[]:=Array.eq_empty_of_size_eq_zero (by rw[<-Array.length_toList,hca];rfl)
      subst hfi'
      have hok1:=hops d.mf (by simp)
      have hok2:=hops d.de (by simp)
      have hcav:aT σ1 (ca.toList.map (ev fr.T)) (ca.toList.map a1.eval):=jm _ (fun o hx=>hf1.AI he1.nG (fJ hok1 o (by rw[hmf];simpa[Op.operands]using hx)))
      let cv:Value:=.func (.func g) #[] (ca.toList.map a1.eval).toArray
      have hcv:aJ σ1 (.func (.func g) #[] (ca.toList.map (ev fr.T)).toArray) cv:=.func g _ _ _ _ rfl (by simp) (fun j u u' p q=>by simp at p) (fun j u u' p q=>hcav.2 j u u' (by simpa using p) (by simpa using q))
      have hma:ca.map a1.eval=(ca.toList.map a1.eval).toArray:=by apply Array.ext';simp
      let dd:Deferred:={target:=.fn (.func g) (ca.toList.map a1.eval).toArray,args:= #[]}
      let a2:Act:=a1.put (some t) cv
      let a3:Act:=({a2 with defers:=dd::a2.defers}:Act).put d.de.dst undef
      have hf2:cY σ1 (put fr.T (some t) (.func (.func g) #[] (ca.toList.map (ev fr.T)).toArray)) a2 d.fn.ntmps:=hf1.put (fun x hx=>ee hok1 x (by rw[hdst];exact hx)) hcv
      have hf3:cY σ1 (put (put fr.T (some t) (.func (.func g) #[] (ca.toList.map (ev fr.T)).toArray)) d.de.dst undef) a3 d.fn.ntmps:=
       cY.put (a:=({a2 with defers:=dd::a2.defers}:Act)) ⟨hf2.1,hf2.2⟩ (ee hok2) aJ.undef
      have htd:t < d.fn.ntmps:=ee hok1 t hdst
      have hev:a2.eval (.tmp t)=cv:=by
       have:t < a1.tmps.size:=by rw[hf1.1];exact htd
       simp[a2,Act.put,Act.eval,this]
      refine wpIn_seq (wpIn_region_list ?_)
      unfold wpListIn
      have hw1:Region.wanted d.mf (yielded #[d.mf,d.de] a1.tmps)=true:=by unfold Region.wanted;rw[hg1]
      rw[if_pos hw1]
      refine⟨fun _ _=>trivial,?_⟩
      rw[Oper.semAt_eq _ _ _ (fun c hc=>by rw[hmf]at hc;cases hc)]
      have hrun1:(execOp a1.eval d.mf).run P w1=.ok (.value cv) w1:=by
       unfold execOp
       rw[hmf]
       simp[Instr.makeFunc,cv,hma]
      rw[hrun1,Oper.uponIn_value]
      unfold wpListIn
      rw[hdst]
      have hw2:Region.wanted d.de (yielded #[d.mf,d.de] (a1.put (some t) cv).tmps)=true:=by unfold Region.wanted;rw[hg2]
      rw[if_pos hw2]
      refine⟨fun _ _=>trivial,?_⟩
      have hrun2:(d.de.semAt (dG none).round a2.eval).run P w1=.ok (.defer dd) w1:=by
       show(d.de.semAt none a2.eval).run P w1=_
       rw[Oper.semAt_none]
       unfold execOp
       rw[hde]
       unfold resolve
       dsimp only
       rw[hcal]
       dsimp only
       rw[hev,hca']
       simp[Deferred.ofValue,cv,dd]
      have hrun2':(d.de.semAt (dG none).round (a1.put (some t) cv).eval).run P w1=.ok (.defer dd) w1:=hrun2
      rw[hrun2',Oper.uponIn_defer]
      unfold wpListIn
      have hdef3:a3.defers=dd::ms1:=by
       show(Act.put _ _ _).defers=_
       rw[put_defers]
       show dd::(a1.put (some t) cv).defers=_
       rw[put_defers,hms1]
      show d.post.wpIn (dG none) 0 P _ a3 w1
      have fin:∀(e:Ex) (fr2:Fr),e=.normal\/e=.ret->bh E call n d.post {T:=put (put fr.T (some t) (.func (.func g) #[] (ca.toList.map (ev fr.T)).toArray)) d.de.dst undef,m:=fr.m}=some (e,fr2)->
        (match Br E (bh E call n) g (ca.toList.map (ev fr.T)) fr2.m with
         |some m3=>Ba E d.fn m {fr2 with m:=m3}
         |none=>none)=some (v,m')->d.post.wpIn (dG none) 0 P (bodyPostM Fence.wide 0 P d.fn (cy P σ m w v m')) a3 w1:=by
       intro e fr2 hcase hex2 hres
       refine gQ hE cD d.post _ e fr2 hcode.2 hex2 none 0 w1.heap.size σ1 a3 w1 _ (dd::ms1) (.inl rfl) hf3 he1.nG ⟨[],by rw[hdef3];rfl,trivial⟩ (Nat.le_refl _) fun σ2 a4 w2 hf4 hd4 _ he2=>?_
       obtain⟨ms2,hms2,hdo2⟩:=hd4
       have hleave:LeavesInM Fence.wide 0 P d.fn a4.tmps (cy P σ m w v m') a4.defers .returning w2:=by
        rw[hms2]
        have hsz:=he1.hle
        refine nj (K:=fun w'=>Ev P σ1 fr.m w1 σ2 fr2.m w'/\kc w.heap.size σ2 w' ms1) (base:=w1.heap.size) (fun W r o hr hr4 hk=>⟨hk.1.qG hr hr4,hk.2.qG fun d' hd' e=>?_⟩) hsz ms2 w2 hdo2 (he1.trans he2) ⟨he2,hdo1.ev he2⟩ fun w3 he3 hk3=>?_
        ·obtain⟨r',h1,h2⟩:=hdo1.lt d' hd'
         rw[e]at h1
         cases h1
         omega
        ·obtain⟨hk1,hk2⟩:=hk3
         cases hclo:Br E (bh E call n) g (ca.toList.map (ev fr.T)) fr2.m with
         |none=>rw[hclo]at hres;cases hres
         |some m3=>
          rw[hclo]at hres
          dsimp only at hres
          obtain⟨hc1,hc2⟩:=Fs (args':= #[]++(ca.toList.map a1.eval).toArray) hE cD hclo he3.nG (by simpa using hcav.mono hk1.ext)
          refine⟨by simp,.inr ⟨fun hh=>by simp[Fence.wide]at hh,.func g,_,g,_,rfl,hc2,fun _ _=>trivial,hc1.mono fun e u' w' hx=>?_⟩⟩
          obtain⟨rfl,v',rfl,σ',hev'⟩:=hx
          exact iX ms1 w' (hk2.ev hev') (he3.trans hev') fun w4 he4=>vj hE hres hok.2.2 hs (hf4.mono hev'.ext) he4
       rcases hcase with rfl |rfl <;>exact hleave
      split at h
      ·cases h
      ·cases h
      ·rename_i e fr2 hne hex2
       refine fin e fr2 ?_ hex2 h
       cases e with
       |normal=>exact .inl rfl
       |ret=>exact .inr rfl
       |exit id=>exact absurd rfl (hne id)
    ·cases h
   ·cases h
  ·cases h
theorem oj(hE:E.OK P){X:aF}(hX:cB P X){n:Nat}(ih:cB P (bV E X n)){f:FuncId}{args:List Value}{v:Value}(h:bV E X (n+1) (.func f) args m=some (v,m')){args':Array Value}(hs:dB P σ m w)(hl:aT σ args args'.toList):
  CallsIn Fence.wide 0 P f args' w (cy P σ m w v m')/\(callFunc f args').run P w=.ok (.enter f args') w:=by
 unfold bV at h
 split at h
 ·rename_i r hr
  cases h
  exact hX.func f args m v m' hr σ w args' hs hl
 split at h
 ·split at h
  ·rename_i d hd
   exact zV hE ih hd h hs hl
  ·cases h
 ·rename_i fn hfn
  have hfs:=hE.fn f fn hfn
  have hok:=hE.code hfn
  unfold iq at hok
  simp only[Bool.and_eq_true]at hok
  split at h
  ·cases h
  ·rename_i body hbody
   rw[hbody]at hok
   cases hle:Nat.ble args.length fn.ntmps with
   |false=>rw[hle]at h;simp at h
   |true=>
    rw[hle]at h
    simp only[cond_true]at h
    have hle:=Nat.le_of_ble_eq_true hle
    have hrun:(callFunc f args').run P w=.ok (.enter f args') w:=by
     have hne:(fn.name== "runtime.NumGoroutine")=false:=by simpa using hok.2.1
     unfold callFunc
     simp only[Sem.run_bind,run_program,Result.andThen_ok,hfs,hne,hbody]
     rfl
    refine⟨?_,hrun⟩
    have hs0:=hs.low m.n
    have hent:=qA (nt:=fn.ntmps) hl hle
    have go:∀(e:Ex) (fr:Fr),e=.normal\/e=.ret->bh E (bV E X n) n body {T:=enter args 0,m:={m with low:=m.n}}=some (e,fr)->
      (match result? E fn fr.T fr.m with
       |none=>none
       |some v=>bif bY v && Nat.ble m.n fr.m.low then some (v,m)else some (v,{fr.m with low:=min m.low fr.m.low}))=some (v,m')->CallsIn Fence.wide 0 P f args' w (cy P σ m w v m'):=by
     intro e fr hcase hex hres
     refine callsIn_of_wp_marks hfs hbody trivial ?_
     refine gQ hE ih body _ e fr hok.1 hex none 0 w.heap.size σ _ w _ [] (.inl rfl) hent hs0 ⟨[],rfl,trivial⟩ (Nat.le_refl _) fun σ1 a1 w1 hf1 hd1 _ he1=>?_
     obtain⟨ms,hms,hd1⟩:=hd1
     have hms:a1.defers=ms:=by rw[hms,List.append_nil]
     rw[<-hms]at hd1
     have hleave:LeavesInM Fence.wide 0 P fn a1.tmps (cy P σ m w v m') a1.defers .returning w1:=by
      refine iX a1.defers w1 hd1 he1 fun w2 he2=>?_
      cases hr:result? E fn fr.T fr.m with
      |none=>rw[hr]at hres;cases hres
      |some v1=>
       rw[hr]at hres
       dsimp only at hres
       obtain⟨v',q1,q2⟩:=oK hE he2.nG hf1 (fun r hr=>by
        have:=List.all_eq_true.1 hok.2.2 r hr
        cases r <;>exact this) hr
       refine⟨v',q1,?_⟩
       cases hb:(bY v1 && Nat.ble m.n fr.m.low)with
       |true=>
        rw[hb]at hres
        cases hres
        simp only[Bool.and_eq_true]at hb
        have hv':=q2.qT hb.1
        subst hv'
        exact⟨_,σ,rfl,aJ.eB hb.1,Ev.forget hs he2 (Nat.le_of_ble_eq_true hb.2)⟩
       |false=>
        rw[hb]at hres
        cases hres
        exact⟨_,σ1,rfl,q2,he2.Cf⟩
     rcases hcase with rfl |rfl
     ·exact hleave
     ·exact hleave
    split at h
    ·cases h
    ·cases h
    ·rename_i e fr hne hex
     refine go e fr ?_ hex h
     cases e with
     |normal=>exact .inl rfl
     |ret=>exact .inr rfl
     |exit id=>exact absurd rfl (hne id)
theorem sv:∀(ps:List Tmp) (args args':List Value) (T:Tr Value) (tmps:Array Value) (ds:List Deferred),cY σ T {tmps,defers:=ds} nt->(∀p∈ps,p < nt)->aT σ args args'->
  cY σ (qb T (ps.zip args)) {tmps:=(ps.zip args').foldl (fun tmps x=>tmps.setIfInBounds x.1 x.2) tmps,defers:=ds} nt
 |[],_,_,_,_,_,h,_,_=>h
 |p::ps,[],args',T,tmps,ds,h,_,hl=>by
  obtain rfl:=hl.nil_eq
  exact h
 |p::ps,v::args,x,T,tmps,ds,h,hp,hl=>by
  obtain⟨v',args',rfl,hv,hl'⟩:=hl.cases
  have h2:=h.put (dst:=some p) (fun d hd=>by cases hd;exact hp p List.mem_cons_self) hv
  exact sv ps args args' (T.set p v) (tmps.setIfInBounds p v') ds h2 (fun q hq=>hp q (List.mem_cons_of_mem _ hq)) hl'
theorem Ev.loop{b:Nat}{i:BI}{r r2:uh}{r' r2':Loop}(hs:dB P σ m w)(hb:σ b=some i)(hm:m.get b=.loop r)(hr:w.heap[i.bX]?=some (.loop r'))(hh:∀w',w'.heap[i.bX]?=some (.loop r2')->Holds σ i w' (.loop r2)):
  Ev P σ m w σ (m.set b (.loop r2)) (w.putObj i.bX (.loop r2')):=by
 have hlt:i.bX < w.heap.size:=(Array.getElem?_eq_some_iff.1 hr).1
 exact Ev.write hs hb (by rw[hm];simp) (hh _ (World.putObj_heap_same hlt)) (fun B hB=>World.putObj_heap_other hB) (by simp) rfl rfl rfl
theorem M.wL{b:Nat}{r r2:uh}(h:m.get b=.loop r):(m.set b (.loop r2)).get b=.loop r2:=by
 have:b < m.n:=M.jB (by rw[h];simp)
 rw[M.bH _ _ _ _ this,if_pos rfl]
theorem yM(hE:E.OK P){X:aF}{n:Nat}(ih:cB P (bV E X n)){l:Nat}{args:List Value}{v:Value}(h:qe (bh E (bV E X n) n) E.G l args m=some (v,m')){i:BI}{args':Array Value}(hs:dB P σ m w)(hl:σ l=some i)(ha:aT σ args args'.toList):
  di P σ m w ((Instr.yield i.bX args').run P w) v m':=by
 unfold qe at h
 split at h
 ·rename_i r hr
  have ho:=hs.obj _ _ hl
  rw[hr]at ho
  obtain⟨hgr,r',nt,q1,q2,q3,q4,q5,q6,q7,q8,q9,Pd,q13,q14⟩:=ho
  cases hb:(Nat.beq args.length r.ps.size && Nat.beq r.G E.G)with
  |false=>rw[hb]at h;simp at h
  |true=>
   rw[hb]at h
   simp only[cond_true]at h
   simp only[Bool.and_eq_true]at hb
   have hlen:=Nat.eq_of_beq_eq_true hb.1
   have hG:=Nat.eq_of_beq_eq_true hb.2
   rw[hE.G]at hG
   rw[hG]at q9 Pd
   have hsz:args'.size=r'.params.size:=by
    have:=ha.1
    rw[q4]
    simp only[Array.length_toList]at this
    omega
   rw[run_yield q1 hsz]
   let R:Ending->World->Prop:=cy P σ m w v m'
   suffices hround:∀(ro:Option Nat) (k:Nat),RoundIn (dG ro) k P i.bX r'.fn ((r'.params.zip args').foldl (fun tmps (t,a)=>tmps.setIfInBounds t a) r'.tmps) r'.assign r'.body w R by
    refine⟨?_,fun ro k o a next Q hk=>?_⟩
    ·obtain⟨e,w',⟨v',σ',_,hv,he⟩,_⟩:=(hround none 0).2 default [] (room_wide _)
     exact⟨σ',w',v',hv,he⟩
    ·refine⟨fun hh=>by simp[dG,Fence.wide]at hh,(hround ro (k-1)).mono fun e w' he=>?_⟩
     obtain⟨v',σ',rfl,hv,hev⟩:=he
     exact hk σ' w' v' hv hev
   intro ro k
   refine roundIn_of_wpIn trivial ?_
   have hf0:cY σ (qb r.T (r.ps.toList.zip args)) {tmps:=((r'.params.zip args').foldl (fun tmps (t,a)=>tmps.setIfInBounds t a) r'.tmps),defers:=[]} nt:=by
    have h0:cY σ r.T {tmps:=r'.tmps,defers:=[]} nt:=⟨q7,fun t ht=>q8 t ht⟩
    have h1:=sv r.ps.toList args args'.toList r.T r'.tmps [] h0 q13 ha
    have e:(r'.params.zip args').foldl (fun tmps (t,a)=>tmps.setIfInBounds t a) r'.tmps=(r.ps.toList.zip args'.toList).foldl (fun tmps x=>tmps.setIfInBounds x.1 x.2) r'.tmps:=by
     rw[<-Array.foldl_toList,Array.toList_zip,q4]
    rw[e]
    exact h1
   rw[q5,q6]
   split at h
   ·rename_i fr1 hx
    split at h
    ·rename_i r1 hr1
     split at h
     ·rename_i hst1
      split at h
      ·rename_i e fr2 hx2
       split at h
       ·rename_i r2 hr2
        refine gQ hE ih r.assign _ .normal fr1 q9 hx (some i.bX) k 0 σ _ w _ [] (.inr ⟨l,i,r,rfl,hl,hr⟩) hf0 (hs.low m.n) ⟨[],rfl,trivial⟩ (Nat.zero_le _) fun σ1 a1 w1 hf1 hd1 _ he1=>?_
        have hl1:=he1.ext _ _ hl
        have ho1:=he1.nG.obj _ _ hl1
        rw[hr1]at ho1
        obtain⟨hgr1,r1',nt1,p1,p2,p3,p4,p5,p6,p7,p8,p9,p10,p13,p14⟩:=ho1
        refine⟨_,run_beginRound p1 (by rw[p2];exact hst1),?_⟩
        have hev1:=Ev.loop (r2:={r1 with st:=.busy}) (r2':={r1' with state:=.busy}) he1.nG hl1 hr1 p1 fun w' hw'=>⟨hgr1,_,nt1,hw',rfl,p3,p4,p5,p6,p7,p8,p9,p10,p13,p14⟩
        refine gQ hE ih r.body _ e fr2 Pd hx2 (some i.bX) k 0 σ1 a1 _ _ [] (.inr ⟨l,i,_,rfl,hl1,M.wL hr1⟩) hf1 hev1.nG (hd1.ev hev1) (Nat.zero_le _) fun σ2 a2 w2 hf2 hd2 _ he2=>?_
        have hl2:=he2.ext _ _ hl1
        have ho2:=he2.nG.obj _ _ hl2
        rw[hr2]at ho2
        obtain⟨hgr2,r2',nt2,z1,z2,z3,z4,z5,z6,z7,z8,z9,z10,z13,z14⟩:=ho2
        have htot:=(he1.trans hev1).trans he2
        have fin:∀(j:Option Ex),j≠some .normal->∃v' w',(Instr.endRound i.bX (j.map qv)).run P w2=.ok v' w'/\
          (v=.bool (j.map qv).isNone->m'={fr2.m.set l (.loop {r2 with st:=if(j.map qv).isNone then .ready else .done,oN:=j})with low:=min m.low (fr2.m.set l (.loop {r2 with st:=if(j.map qv).isNone then .ready else .done,oN:=j})).low}->R (.returned v') w'):=by
         intro j hj
         refine⟨_,_,run_endRound (j.map qv) z1,fun hv hm=>?_⟩
         subst hv hm
         refine⟨_,σ2,rfl,.flat _ rfl,Ev.Cf (htot.trans ?_)⟩
         exact Ev.loop he2.nG hl2 hr2 z1 fun w' hw'=>⟨hgr2,_,nt2,hw',rfl,rfl,z4,z5,z6,z7,z8,z9,z10,z13,hj⟩
        cases e with
        |normal=>
         cases h
         obtain⟨v',w',f1,f2⟩:=fin none (by simp)
         exact⟨v',w',f1,f2 rfl rfl⟩
        |exit id=>
         cases h
         obtain⟨v',w',f1,f2⟩:=fin (some (.exit id)) (by simp)
         exact⟨v',w',f1,f2 rfl rfl⟩
        |ret=>
         cases h
         obtain⟨v',w',f1,f2⟩:=fin (some .ret) (by simp)
         exact⟨v',w',f1,f2 rfl rfl⟩
       ·cases h
      ·cases h
     ·cases h
    ·cases h
   ·cases h
 ·cases h
theorem ka(hE:E.OK P){X:aF}(hX:cB P X):∀n,cB P (bV E X n)
 |0=>⟨fun f args m v m' h=>by simp[bV]at h,fun l args m v m' h=>by simp[bV]at h,wZ hX.bw 0,fun a m v m' b h=>by simp[bV]at h⟩
 |n+1=>⟨fun f args m v m' h σ w args' hs hl=>oj hE hX (ka hE hX n) h hs hl,fun l args m v m' h σ w i args' hs hl ha=>by
   unfold bV at h
   exact yM hE (ka hE hX n) h hs hl ha,wZ hX.bw (n+1),fun a m v m' b h hb=>by
   unfold bV at h
   split at h
   ·rename_i r hr
    cases h
    exact hX.FD a m v m' b hr hb
   ·rw[hE.st.1]at h
    dsimp only at h
    rw[hE.st.2]at h
    cases h⟩
theorem pJ(hE:E.OK P){X:aF}(hX:cB P X){n:Nat}{f:FuncId}{args:List Value}{v:Value}(h:bV E X n (.func f) args m=some (v,m')){args':Array Value}(hs:dB P σ m w)(hl:aT σ args args'.toList):
  Calls P f args' w (cy P σ m w v m'):=by
 cases n with
 |zero=>simp[bV]at h
 |succ n=>exact callsIn_wide.1 (oj hE hX (ka hE hX n) h hs hl).1
def Pe:aF:=fun _ _ _=>none
theorem AL:cB P Pe:=⟨fun f args m v m' h=>by simp[Pe]at h,fun l args m v m' h=>by simp[Pe]at h,fun f args m v m' h=>by simp[Pe]at h,fun a m v m' b h=>by simp[Pe]at h⟩
end
end Go.D
namespace Go.D
open Go
def M.wl(m:M)(l:Nat):M:={m with low:=l}
section
variable {m:M} {l k b:Nat} {o:Ob}
theorem M.cm:(m.wl l).get b=m.get b:=rfl
theorem M.vF:(m.wl l).low=l:=rfl
theorem M.BO:(m.wl l).wl k=m.wl k:=rfl
theorem M.BP:(m.wl l).push o=(m.push o).wl l:=rfl
theorem M.FI:(m.wl l).set b o=(m.set b o).wl (min l b):=rfl
theorem M.vV:(m.push o).n=m.n+1:=rfl
end
structure bj{α:Type}(m:M)(f:M->Option (α×M)):Prop where
 eq:∀l,l<=m.n->f (m.wl l)=(f (m.wl m.n)).map (fun r=>(r.1,r.2.wl (min l r.2.low)))
 FE:∀r,f (m.wl m.n)=some r->m.n<=r.2.n
section
variable {α:Type} {m:M}
theorem bj.none:bj (α:=α) m (fun _=>none):=⟨fun _ _=>rfl,fun _ h=>by cases h⟩
theorem bj.same(v:α):bj m (fun m=>some (v,m)):=⟨fun l h=>by
 simp only[Option.map_some,M.vF,M.BO,Nat.min_eq_left h],fun r h=>by cases h;exact Nat.le_refl _⟩
theorem bj.push(v:α)(o:Ob):bj m (fun m=>some (v,m.push o)):=⟨fun l h=>by
 simp only[Option.map_some,M.BP,M.vF,M.BO,Nat.min_eq_left h],fun r h=>by cases h;exact Nat.le_succ _⟩
theorem bj.set(v:α)(b:Nat)(o:Ob):bj m (fun m=>some (v,m.set b o)):=⟨fun l h=>by
 simp only[Option.map_some,M.FI,M.vF,M.BO]
 congr 3
 omega,fun r h=>by cases h;exact Nat.le_refl _⟩
theorem bj.Ku(v:α)(b:Nat)(o o':Ob):bj m (fun m=>some (v,(m.set b o).push o')):=⟨fun l h=>by
 simp only[Option.map_some,M.FI,M.BP,M.vF,M.BO]
 congr 3
 omega,fun r h=>by cases h;exact Nat.le_succ _⟩
theorem bj.of_eq{f g:M->Option (α×M)}(h:bj m g)(e:∀l,f (m.wl l)=g (m.wl l)):bj m f:=⟨fun l hl=>by rw[e,e,h.eq l hl],fun r hr=>h.FE r (by rw[<-e];exact hr)⟩
end
noncomputable section
variable {E:Env} {m:M}
theorem bu{l n:Nat}{a:Addr}:loadCells (m.wl l) a n=loadCells m a n:=rfl
theorem tg{l:Nat}{t:TypeId}{a:Addr}:loadVar E (m.wl l) t a=loadVar E m t a:=rfl
theorem ck{l:Nat}{a:Addr}:lI (m.wl l) a=lI m a:=rfl
theorem bN{l s n:Nat}{x:Value}:first? (m.wl l) s n x=first? m s n x:=rfl
theorem cM{l:Nat}{t:TypeId}{x:Value}:nV E (m.wl l) t x=nV E m t x:=rfl
theorem DU{l:Nat}{t:TypeId}{x:Value}{a b c:Option Value}:slice? E (m.wl l) t x a b c=slice? E m t x a b c:=rfl
theorem AQ{l:Nat}{t:TypeId}{x k:Value}{ok:Bool}:eK E (m.wl l) t x k ok=eK E m t x k ok:=rfl
theorem Ou{l:Nat}{s d:TypeId}{x:Value}:Kb E (m.wl l) s d x=Kb E m s d x:=rfl
theorem ju{v:Value}{a:Addr}{vs:List Value}:bj m (fun m=>(storeCells m a vs).map fun m=>(v,m)):=by
 unfold storeCells
 cases h:m.get a.block with
 |cells c e g=>
  cases hb:(a.spot.isNone && Nat.ble (a.off+vs.length) c.length && vs.all one)with
  |true=>exact(bj.set v a.block _).of_eq (fun l=>by simp only[M.cm,bu,bN,cM,ck, *,cond_true,cond_false,Option.map_some,Option.map_none] <;>rfl)
  |false=>exact bj.none.of_eq (fun l=>by simp only[M.cm,bu,bN,cM,ck, *,cond_true,cond_false,Option.map_some,Option.map_none] <;>rfl)
 |_=>exact bj.none.of_eq (fun l=>by simp only[M.cm,bu,bN,cM,ck, *,cond_true,cond_false,Option.map_some,Option.map_none] <;>rfl)
theorem Ey{e k:Nat}{base:Option Addr}{sl sc need:Nat}{news:List Value}:bj m (fun m=>jA m e k base sl sc need news):=by
 unfold jA
 cases base with
 |none=>
  dsimp only
  cases (Nat.beq sl 0 && Nat.beq sc 0)with
  |true=>exact bj.of_eq (bj.push (.slice (some ⟨m.n,0,none⟩) need need) _) (fun l=>rfl)
  |false=>exact bj.none
 |some a=>
  dsimp only
  cases h:m.get a.block with
  |cells c te g=>
   cases ho:(bif Nat.beq sl 0 then some []else loadCells m a (sl*k))with
   |none=>exact bj.none.of_eq (fun l=>by simp only[M.cm,bu,bN,cM,ck, *,cond_true,cond_false,Option.map_some,Option.map_none] <;>rfl)
   |some eO=>
    cases h1:(g.isNone ||(g==some k && Nat.blt (a.off+sc*k) c.length))with
    |true=>exact bj.of_eq (bj.push (.slice (some ⟨m.n,0,none⟩) need need) (.cells (eO++news) e (some k))) (fun l=>by simp only[M.cm,bu,bN,cM,ck, *,cond_true,cond_false,Option.map_some,Option.map_none] <;>rfl)
    |false=>
     cases h2:(g==some k && Nat.beq a.off 0 && a.spot.isNone && Nat.beq (sl*k) c.length && Nat.beq sc sl && Nat.beq te e)with
     |true=>exact bj.of_eq (bj.Ku (.slice (some ⟨m.n,0,none⟩) need need) a.block .dead (.cells (eO++news) e (some k))) (fun l=>by simp only[M.cm,bu,bN,cM,ck, *,cond_true,cond_false,Option.map_some,Option.map_none] <;>rfl)
     |false=>exact bj.none.of_eq (fun l=>by simp only[M.cm,bu,bN,cM,ck, *,cond_true,cond_false,Option.map_some,Option.map_none] <;>rfl)
  |_=>exact bj.none.of_eq (fun l=>by simp only[M.cm,bu,bN,cM,ck, *,cond_true,cond_false,Option.map_some,Option.map_none] <;>rfl)
theorem Aa{t u:TypeId}{s x:Value}:bj m (fun m=>dD E m t u s x):=by
 unfold dD
 split
 ·rename_i ti ui base sl sc n _ _ _
  split
  ·exact bj.none
  ·rename_i e _ _
   cases h1:E.ty.get e with
   |none=>exact bj.none
   |some ei=>
    cases h2:first? m ti.es n x with
    |none=>exact bj.none.of_eq (fun l=>by simp only[M.cm,bu,bN,cM,ck, *,cond_true,cond_false,Option.map_some,Option.map_none] <;>rfl)
    |some news=>
     cases h3:(Nat.beq ti.es 0 ||Nat.blt 65536 ei.bytes || !news.all one ||Nat.blt 268435456 (sl+n) || !Nat.beq news.length (n*ti.es) || !fT ei.zero ti.es)with
     |true=>exact bj.none.of_eq (fun l=>by simp only[M.cm,bu,bN,cM,ck, *,cond_true,cond_false,Option.map_some,Option.map_none] <;>rfl)
     |false=>
      cases h4:Nat.ble (sl+n) sc with
      |false=>exact Ey.of_eq (fun l=>by simp only[M.cm,bu,bN,cM,ck, *,cond_true,cond_false,Option.map_some,Option.map_none] <;>rfl)
      |true=>
       cases base with
       |none=>
        cases h5:Nat.beq n 0 with
        |true=>exact bj.of_eq (bj.same (.slice none sl sc)) (fun l=>by simp only[M.cm,bu,bN,cM,ck, *,cond_true,cond_false,Option.map_some,Option.map_none] <;>rfl)
        |false=>exact bj.none.of_eq (fun l=>by simp only[M.cm,bu,bN,cM,ck, *,cond_true,cond_false,Option.map_some,Option.map_none] <;>rfl)
       |some a=>
        cases h5:Nat.beq n 0 with
        |true=>exact bj.of_eq (bj.same (.slice (some a) (sl+n) sc)) (fun l=>by simp only[M.cm,bu,bN,cM,ck, *,cond_true,cond_false,Option.map_some,Option.map_none] <;>rfl)
        |false=>exact bj.of_eq (ju (v:=.slice (some a) (sl+n) sc) (a:=a.add (sl*ti.es)) (vs:=news)) (fun l=>by simp only[M.cm,bu,bN,cM,ck, *,cond_true,cond_false,Option.map_some,Option.map_none] <;>rfl)
  ·exact bj.none
 ·exact bj.none
theorem Fl{t:TypeId}{d x:Value}:bj m (fun m=>tT E m t d x):=by
 unfold tT
 split
 ·rename_i ti base dl _ xl _ _
  cases h2:first? m ti.es (min xl dl) x with
  |none=>exact bj.none.of_eq (fun l=>by cases hd:ti.d <;>simp only[bN,h2,hd])
  |some cs=>
   cases hd:ti.d with
   |slice e=>
    cases h3:Nat.beq ti.es 0 with
    |true=>exact bj.none.of_eq (fun l=>by simp only[M.cm,bu,bN,cM,ck, *,cond_true,cond_false,Option.map_some,Option.map_none] <;>rfl)
    |false=>
     cases base with
     |none=>exact bj.of_eq (bj.same (.int .i64 (min xl dl:Nat))) (fun l=>by simp only[M.cm,bu,bN,cM,ck, *,cond_true,cond_false,Option.map_some,Option.map_none] <;>rfl)
     |some a=>
      cases h5:Nat.beq (min xl dl) 0 with
      |true=>exact bj.of_eq (bj.same (.int .i64 (min xl dl:Nat))) (fun l=>by simp only[M.cm,bu,bN,cM,ck, *,cond_true,cond_false,Option.map_some,Option.map_none] <;>rfl)
      |false=>exact bj.of_eq (ju (v:=.int .i64 (min xl dl:Nat)) (a:=a) (vs:=cs)) (fun l=>by simp only[M.cm,bu,bN,cM,ck, *,cond_true,cond_false,Option.map_some,Option.map_none] <;>rfl)
   |_=>exact bj.none.of_eq (fun l=>by simp only[M.cm,bu,bN,cM,ck, *,cond_true,cond_false,Option.map_some,Option.map_none] <;>rfl)
 ·exact bj.none
theorem Bs{t:TypeId}{x:Value}:bj m (fun m=>oh E m t x):=by
 unfold oh
 split
 ·exact bj.same _
 ·rename_i ti a n _ _
  cases Nat.beq n 0 with
  |true=>exact bj.same _
  |false=>
   dsimp only[cond_false]
   split
   ·split
    ·exact ju
    ·exact bj.none
   ·exact bj.none
 ·exact bj.none
theorem uA{t:TypeId}{x k:Value}:bj m (fun m=>dw E m t x k):=by
 unfold dw
 split
 ·rename_i ti r _
  cases h:m.get r with
  |map es clock=>
   cases ti.d with
   |map kt et=>
    cases h1:keyed E kt k with
    |false=>exact bj.none.of_eq (fun l=>by simp only[M.cm, *,cond_true,cond_false] <;>rfl)
    |true=>
     cases h2:findKey E kt k es 0 with
     |none=>exact bj.none.of_eq (fun l=>by simp only[M.cm, *,cond_true,cond_false] <;>rfl)
     |some r2=>
      cases r2 with
      |none=>
       cases hz:ig E et with
       |none=>exact bj.none.of_eq (fun l=>by simp only[M.cm, *,cond_true,cond_false,Option.map_none] <;>rfl)
       |some z=>exact(bj.set (.tuple #[z,.int .i64 clock]) r _).of_eq (fun l=>by simp only[M.cm, *,cond_true,cond_false,Option.map_some] <;>rfl)
      |some p=>exact(bj.set (.tuple #[p.2,.int .i64 (((es[p.1]?).map (·.born)).getD 0)]) r _).of_eq (fun l=>by simp only[M.cm, *,cond_true,cond_false] <;>rfl)
   |_=>exact bj.none.of_eq (fun l=>by simp only[M.cm, *] <;>rfl)
  |_=>exact bj.none.of_eq (fun l=>by cases hd:ti.d <;>simp only[M.cm,h,hd])
 ·exact bj.none
theorem rz{v x s y:Value}:bj m (fun m=>(cz m x s y).map fun m=>(v,m)):=by
 unfold cz
 split
 ·rename_i r k b
  cases h:m.get r with
  |map es clock=>
   cases h1:fB b es 0 with
   |none=>exact bj.none.of_eq (fun l=>by simp only[M.cm, *,Option.map_none] <;>rfl)
   |some i=>exact(bj.set v r _).of_eq (fun l=>by simp only[M.cm, *,Option.map_some] <;>rfl)
  |_=>exact bj.none.of_eq (fun l=>by simp only[M.cm, *,Option.map_none] <;>rfl)
 ·exact bj.none
theorem sX{t:TypeId}{x y:Value}:bj m (fun m=>dA E m t x y):=by
 unfold dA
 cases E.ty.get t with
 |none=>exact bj.none
 |some ti=>
  dsimp only
  split
  ·rename_i e k l k' c hd
   cases E.ty.get e with
   |none=>exact bj.none
   |some ei=>
    dsimp only
    cases ei.zero with
    |none=>exact bj.none
    |some z=>
     dsimp only
     split
     ·exact bj.of_eq (bj.push (.slice (some ⟨m.n,0,none⟩) l.toNat c.toNat) (.cells (fO (cells z) c.toNat) e none)) (fun l=>rfl)
     ·exact bj.none
  ·exact bj.none
theorem xA{b:Builtin}{ts:List TypeId}{args:List Value}:bj m (fun m=>aq E m b ts args):=by
 unfold aq
 split
 ·exact Aa
 ·exact Fl
 ·exact Bs
 ·rename_i t x
  cases h:nV E m t x with
  |none=>exact bj.none.of_eq (fun l=>by simp only[M.cm,bu,bN,cM,ck, *,cond_true,cond_false,Option.map_some,Option.map_none] <;>rfl)
  |some v=>exact(bj.same v).of_eq (fun l=>by simp only[M.cm,bu,bN,cM,ck, *,cond_true,cond_false,Option.map_some,Option.map_none] <;>rfl)
 ·cases h:(cV (fun x y=>if y < x then y else x) args)with
  |none=>exact bj.none
  |some v=>exact bj.same v
 ·cases h:(cV (fun x y=>if y >x then y else x) args)with
  |none=>exact bj.none
  |some v=>exact bj.same v
 ·split
  ·split
   ·rename_i e a y c _
    cases h:lI m a with
    |true=>exact bj.none.of_eq (fun l=>by simp only[ck,h,cond_true])
    |false=>exact(bj.same (.int .i64 c)).of_eq (fun l=>by simp only[ck,h,cond_false])
   ·exact bj.same _
   ·exact bj.none
  ·exact bj.none
 ·exact bj.none
end
end Go.D
namespace Go.D
open Go
noncomputable section
variable {E:Env} {m:M}
end
end Go.D
namespace Go.D
open Go
inductive KV where
 |u
 |v (x:Value)
def KV.val:KV->Value
 |.u=>undef
 |.v x=>x
inductive KT where
 |e
 |c (t:Nat) (x:Option KV) (r:KT)
noncomputable def KT.get(K:KT):Nat->Option KV:=
 KT.rec (motive:=fun _=>Nat->Option KV) (fun _=>none) (fun t x _ g i=>bif Nat.beq t i then x else g i) K
noncomputable def KT.set(K:KT)(t:Nat)(x:KV):KT:=.c t (some x) K
noncomputable def KT.del(K:KT)(t:Nat):KT:=.c t none K
theorem KT.Ij{t i:Nat}{x:Option KV}{r:KT}:(KT.c t x r).get i=if i=t then x else r.get i:=by
 show(bif Nat.beq t i then x else r.get i)=_
 cases h:Nat.beq t i with
 |true=>rw[if_pos (Nat.eq_of_beq_eq_true h).symm];rfl
 |false=>rw[if_neg fun e=>Nat.ne_of_beq_eq_false h e.symm];rfl
theorem KT.bH(K:KT)(t i:Nat)(x:KV):(K.set t x).get i=if i=t then some x else K.get i:=KT.Ij
theorem KT.Le(K:KT)(t i:Nat):(K.del t).get i=if i=t then none else K.get i:=KT.Ij
structure St where
 K:KT
 m:M
 lo:Nat
def Kn(K:KT)(T:Tr Value):Prop:=∀t v,K.get t=some v->T.get t=some v.val
noncomputable section
def Kz(K:KT)(dst:Option Tmp)(v:KV):KT:=
 match dst with
 |some d=>K.set d v
 |none=>K
def jM(K:KT):Operand->Option Value
 |.tmp t=>match K.get t with |some k=>some k.val |none=>none
 |.const v=>some v
 |.global g=>some (.pointer (some ⟨g,0,none⟩))
 |.func f=>some (.func (.func f) #[] #[])
def wO(K:KT):List Operand->Option (List Value)
 |[]=>some []
 |x::xs=>match jM K x with
  |some v=>match wO K xs with
   |some vs=>some (v::vs)
   |none=>none
  |none=>none
def Je(K:KT):List (Nat×Operand)->Option (List (Nat×Value))
 |[]=>some []
 |p::xs=>match jM K p.2 with
  |some v=>match Je K xs with
   |some vs=>some ((p.1,v)::vs)
   |none=>none
  |none=>none
def QD(K:KT):Option Operand->Option (Option Value)
 |none=>some none
 |some x=>match jM K x with |some v=>some (some v) |none=>none
variable (E:Env) (X:aF)
def Cl(f:Fn)(args:List Value)(m:M)(b:Nat)(v:Value)(m':M):Prop:=
 m.n<=m'.n/\b<=m.n/\∃n0,∀n,n0<=n->∀l,l<=m.n->bV E X n f args (m.wl l)=some (v,m'.wl (min l b))
def V(c:Code)(s:St)(Q:Ex->St->Prop):Prop:=
 ∀T,Kn s.K T->s.lo<=s.m.n->∃e s' T',Q e s'/\Kn s'.K T'/\s.m.n<=s'.m.n/\s'.lo<=s'.m.n/\∃n0,∀n,n0<=n->
  bh E (bV E X n) n c ⟨T,s.m.wl s.lo⟩=some (e,⟨T',s'.m.wl s'.lo⟩)
def ah{α:Type}(r:Option α)(P:α->Prop):Prop:=match r with |some x=>P x |none=>False
def aO{α β:Type}(r:Option (α×β))(P:α->β->Prop):Prop:=match r with |some x=>P x.1 x.2 |none=>False
def bW(m:M)(P:M->Prop):Prop:=P m
def pB(b:Bool)(P Q:Prop):Prop:=match b with |true=>P |false=>Q
def aX(v:Value)(P Q:Prop):Prop:=match v with |.bool b=>pB b P Q |_=>False
def ku(v:Value)(P:Fn->Array Value->Array Value->Prop):Prop:=match v with |.func g fi ca=>P g fi ca |_=>False
def bB(f:Fn)(args:List Value)(m:M)(P:Value->M->Nat->Prop):Prop:=∃v m' b,Cl E X f args m b v m'/\P v m' b
def Lz(br:Bool)(c:Prop)(P:Prop):Prop:=match br with |true=>c/\P |false=>P
def un(vs:List Value)(P:Value->List Value->Prop):Prop:=match vs with |v::r=>P v r |[]=>False
variable {E}
def wj(v:Value):Option Value:=match v with |.pointer (some a)=>some (.pointer (some a)) |.func (.func f) a b=>some (.func (.func f) a b) |_=>none
def cx(v:Value)(i:Nat):Option Value:=match v with |.tuple vs=>vs.toList[i]? |_=>none
variable (E)
def ag(m:M)(t:TypeId)(a:Value):Option Value:=match a with |.pointer (some a)=>loadVar E m t a |_=>none
def aB(m:M)(t:TypeId)(a x:Value):Option (M×Nat):=match a with |.pointer (some a)=>(match storeVar E m t a x with |some m1=>some (m1,a.block) |none=>none) |_=>none
def rN(m:M)(t:TypeId)(x k y:Value):Option (M×Nat):=match x with |.map (some r)=>(match eh E m t x k y with |some m1=>some (m1,r) |none=>none) |_=>none
def ptrTo(b:Nat):Value:=.pointer (some ⟨b,0,none⟩)
def jn(G:(List Value->M->Nat->Prop)->Prop)(k:List Value->M->Nat->Prop):Prop:=G k
def Lp(F:(List Value->M->Nat->Prop)->List Value->M->Nat->Prop)(vs:List Value)(m:M)(lo:Nat):Prop:=
 ∃(γ:Type) (μ:γ->Nat) (I:γ->List Value->M->Nat->Prop),(∃g,I g vs m lo)/\
  ∀g vs m lo,I g vs m lo->F (fun vs m lo=>∃g',μ g' < μ g/\I g' vs m lo) vs m lo
def Ex.Md(e:Ex)(P Q:Prop):Prop:=match e with |.normal=>P |_=>Q
structure Ky(y:Nat)(m m':M):Prop where
 n:m.n<=m'.n
 get:∀c,c < m.n->c≠y->m'.get c=m.get c
structure Ext(m m':M):Prop where
 n:m.n<=m'.n
 get:∀b,b < m.n->m'.get b=m.get b
def OY(fr:Ob->Prop)(g:Fn)(fi ca:List Value)(xs:List (List Value))(Dt:M->Prop):Prop:=
 ∀(y n0 B:Nat) (I:Nat->M->Prop) (J:M->Prop) (m:M),(∀i m1,I i m1->Dt m1)->(∀i m1 m2,I i m1->Ext m1 m2->I i m2)->(∀m1 m2,J m1->Ext m1 m2->J m2)->
  y < n0->n0<=m.n->B<=n0->
  (∀i args m1,n0<=m1.n->xs[i]?=some args->I i m1->∃v m2 b,Cl E X (.yield y) args m1 b v m2/\B<=b/\b<=y/\(∀c,n0<=c->c < m1.n->fr (m1.get c)->m2.get c=m1.get c)/\((v=.bool true/\I (i+1) m2)\/(v=.bool false/\J m2)))->
  I 0 m->∃v m2 b,Cl E X g (fi++ .func (.yield y) #[] #[]::ca) m b v m2/\B<=b/\(I xs.length m2\/J m2)
def RF(g:Fn)(fi ca:List Value)(m:M)(lo:Nat)(F:List Value->M->(M->Ex->M->Nat->Prop)->Prop)(Q:M->Nat->Prop)(Qs:List (Ex×(M->Nat->Prop))):Prop:=
 ∃(fr:Ob->Prop) (xs:List (List Value)) (Dt:M->Prop) (I:Nat->M->Prop) (J:Ex->M->Prop) (B:Nat),(∃k,g=.func k)/\OY E X fr g fi ca xs Dt/\B<=m.n/\
  (∀i m1,I i m1->Dt m1)/\(∀i m1 m2,I i m1->Ky m.n m1 m2->I i m2)/\(∀e m1 m2,J e m1->Ky m.n m1 m2->J e m2)/\I 0 m/\
  (∀i args m1,m.n+1<=m1.n->xs[i]?=some args->I i m1->F args m1 fun m2 e m3 lo3=>B<=lo3/\(∀c,m.n<=c->c < m1.n->(c=m.n\/fr (m2.get c))->m3.get c=m2.get c)/\e.Md (I (i+1) m3) (J e m3))/\
  (∀m2 eZ,I xs.length m2->min lo B<=eZ->Q m2 eZ)/\(∀e m2 eZ,e≠.normal->J e m2->min lo B<=eZ->∃p∈Qs,p.1=e/\p.2 m2 eZ)
def HA(y:Nat)(m1 m:M)(P:M->Prop):Prop:=(∀c,y<=c->c < m1.n->m.get c=m1.get c)/\∀m2,m2.n=m.n->(∀c,c≠y->m2.get c=m.get c)->P m2
def vM(vs:List Value)(P:Prop):Prop:=match vs with |[]=>P |_=>False
structure Words where
 ah:{α:Type}->Option α->(α->Prop)->Prop
 aO:{α β:Type}->Option (α×β)->(α->β->Prop)->Prop
 bW:M->(M->Prop)->Prop
 bB:Fn->List Value->M->(Value->M->Nat->Prop)->Prop
 un:List Value->(Value->List Value->Prop)->Prop
 vM:List Value->Prop->Prop
 jn:((List Value->M->Nat->Prop)->Prop)->(List Value->M->Nat->Prop)->Prop
 Lp:((List Value->M->Nat->Prop)->List Value->M->Nat->Prop)->List Value->M->Nat->Prop
 RF:Fn->List Value->List Value->M->Nat->(List Value->M->(M->Ex->M->Nat->Prop)->Prop)->(M->Nat->Prop)->List (Ex×(M->Nat->Prop))->Prop
 HA:Nat->M->M->(M->Prop)->Prop
@[reducible] def aN:Words:=⟨D.ah,D.aO,D.bW,D.bB E X,D.un,D.vM,D.jn,D.Lp,D.RF E X,D.HA⟩
variable (W:Words)
def uV(ops:Array Oper)(j i t:Nat):Bool:=ops.toList.zipIdx.all fun(q,k)=> !(Nat.ble i k && Nat.blt k j && q.dst==some t)
def Hm(bf:Array Nat)(ops:Array Oper)(j:Nat)(x:Oper×Nat)(acc:Option (List (Bool×Nat))):Option (List (Bool×Nat)):=
 bif x.2==j ||ed x.1.op ||(bf.getD j 0).testBit x.2 ||(bf.getD x.2 0).testBit j then acc
 else bif Nat.blt x.2 j then(match x.1.op with
  |.alloc _ |.box _ _=>acc
  |.load _ (.tmp t)=>bif uV ops j x.2 t && x.1.guard.isNone then acc.map ((true,t)::·)else none
  |_=>bif kT x.1.op then acc else match lenOf x.1.op with
   |some t=>bif uV ops j x.2 t then acc.map ((false,t)::·)else none
   |none=>none)
 else none
def AE(ops:Array Oper)(j:Nat):Option (List (Bool×Nat)):=ops.toList.zipIdx.foldr (Hm (Region.before ops) ops j) (some [])
def dT(k:Option KV)(b:Nat):Prop:=match k with |some (.v (.pointer (some a)))=>a.block≠b |_=>False
def nU(k:Option KV):Prop:=match k with |some (.v (.map _))=>False |some _=>True |none=>False
def jJ(K:KT)(b:Nat):List (Bool×Nat)->Prop
 |[]=>True
 |(true,t)::ts=>dT (K.get t) b/\jJ K b ts
 |(false,t)::ts=>nU (K.get t)/\jJ K b ts
def QL(br:Bool)(pt:Option (List (Bool×Nat)))(K:KT)(c:Prop)(b:Nat)(P:Prop):Prop:=
 match br with
 |true=>(match pt with |none=>c |some ts=>c\/jJ K b ts)/\P
 |false=>P
def Ca(c:Call):Bool:=match c.callee,c.args.toList with |.value (.func g),[_]=>Nat.beq g uk |_,_=>false
def CX(m:M)(args:List Value):Option Nat:=match args with |[.pointer (some a)]=>ny m a |_=>none
def QK(br:Bool)(pt:Option (List (Bool×Nat)))(K:KT)(c:Prop)(bo:Option Nat)(b:Nat)(P:Prop):Prop:=
 match br with
 |true=>(match pt with |none=>c |some ts=>c\/(bo=some b/\jJ K b ts))/\P
 |false=>P
def PA(b:Builtin)(ts:List TypeId)(args:List Value)(br:Bool)(m:M)(lo:Nat)(P:Value->M->Nat->Prop):Prop:=
 match b with
 |.len |.cap |.min |.max=>W.aO (aq E m b ts args) fun v _=>P v m lo
 |_=>W.aO (aq E (m.wl m.n) b ts args) fun v m1=>Lz br (m.n<=m1.low) (P v m1 (min lo m1.low))
def R8(o:Op)(br:Bool)(pt:Option (List (Bool×Nat)))(K:KT)(m:M)(lo:Nat)(P:Value->M->Nat->Prop):Prop:=
 match o with
 |.move x |.assign x=>ah (jM K x) fun x=>P x m lo
 |.pick c a b=>ah (jM K c) fun c=>aX c (ah (jM K a) fun a=>P a m lo) (ah (jM K b) fun b=>P b m lo)
 |.alloc t=>ah (ig E t) fun z=>W.bW (m.push (.cells (cells z) t none)) fun m1=>P (ptrTo m.n) m1 lo
 |.box t x=>ah (jM K x) fun x=>W.bW (m.push (.cells (cells x) t none)) fun m1=>P (ptrTo m.n) m1 lo
 |.build t ps=>ah (Je K ps.toList) fun ps=>W.ah (aW E t ps) fun v=>P v m lo
 |.buildSlice t n ps=>ah (Je K ps.toList) fun ps=>W.aO (aE E m t n ps) fun v m1=>P v m1 lo
 |.load t a=>ah (jM K a) fun a=>W.ah (ag E m t a) fun v=>P v m lo
 |.store t a x=>ah (jM K a) fun a=>ah (jM K x) fun x=>W.aO (aB E m t a x) fun m1 b=>QL br pt K (m.n<=b) b (P undef m1 (min lo b))
 |.nilCheck x=>ah (jM K x) fun x=>ah (wj x) fun v=>P v m lo
 |.binOp op t x y _=>ah (jM K x) fun x=>ah (jM K y) fun y=>W.ah (an E op t x y) fun v=>P v m lo
 |.unOp op _ x=>ah (jM K x) fun x=>W.ah (iO op x) fun v=>P v m lo
 |.convert s d x=>ah (jM K x) fun x=>W.ah (Kb E m s d x) fun v=>P v m lo
 |.makeFunc f a b=>ah (wO K a.toList) fun a=>ah (wO K b.toList) fun b=>match f with
  |.func f=>P (.func (.func f) a.toArray b.toArray) m lo
  |_=>False
 |.makeMap _ r=>match r with
  |none=>W.bW (m.push (.map [] 0)) fun m1=>P (.map (some m.n)) m1 lo
  |some _=>False
 |.makeSlice t l c=>ah (jM K l) fun l=>ah (jM K c) fun c=>W.aO (dA E m t l c) fun v m1=>P v m1 lo
 |.slice t x a b c=>ah (jM K x) fun x=>ah (QD K a) fun a=>ah (QD K b) fun b=>ah (QD K c) fun c=>W.ah (slice? E m t x a b c) fun v=>P v m lo
 |.fieldAddr s x f=>ah (jM K x) fun x=>W.ah (ae E s x f) fun v=>P v m lo
 |.field t x f=>ah (jM K x) fun x=>W.ah (wN E t x f) fun v=>P v m lo
 |.indexAddr t x i=>ah (jM K x) fun x=>ah (jM K i) fun i=>W.ah (ai E t x i) fun v=>P v m lo
 |.index t x i=>ah (jM K x) fun x=>ah (jM K i) fun i=>W.ah (index? E t x i) fun v=>P v m lo
 |.lookup t x i ok=>ah (jM K x) fun x=>ah (jM K i) fun i=>W.ah (eK E m t x i ok) fun v=>P v m lo
 |.mapUpdate t x k y=>ah (jM K x) fun x=>ah (jM K k) fun k=>ah (jM K y) fun y=>W.aO (rN E m t x k y) fun m1 b=>Lz br (m.n<=b) (P undef m1 (min lo b))
 |.insert t x k y=>ah (jM K x) fun x=>ah (jM K k) fun k=>ah (jM K y) fun y=>W.aO (rN E m t x k y) fun m1 b=>Lz br (m.n<=b) (P undef m1 (min lo b))
 |.mapEntry t x k=>ah (jM K x) fun x=>ah (jM K k) fun k=>W.aO (dw E (m.wl m.n) t x k) fun v m1=>Lz br (m.n<=m1.low) (P v m1 (min lo m1.low))
 |.entryStore _ x s y=>ah (jM K x) fun x=>ah (jM K s) fun s=>ah (jM K y) fun y=>W.ah (cz (m.wl m.n) x s y) fun m1=>Lz br (m.n<=m1.low) (P undef m1 (min lo m1.low))
 |.extract x i=>ah (jM K x) fun x=>W.ah (cx x i) fun v=>P v m lo
 |.call c=>match c.callee with
  |.value f=>ah (jM K f) fun f=>ku f fun g fi ca=>ah (wO K c.args.toList) fun args=>W.bB g (fi.toList++(args++ca.toList)) m fun v m1 b=>bif Ca c then QK br pt K (m.n<=b) (CX m args) b (P v m1 (min lo b))else Lz br (m.n<=b) (P v m1 (min lo b))
  |.builtin b=>ah (wO K c.args.toList) fun args=>PA E W b c.argTypes.toList args br m lo P
  |_=>False
 |_=>False
def FK(ops:Array Oper)(K:KT)(o:Oper)(P S:KT->Prop):Prop:=
 match o.guard with
 |none=>P K
 |some (j,want)=>match(ops.toList[j]?).bind (·.dst)with
  |some d=>match K.get d with
   |some (.v v)=>aX v (cond want (P (K.set d (.v (.bool true)))) (S (K.set d (.v (.bool true))))) (cond want (S (K.set d (.v (.bool false)))) (P (K.set d (.v (.bool false)))))
   |some .u=>S K
   |none=>False
  |none=>S K
def FL(d:Bool)(ops:Array Oper):List Oper->Nat->St->(St->Prop)->Prop
 |[],_,s,P=>P s
 |o::rest,j,s,P=>FK ops s.K o
   (fun K=>R8 E W o.op (d && !(dC ops j)) (bif d && !(dC ops j)then AE ops j else none) K s.m s.lo fun v m lo=>FL d ops rest (j+1) ⟨Kz K o.dst (.v v),m,lo⟩ P)
   (fun K=>FL d ops rest (j+1) ⟨Kz K o.dst .u,s.m,s.lo⟩ P)
def Ex.CV(id:Nat)(e:Ex):Ex:=match e with |.exit id'=>bif Nat.beq id' id then .normal else .exit id' |e=>e
def assigned:Code->List Nat
 |.region _ ops _=>ops.toList.filterMap (·.dst)
 |.seq a b=>assigned a++assigned b
 |.cond _ x y=>assigned x++assigned y
 |.block _ c |.loop c |.scope c=>assigned c
 |_=> []
def carried(K:KT):List Nat->List Nat->List Nat
 |[],acc=>acc
 |t::ts,acc=>bif acc.contains t then carried K ts acc else match K.get t with
  |some (.v _)=>carried K ts (acc++ [t])
  |_=>carried K ts acc
def forget(K:KT):List Nat->KT
 |[]=>K
 |t::ts=>forget (K.del t) ts
def zX:List Nat->List Value->KT->(KT->Prop)->Prop
 |[],_,K,f=>f K
 |t::ts,vs,K,f=>W.un vs fun v r=>zX ts r (K.set t (.v v)) f
def CY:List Nat->List Value->KT->(KT->Prop)->Prop
 |[],vs,K,f=>W.vM vs (f K)
 |t::ts,vs,K,f=>W.un vs fun v r=>CY ts r (K.set t (.v v)) f
def pR(K:KT):List Nat->Option (List Value)
 |[]=>some []
 |t::ts=>match K.get t with
  |some (.v v)=>match pR K ts with
   |some vs=>some (v::vs)
   |none=>none
  |_=>none
def AB(xs:List Operand):List Nat:=xs.filterMap fun |.tmp t=>some t |_=>none
def reads:Code->List Nat
 |.region _ ops _=>ops.toList.flatMap fun o=>AB o.op.operands.toList
 |.seq a b=>reads a++reads b
 |.cond c x y=>AB [c]++(reads x++reads y)
 |.block _ c |.loop c |.scope c=>reads c
 |.rangeFunc f _ a b=>AB [f]++(reads a++reads b)
 |_=> []
def parts:Code->Bool
 |.region _ ops _=>ops.toList.any fun o=>o.guard.isSome
 |_=>false
def dedup:List Nat->List Nat->List Nat
 |[],acc=>acc
 |t::ts,acc=>bif acc.contains t then dedup ts acc else dedup ts (acc++ [t])
def HR(a:Code)(rd:List Nat):List Nat:=(dedup (assigned a) []).filter rd.contains
def OR(e:Ex)(l:List Ex):List Ex:=bif l.any (·==e)then l else l++ [e]
def iw:Code->List Ex->List Ex
 |.exit id,acc=>OR (.exit id) acc
 |.ret,acc=>OR .ret acc
 |.seq a b,acc=>iw b (iw a acc)
 |.cond _ x y,acc=>iw y (iw x acc)
 |.block id c,acc=>(iw c []).foldl (fun acc e=>bif e==.exit id then acc else OR e acc) acc
 |.loop c,acc |.scope c,acc=>iw c acc
 |.rangeFunc _ _ _ b,acc=>iw b acc
 |_,acc=>acc
def leaves(c:Code):List Ex:=iw c []
def uj:Code->List Nat->St->(Ex->St->Prop)->Prop
 |.skip,_,s,Q=>Q .normal s
 |.label _,_,s,Q=>Q .normal s
 |.region _ ops d,_,s,Q=>FL E W d ops ops.toList 0 s (Q .normal)
 |.seq a b,rd,s,Q=>
  bif parts a then
   W.jn (fun R=>uj a (reads b++rd) s fun e s'=>e.Md (ah (pR s'.K (HR a (reads b++rd))) fun vs=>R vs s'.m s'.lo) (Q e s'))
    (fun vs m lo=>zX W (HR a (reads b++rd)) vs (forget s.K (assigned a)) fun K=>uj b rd ⟨K,m,lo⟩ Q)
  else uj a (reads b++rd) s fun e s=>e.Md (uj b rd s Q) (Q e s)
 |.cond c x y,rd,s,Q=>ah (jM s.K c) fun v=>aX v (uj x rd s Q) (uj y rd s Q)
 |.block id c,rd,s,Q=>uj c rd s fun e s=>Q (e.CV id) s
 |.exit id,_,s,Q=>Q (.exit id) s
 |.ret,_,s,Q=>Q .ret s
 |.loop c,rd,s,Q=>
  ah (pR s.K (carried s.K (assigned c) [])) fun vs=>W.Lp (fun P vs m lo=>zX W (carried s.K (assigned c) []) vs (forget s.K (assigned c)) fun K=>uj c (carried s.K (assigned c) []++rd) ⟨K,m,lo⟩ fun e s'=>
   e.Md (ah (pR s'.K (carried s.K (assigned c) [])) fun vs=>P vs s'.m s'.lo) (Q e s')) vs s.m s.lo
 |.scope c,rd,s,Q=>uj c rd s Q
 |.rangeFunc f ps a b,_,s,Q=>ah (jM s.K f) fun f=>ku f fun g fi ca=>W.RF g fi.toList ca.toList s.m s.lo
   (fun args m1 Qb=>CY W ps.toList args s.K fun K1=>uj a (reads b) ⟨K1,m1,m1.n⟩ fun e s1=>e.Md (W.HA s.m.n m1 s1.m fun m2=>uj b [] ⟨s1.K,m2,min s1.lo s.m.n⟩ fun e2 s2=>Qb m2 e2 s2.m s2.lo) False)
   (fun m lo=>Q .normal ⟨s.K,m,lo⟩) ((leaves b).map fun e=>(e,fun m lo=>Q e ⟨s.K,m,lo⟩))
 |_,_,_,_=>False
end
section
variable {E:Env} {X:aF}
theorem aa{α:Type}{x:α}{P:α->Prop}:ah (some x) P=P x:=rfl
theorem au{α β:Type}{x:α}{y:β}{P:α->β->Prop}:aO (some (x,y)) P=P x y:=rfl
theorem aQ{α:Type}{r:Option α}{P:α->Prop}:ah r P↔∃x,r=some x/\P x:=by
 cases r with
 |none=>exact⟨fun h=>h.elim,fun⟨x,h,_⟩=>by cases h⟩
 |some y=>exact⟨fun h=>⟨y,rfl,h⟩,fun⟨x,h,hp⟩=>by cases h;exact hp⟩
theorem jS{α β:Type}{r:Option (α×β)}{P:α->β->Prop}:aO r P↔∃x y,r=some (x,y)/\P x y:=by
 cases r with
 |none=>exact⟨fun h=>h.elim,fun⟨x,y,h,_⟩=>by cases h⟩
 |some y=>exact⟨fun h=>⟨y.1,y.2,rfl,h⟩,fun⟨x,y,h,hp⟩=>by cases h;exact hp⟩
theorem KX{b:Bool}{P Q:Prop}:pB b P Q↔(b=true->P)/\(b=false->Q):=by
 cases b with
 |true=>exact⟨fun h=>⟨fun _=>h,fun e=>by cases e⟩,fun h=>h.1 rfl⟩
 |false=>exact⟨fun h=>⟨(fun e=>by cases e),fun _=>h⟩,fun h=>h.2 rfl⟩
theorem wK{v:Value}{P Q:Prop}:aX v P Q↔∃b,v=.bool b/\pB b P Q:=by
 constructor
 ·intro h
  cases v with
  |bool b=>exact⟨b,rfl,h⟩
  |_=>exact h.elim
 ·rintro⟨b,rfl,h⟩;exact h
theorem yY{v:Value}{P:Fn->Array Value->Array Value->Prop}:ku v P↔∃g fi ca,v=.func g fi ca/\P g fi ca:=by
 constructor
 ·intro h
  cases v with
  |func g fi ca=>exact⟨g,fi,ca,rfl,h⟩
  |_=>exact h.elim
 ·rintro⟨g,fi,ca,rfl,h⟩;exact h
theorem FQ{vs:List Value}{P:Value->List Value->Prop}:un vs P↔∃v r,vs=v::r/\P v r:=by
 cases vs with
 |nil=>exact⟨fun h=>h.elim,fun⟨v,r,h,_⟩=>by cases h⟩
 |cons v r=>exact⟨fun h=>⟨v,r,rfl,h⟩,fun⟨v,r,h,hp⟩=>by cases h;exact hp⟩
theorem rU{br:Bool}{c P:Prop}:Lz br c P↔(br=true->c)/\P:=by
 cases br with
 |true=>exact⟨fun h=>⟨fun _=>h.1,h.2⟩,fun h=>⟨h.1 rfl,h.2⟩⟩
 |false=>exact⟨fun h=>⟨(fun e=>by cases e),h⟩,fun h=>h.2⟩
theorem Kn.put{K:KT}{T:Tr Value}(h:Kn K T)(d:Option Tmp)(v:KV):Kn (Kz K d v) (put T d v.val):=by
 cases d with
 |none=>exact h
 |some d=>
  intro t x hx
  simp only[D.put,Kz,Tr.bH,KT.bH]at hx⊢
  split
  ·rename_i e;rw[if_pos e]at hx;cases hx;rfl
  ·rename_i e;rw[if_neg e]at hx;exact h t x hx
theorem Kn.again{K:KT}{T:Tr Value}(h:Kn K T){d:Nat}{v:Value}(hd:K.get d=some (.v v)):Kn (K.set d (.v v)) T:=by
 intro t x hx
 simp only[KT.bH]at hx
 split at hx
 ·rename_i e;cases hx;rw[e];exact h d _ hd
 ·exact h t x hx
theorem Kn.set{K:KT}{T:Tr Value}(h:Kn K T){d:Nat}{v:Value}(hd:T.get d=some v):Kn (K.set d (.v v)) T:=by
 intro t x hx
 simp only[KT.bH]at hx
 split at hx
 ·rename_i e;cases hx;rw[e];exact hd
 ·exact h t x hx
theorem aS{K:KT}{T:Tr Value}(h:Kn K T){x:Operand}{v:Value}(hx:jM K x=some v):ev T x=v:=by
 cases x with
 |tmp t=>
  simp only[jM]at hx
  split at hx
  ·rename_i k hk
   cases hx
   simp only[ev,gR,h t k hk,Option.getD_some]
  ·cases hx
 |const c=>cases hx;rfl
 |global g=>cases hx;rfl
 |func f=>cases hx;rfl
theorem jD{K:KT}{T:Tr Value}(h:Kn K T):∀{xs:List Operand} {vs:List Value},wO K xs=some vs->xs.map (ev T)=vs
 |[],vs,hx=>by cases hx;rfl
 |x::xs,vs,hx=>by
  unfold wO at hx
  split at hx
  ·rename_i v h1
   split at hx
   ·rename_i vs' h2
    cases hx
    simp only[List.map_cons,aS h h1,jD h h2]
   ·cases hx
  ·cases hx
theorem nZ{K:KT}{T:Tr Value}(h:Kn K T):∀{xs:List (Nat×Operand)} {vs:List (Nat×Value)},Je K xs=some vs->xs.map (fun p=>(p.1,ev T p.2))=vs
 |[],vs,hx=>by cases hx;rfl
 |x::xs,vs,hx=>by
  unfold Je at hx
  split at hx
  ·rename_i v h1
   split at hx
   ·rename_i vs' h2
    cases hx
    simp only[List.map_cons,aS h h1,nZ h h2]
   ·cases hx
  ·cases hx
theorem qw{K:KT}{T:Tr Value}(h:Kn K T){x:Option Operand}{v:Option Value}(hx:QD K x=some v):x.map (ev T)=v:=by
 cases x with
 |none=>cases hx;rfl
 |some x=>
  unfold QD at hx
  dsimp only at hx
  split at hx
  ·rename_i w h1
   cases hx
   simp only[Option.map_some,aS h h1]
  ·cases hx
def Mt(E:Env)(X:aF)(o:Op)(br:Bool)(pt:Option (List (Bool×Nat)))(K:KT)(T:Tr Value)(m:M)(lo:Nat)(P:Value->M->Nat->Prop):Prop:=
 ∃v m1 w,P v m1 (min lo w)/\m.n<=m1.n/\(br=true->m.n<=w\/∃ts,pt=some ts/\jJ K w ts/\eI m T o=some w)/\
  ∃n0,∀n,n0<=n->∀l,l<=m.n->cJ o E (bV E X n) T (m.wl l)=some (v,m1.wl (min l w))
theorem Mt.push{o:Op}{br:Bool}{pt:Option (List (Bool×Nat))}{K:KT}{T:Tr Value}{m:M}{lo:Nat}{P:Value->M->Nat->Prop}{v:Value}{m1:M}(hlo:lo<=m.n)(hP:P v m1 lo)(hn:m.n<=m1.n)(h:∀n l,cJ o E (bV E X n) T (m.wl l)=some (v,m1.wl l)):Mt E X o br pt K T m lo P:=
 ⟨v,m1,m.n,by rw[Nat.min_eq_left hlo];exact hP,hn,fun _=> .inl (Nat.le_refl _),0,fun n _ l hl=>by rw[Nat.min_eq_left hl];exact h n l⟩
theorem Mt.bw{o:Op}{br:Bool}{pt:Option (List (Bool×Nat))}{K:KT}{T:Tr Value}{m:M}{lo:Nat}{P:Value->M->Nat->Prop}{v:Value}(hlo:lo<=m.n)(hP:P v m lo)(h:∀n l,cJ o E (bV E X n) T (m.wl l)=some (v,m.wl l)):Mt E X o br pt K T m lo P:=
 .push hlo hP (Nat.le_refl _) h
theorem qH{m m1:M}{t:TypeId}{a:Addr}{x:Value}(h:storeVar E m t a x=some m1)(l:Nat):storeVar E (m.wl l) t a x=some (m1.wl (min l a.block))/\m1.n=m.n:=by
 unfold storeVar at h⊢
 cases ht:E.ty.get t with
 |none=>rw[ht]at h;cases h
 |some ti=>
  rw[ht]at h
  dsimp only at h⊢
  cases hb:Nat.beq (cells x).length ti.size with
  |false=>rw[hb]at h;cases h
  |true=>
   rw[hb]at h
   simp only[cond_true]at h⊢
   unfold storeCells at h⊢
   rw[M.cm]
   cases hg:m.get a.block with
   |cells c e g=>
    rw[hg]at h
    dsimp only at h⊢
    cases hc:(a.spot.isNone && Nat.ble (a.off+(cells x).length) c.length && (cells x).all one)with
    |false=>rw[hc]at h;cases h
    |true=>rw[hc]at h;cases h;exact⟨rfl,rfl⟩
   |_=>rw[hg]at h;cases h
theorem ia{m m1:M}{t:TypeId}{r:Nat}{k y:Value}(h:eh E m t (.map (some r)) k y=some m1)(l:Nat):eh E (m.wl l) t (.map (some r)) k y=some (m1.wl (min l r))/\m1.n=m.n:=by
 unfold eh at h⊢
 cases ht:E.ty.get t with
 |none=>rw[ht]at h;cases h
 |some ti=>
  rw[ht]at h
  dsimp only at h⊢
  rw[M.cm]
  cases hd:ti.d with
  |map kt et=>
   cases hg:m.get r with
   |map es clock=>
    rw[hd,hg]at h
    dsimp only at h⊢
    cases hk:keyed E kt k with
    |false=>rw[hk]at h;cases h
    |true=>
     rw[hk]at h
     simp only[cond_true]at h⊢
     cases hf:findKey E kt k es 0 with
     |none=>rw[hf]at h;cases h
     |some p=>
      rw[hf]at h
      cases p with
      |none=>cases h;exact⟨rfl,rfl⟩
      |some q=>cases h;exact⟨rfl,rfl⟩
   |_=>rw[hd,hg]at h;cases h
  |_=>rw[hd]at h;cases h
theorem mi{m m1:M}{t:TypeId}{n:Nat}{ps:List (Nat×Value)}{v:Value}(h:aE E m t n ps=some (v,m1))(l:Nat):aE E (m.wl l) t n ps=some (v,m1.wl l)/\m.n<=m1.n:=by
 unfold aE at h⊢
 split at h
 ·cases h
 ·split at h
  ·split at h
   ·cases h
   ·rename_i ti ht _ e hd _ z hz
    cases hb:(Nat.beq (cells z).length ti.es && Nat.ble (n*ti.es) 1048576)with
    |false=>rw[hb]at h;cases h
    |true=>
     rw[hb]at h
     simp only[cond_true]at h
     cases hf:fill (fun i=>some (i*ti.es,ti.es)) (fO (cells z) n) ps with
     |none=>rw[hf]at h;cases h
     |some cs=>
      rw[hf]at h
      cases h
      refine⟨?_,Nat.le_succ _⟩
      simp only[ht,hd,hz,hb,cond_true,hf]
      rfl
  ·cases h
theorem nh{m m1:M}{t:TypeId}{x y v:Value}(h:dA E m t x y=some (v,m1))(l:Nat):dA E (m.wl l) t x y=some (v,m1.wl l)/\m.n<=m1.n:=by
 have hl:=(sX (E:=E) (m:=m) (t:=t) (x:=x) (y:=y))
 unfold dA at h⊢
 cases ht:E.ty.get t with
 |none=>rw[ht]at h;cases h
 |some ti=>
  rw[ht]at h
  dsimp only at h⊢
  split at h
  ·rename_i e k a k' c hd
   cases he:E.ty.get e with
   |none=>rw[he]at h;cases h
   |some ei=>
    rw[he]at h
    dsimp only at h
    cases hz:ei.zero with
    |none=>rw[hz]at h;cases h
    |some z=>
     rw[hz]at h
     dsimp only at h
     split at h
     ·rename_i hc
      cases h
      refine⟨?_,Nat.le_succ _⟩
      simp only[hd,he,hz]
      rw[if_pos hc]
      rfl
     ·cases h
  ·cases h
theorem uE{m m1:M}{b:Builtin}{ts:List TypeId}{args:List Value}{v:Value}(hb:b=.len\/b=.cap\/b=.min\/b=.max)(h:aq E m b ts args=some (v,m1))(l:Nat):aq E (m.wl l) b ts args=some (v,m.wl l):=by
 rcases hb with rfl |rfl |rfl |rfl
 ·unfold aq at h⊢
  split at h
  all_goals try (rename_i hq;first |cases hq |skip)
  all_goals first |(simp only[cM];cases hl:nV E m _ _ with |none=>rw[hl]at h;cases h |some w=>rw[hl]at h;cases h;rfl) |cases h |skip
 ·unfold aq at h⊢
  split at h
  all_goals try (rename_i hq;first |cases hq |skip)
  ·split at h
   ·split at h
    ·rename_i ti ht _ _ e a n c hd
     cases hs:lI m a with
     |true=>rw[hs]at h;cases h
     |false=>
      rw[hs]at h;cases h
      simp only[ht,hd,ck,hs,cond_false]
    ·rename_i ti ht _ _ e n c hd
     cases h
     simp only[ht,hd]
    ·cases h
   ·cases h
  ·cases h
 ·have h:(cV (fun x y=>if y < x then y else x) args).map (·,m)=some (v,m1):=h
  show(cV (fun x y=>if y < x then y else x) args).map (·,m.wl l)=some (v,m.wl l)
  cases hl:cV (fun x y=>if y < x then y else x) args with
  |none=>rw[hl]at h;cases h
  |some w=>rw[hl]at h;cases h;rfl
 ·have h:(cV (fun x y=>if y >x then y else x) args).map (·,m)=some (v,m1):=h
  show(cV (fun x y=>if y >x then y else x) args).map (·,m.wl l)=some (v,m.wl l)
  cases hl:cV (fun x y=>if y >x then y else x) args with
  |none=>rw[hl]at h;cases h
  |some w=>rw[hl]at h;cases h;rfl
noncomputable section
def Be:List Value->Nat->KT
 |[],_=> .e
 |v::vs,i=>(Be vs (i+1)).set i (.v v)
def Ed(E:Env)(K:KT)(m:M):List ResultVar->(List Value->Prop)->Prop
 |[],f=>f []
 |.tmp t::rs,f=>ah (match K.get t with |some k=>some k.val |none=>none) fun v=>Ed E K m rs fun vs=>f (v::vs)
 |.cell a t::rs,f=>ah (match K.get a with |some k=>some k.val |none=>none) fun a=>ah (ag E m t a) fun v=>Ed E K m rs fun vs=>f (v::vs)
def bs:List Value->Value
 |[v]=>v
 |vs=> .tuple vs.toArray
def post(E:Env)(rs:List ResultVar)(R:List Value->M->Nat->Prop):Ex->St->Prop:=fun e s=>match e with
 |.exit _=>False
 |_=>Ed E s.K s.m rs fun vs=>R vs s.m s.lo
def Cd(rs:List ResultVar):List Nat:=rs.map fun |.tmp t=>t |.cell a _=>a
def dN(E:Env)(W:Words)(fn:Func)(args:List Value)(m:M)(R:List Value->M->Nat->Prop):Prop:=
 match fn.body with
 |some body=>uj E W body (Cd fn.results.toList) ⟨Be args 0,m,m.n⟩ (post E fn.results.toList R)
 |none=>False
end
end
end Go.D
