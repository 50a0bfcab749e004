/- copy, clear, len, cap, min, max; maps. Records of loops stay records of loops. One operation: D's and the model's. A region that does not draw. -/
import Derived.Test.YtmdfgncoekfgdaaGreatDoorG1J
import Derived.Laws.BytesString
import Derived.MapKept
import Derived.Test.YtmdfgncoekfgdaaGreatDoorG0J
import Derived.TacticsIn
namespace Go.D
open Go
section
variable {E:Env} {P:Program} {σ:Sg} {m m':M} {w:World}
theorem nI(a:Addr):(Go.storeCells a []).run P w=.ok () w:=by simp[Go.storeCells]
theorem AW{s:Nat}{x:Value}{cs:List Value}(h:first? m s 0 x=some cs):cs=[]:=by
 unfold first? at h
 split at h
 ·simpa using h.symm
 ·simpa using h.symm
 ·cases h
  simp
 ·cases h
theorem Bk(hE:E.OK P)(hs:dB P σ m w){t ty:TypeId}{ts:Array TypeId}{d x d' x' v:Value}(ht:ts[0]?=some t)(h:tT E m t d x=some (v,m'))(hd:aJ σ d d')(hx:aJ σ x x'):
  uK P σ m w (Builtin.copy_ ts ty #[d',x']) v m':=by
 unfold tT at h
 split at h
 ·rename_i ti base dl _ xl hti hxl
  obtain⟨i,u,f⟩:=hE.jO hti
  split at h
  ·rename_i e cs htd hf
   rw[f.d]at htd
   obtain rfl:=cL htd
   cases hz:Nat.beq ti.es 0 with
   |true=>rw[hz]at h;simp at h
   |false=>
    rw[hz]at h
    simp only[cond_false]at h
    obtain⟨ei,hei,hes⟩:=od (P:=P) (u:=.slice e) (by rw[<-f.es];exact Nat.ne_of_beq_eq_false hz) (.inl rfl)
    have hsz:ti.es=ei.size:=by rw[f.es,hes]
    rw[hsz]at hf
    have hn:Nat.min xl dl=min xl dl:=rfl
    have hln:=po (P:=P) (w:=w) hxl hx
    obtain⟨cs',hf',hr⟩:=lS (P:=P) hs hf hx (fun l hl=>by rw[hxl]at hl;cases hl;exact Nat.min_le_left _ _)
    cases base with
    |none=>
     obtain⟨rfl,_,rfl⟩:=hd.dH
     cases h
     refine uK.pure hs (v':=.int .i64 (min xl 0:Nat)) ?_ (.flat _ rfl)
     simp[Builtin.copy_,ht,run_underlying f.dV,hln,run_sizeOf hei]at hf'⊢
     simp[hf',goInt]
    |some a=>
     obtain⟨bi,a',c',hbi,rfl,hcase⟩:=hd.cW
     simp only[Option.map_eq_some_iff,Prod.mk.injEq]at h
     obtain⟨m2,h,rfl,rfl⟩:=h
     by_cases h0:min xl dl=0
     ·rw[h0]at h
      simp only[Nat.beq_refl,cond_true,Option.some.injEq]at h
      subst h
      rw[h0]at hf hf'
      have hcs:=AW hf
      subst hcs
      obtain rfl:=hr.nil_eq
      refine uK.pure hs (v':=.int .i64 (min xl dl:Nat)) ?_ (.flat _ rfl)
      simp[Builtin.copy_,ht,run_underlying f.dV,hln,run_sizeOf hei,hn,h0,hf',nI,goInt]
     ·rw[fL h0]at h
      simp only[cond_false]at h
      rcases hcase with⟨hsp,rfl,_⟩ |⟨rfl,_⟩
      ·obtain⟨w',hw1,hw2,_⟩:=fc hs hbi hr h
       refine⟨σ,w',.int .i64 (min xl dl:Nat),?_,.flat _ rfl,hw2⟩
       simp[Builtin.copy_,ht,run_underlying f.dV,hln,run_sizeOf hei,hn,hf',hw1,goInt]
      ·simp at h0
  ·cases h
 ·cases h
theorem zT(hE:E.OK P)(hs:dB P σ m w){t ty:TypeId}{x x' v:Value}(h:oh E m t x=some (v,m'))(hx:aJ σ x x'):
  uK P σ m w (Builtin.clear_ #[t] ty #[x']) v m':=by
 unfold oh at h
 split at h
 ·rename_i ti _ _ hti
  obtain⟨i,u,f⟩:=hE.jO hti
  cases h
  obtain⟨_,_,rfl⟩:=hx.dH
  refine uK.pure hs (v':=.tuple #[]) ?_ aJ.undef
  simp[Builtin.clear_,run_underlying f.dV]
 ·rename_i ti a n _ hti
  obtain⟨i,u,f⟩:=hE.jO hti
  obtain⟨bi,a',c',hbi,rfl,hcase⟩:=hx.cW
  by_cases h0:n=0
  ·subst h0
   simp only[Nat.beq_refl,cond_true,Option.some.injEq,Prod.mk.injEq]at h
   obtain⟨rfl,rfl⟩:=h
   refine uK.pure hs (v':=.tuple #[]) ?_ aJ.undef
   simp[Builtin.clear_,run_underlying f.dV]
  ·rw[fL h0]at h
   simp only[cond_false]at h
   split at h
   ·rename_i e hd
    rw[f.d]at hd
    obtain rfl:=cL hd
    split at h
    ·rename_i z hz
     simp only[Option.map_eq_some_iff,Prod.mk.injEq]at h
     obtain⟨m2,h,rfl,rfl⟩:=h
     unfold ig at hz
     cases he:E.ty.get e with
     |none=>rw[he]at hz;simp at hz
     |some ei=>
      rw[he]at hz
      simp only[Option.bind_some]at hz
      obtain⟨ie,ue,fe⟩:=hE.jO he
      have hzr:=(aJ.eB (σ:=σ) (hE.flat he hz)).cells
      have hr:=cZ (w:=w) fe.info (by rw[<-fe.zero];exact hz)
      rcases hcase with⟨hsp,rfl,_⟩ |⟨rfl,_⟩
      ·obtain⟨w',hw1,hw2,_⟩:=fc hs hbi (mq hzr n) h
       refine⟨σ,w',.tuple #[],?_,aJ.undef,hw2⟩
       have hzc:(Builtin.zeroCells z.cells n).toList=fO z.cells.toList n:=by rw[Builtin.zeroCells,lL]
       obtain⟨n,rfl⟩:∃k,n=k+1:=⟨n-1,by omega⟩
       simp[Builtin.clear_,run_underlying f.dV,hr,hzc,hw1]
      ·omega
    ·cases h
   ·cases h
 ·cases h
theorem Es(hE:E.OK P)(hs:dB P σ m w){t ty:TypeId}{x x' v:Value}(h:nV E m t x=some v)(hx:aJ σ x x'):(Builtin.len_ #[t] ty #[x']).run P w=.ok v w/\bL v=true:=by
 unfold nV at h
 split at h
 ·cases h
 ·rename_i ti hti
  obtain⟨i,u,f⟩:=hE.jO hti
  split at h
  ·rename_i s hd
   rw[f.d]at hd
   obtain rfl:=fY hd
   cases h
   rw[hx.string]
   exact⟨by simp[Builtin.len_,run_underlying f.dV,goInt],rfl⟩
  ·rename_i n e hd
   rw[f.d]at hd
   obtain rfl:=gM hd
   cases h
   exact⟨by simp[Builtin.len_,run_underlying f.dV,goInt],rfl⟩
  ·rename_i e b n c hd
   rw[f.d]at hd
   obtain rfl:=cL hd
   cases h
   obtain⟨b',c',rfl,_⟩:=hx.pZ
   exact⟨by simp[Builtin.len_,run_underlying f.dV,goInt],rfl⟩
  ·rename_i k e hd
   rw[f.d]at hd
   obtain rfl:=jx hd
   cases h
   rw[hx.map_nil]
   exact⟨by simp[Builtin.len_,run_underlying f.dV,goInt],rfl⟩
  ·rename_i k e r hd
   rw[f.d]at hd
   obtain rfl:=jx hd
   split at h
   ·rename_i es clock hg
    cases h
    obtain⟨bi,hbi,rfl⟩:=hx.kV
    have ho:=hs.obj _ _ hbi
    rw[hg]at ho
    obtain⟨_,es',h1,h2,_⟩:=ho
    refine⟨?_,rfl⟩
    have hg2:(getObj bi.bX).run P w=.ok (.map es' clock) w:=by simp[getObj,Sem.run,h1]
    simp[Builtin.len_,run_underlying f.dV,hg2,goInt,h2]
   ·cases h
  ·cases h
theorem qQ{g:Int->Int->Int}{op:Value->Value->Sem Value}(hop:∀k x k' y,(op (.int k x) (.int k' y)).run P w=.ok (.int k (g x y)) w):
  ∀(l l':List Value) (k:IntKind) (x:Int) (v:Value),aT σ l l'->zE g k x l=some v->(l'.foldlM op (.int k x)).run P w=.ok v w/\bL v=true
 |[],l',k,x,v,hl,h=>by
  obtain rfl:=hl.nil_eq
  simp only[zE,Option.some.injEq]at h
  subst h
  exact⟨rfl,rfl⟩
 |y::l,l',k,x,v,hl,h=>by
  unfold zE at h
  split at h
  ·rename_i heq;cases heq
  ·rename_i k' y' rest heq
   cases heq
   obtain⟨v',l2,rfl,hv,hl2⟩:=hl.cases
   rw[hv.int]
   obtain⟨h1,h2⟩:=qQ hop _ _ _ _ _ hl2 h
   exact⟨by rw[List.foldlM_cons,Sem.run_bind,hop,Result.andThen_ok];exact h1,h2⟩
  ·cases h
theorem lR{g:Int->Int->Int}{op:Value->Value->Sem Value}(hop:∀k x k' y,(op (.int k x) (.int k' y)).run P w=.ok (.int k (g x y)) w){l l':List Value}{v:Value}(hl:aT σ l l')(h:cV g l=some v):
  ∃x rest,l'=x::rest/\(rest.foldlM op x).run P w=.ok v w/\bL v=true:=by
 unfold cV at h
 split at h
 ·obtain⟨v',l2,rfl,hv,hl2⟩:=hl.cases
  rw[hv.int]
  exact⟨_,_,rfl,qQ hop _ _ _ _ _ hl2 h⟩
 ·cases h
theorem uB(hs:dB P σ m w)(t:TypeId):uK P σ m w (Instr.makeMap t none) (.map (some m.n)) (m.push (.map [] 0)):=by
 refine⟨σ.add m.n ⟨w.heap.size,none⟩,w.alloc (.map #[] 0),.map (some w.heap.size),?_,.map _ ⟨w.heap.size,none⟩ (Sg.add_same _ _),?_⟩
 ·simp[Instr.makeMap]
 ·exact Ev.mL hs ⟨rfl, #[],heap_alloc_new w _,rfl,fun j e e' h=>by simp at h⟩
theorem kY{kt:TypeId}{k:Value}(h:keyed E kt k=true):gg k=true:=by
 unfold keyed at h
 split at h
 ·split at h
  ·rfl
  ·rfl
  ·rfl
  ·simp only[Bool.and_eq_true]at h
   exact h.1.2
  ·cases h
 ·cases h
theorem aJ.iy{v v':Value}(h:aJ σ v v')(h0:gg v=true):v'=v:=by
 by_cases hc:bL v=true
 ·exact h.aK hc
 ·cases v with
  |agg a=>
   obtain⟨a',rfl,ha⟩:=h.iZ
   congr 1
   apply Array.ext'
   apply List.ext_getElem?
   intro j
   cases hj:a.toList[j]? with
   |none=>exact List.getElem?_eq_none (by rw[<-ha.1];exact List.getElem?_eq_none_iff.1 hj)
   |some u=>
    obtain⟨u',hu,hr⟩:=ha.get hj
    rw[hu,hr.aK (List.all_eq_true.1 h0 u (List.mem_of_getElem? hj))]
  |_=>exact absurd h0 hc
theorem Az(hE:E.OK P){t:TypeId}(h:scalar E t=true):∃u,P.underlying t=some u/\(u=.bool\/(∃k,u=.int k)\/u=.string):=by
 unfold scalar at h
 split at h
 ·rename_i fi hfi
  obtain⟨i,u,f⟩:=hE.jO hfi
  refine⟨u,f.dV,?_⟩
  split at h
  ·rename_i hd;exact .inl (mM (by rw[<-f.d];exact hd))
  ·rename_i k hd;exact .inr (.inl ⟨k,jy (by rw[<-f.d];exact hd)⟩)
  ·rename_i hd;exact .inr (.inr (fY (by rw[<-f.d];exact hd)))
  ·cases h
 ·cases h
theorem nk(hE:E.OK P)(e:Bool)(n:Nat)(cs:Array Value):∀gs:List Field,(∀g∈gs,g.offset < cs.toList.length/\scalar E g.type=true)->
  (forIn (m:=Sem) gs PUnit.unit fun f _=>
   if f.name≠ "_" then do
    let x<-Go.part f.type cs f.offset
    Instr.checkKey e (n+1) f.type x
    pure (ForInStep.yield PUnit.unit)
   else pure (ForInStep.yield PUnit.unit)).run P w=.ok PUnit.unit w
 |[],_=>rfl
 |g::gs,h=>by
  obtain⟨h1,h2⟩:=h g List.mem_cons_self
  obtain⟨u,hu,hs⟩:=Az hE h2
  have ih:=nk hE e n cs gs (fun g hg=>h g (List.mem_cons_of_mem _ hg))
  have hp:(Go.part g.type cs g.offset).run P w=.ok cs[g.offset]! w:=by
   unfold Go.part
   have h3:g.offset < cs.size:=by simpa using h1
   have ha:=pf (P:=P) u w g.type hu
   have hag:(fM P u).agg=false:=by
    rcases hs with rfl |⟨k,rfl⟩ |rfl <;>rfl
   rw[hag]at ha
   rw[Sem.run_bind,ha,Result.andThen_ok]
   simp[h3]
  have hk:∀v,(Instr.checkKey e (n+1) g.type v).run P w=.ok () w:=by
   intro v
   rcases hs with rfl |⟨k,rfl⟩ |rfl <;>simp[Instr.checkKey,run_underlying hu]
  rw[List.forIn_cons]
  by_cases hn:g.name≠ "_"
  ·rw[if_pos hn]
   simp only[Sem.run_bind,hp,hk,Result.andThen_ok,Sem.run_pure]
   exact ih
  ·rw[if_neg hn]
   simp only[Sem.run_bind,Result.andThen_ok,Sem.run_pure]
   exact ih
theorem jI(hE:E.OK P){kt:TypeId}{k:Value}(h:keyed E kt k=true)(e:Bool)(n:Nat):(Instr.checkKey e (n+2) kt k).run P w=.ok () w:=by
 unfold keyed at h
 split at h
 ·rename_i ti hti
  obtain⟨i,u,f⟩:=hE.jO hti
  split at h
  ·rename_i hd
   rw[f.d]at hd
   obtain rfl:=mM hd
   simp[Instr.checkKey,run_underlying f.dV]
  ·rename_i hd
   rw[f.d]at hd
   obtain rfl:=jy hd
   simp[Instr.checkKey,run_underlying f.dV]
  ·rename_i hd
   rw[f.d]at hd
   obtain rfl:=fY hd
   simp[Instr.checkKey,run_underlying f.dV]
  ·rename_i fs cs hd
   rw[f.d]at hd
   obtain⟨gs,rfl,rfl⟩:=eT hd
   simp only[Bool.and_eq_true]at h
   have:=nk (w:=w) hE e n cs gs.toList (fun g hg=>by
    have:=List.all_eq_true.1 h.2 _ (List.mem_map_of_mem (f:=pg P) hg)
    simp only[Bool.and_eq_true]at this
    refine⟨?_,this.2⟩
    have h2:=this.1.2
    rw[dQ]at h2
    simpa[pg]using of_decide_eq_true h2)
   rw[Array.forIn_toList]at this
   unfold Instr.checkKey
   simp only[Sem.run_bind,run_underlying f.dV,Result.andThen_ok]
   rw[this]
   rfl
  ·cases h
 ·cases h
def pP(σ:Sg)(es es':List MapEntry):Prop:=es.length=es'.length/\∀(j:Nat) e e',es[j]?=some e->es'[j]?=some e'->e'.key=e.key/\e'.born=e.born/\gg e.key=true/\aJ σ e.val e'.val
theorem pP.tail{e e':MapEntry}{es es':List MapEntry}(h:pP σ (e::es) (e'::es')):pP σ es es':=
 ⟨by simpa using h.1,fun j a b x y=>h.2 (j+1) a b (by simpa using x) (by simpa using y)⟩
theorem pP.cases{e:MapEntry}{es x:List MapEntry}(h:pP σ (e::es) x):∃e' es',x=e'::es'/\pP σ es es'/\e'.key=e.key/\gg e.key=true/\aJ σ e.val e'.val:=by
 cases x with
 |nil=>have:=h.1;simp at this
 |cons e' es'=>
  obtain⟨h1,_,h3,h4⟩:=h.2 0 e e' rfl rfl
  exact⟨e',es',rfl,h.tail,h1,h3,h4⟩
def LJ(σ:Sg):Option (Nat×Value)->Option (Nat×Value)->Prop
 |none,none=>True
 |some (i,v),some (j,v')=>i=j/\aJ σ v v'
 |_,_=>False
theorem nm{kt:TypeId}{k:Value}{ti:TI}{u:TypeDesc}{it:TypeInfo}(hti:E.ty.get kt=some ti)(f:Y9 P kt ti it u)(hu:u=.bool\/(∃k,u=.int k)\/u=.string):
  ∀(es es':List MapEntry) (i:Nat) (r:Option (Nat×Value)),pP σ es es'->findKey E kt k es i=some r->∃r',Instr.findNow u k es' i=some r'/\LJ σ r r'
 |[],es',i,r,h,hf=>by
  have:es'=[]:=List.eq_nil_of_length_eq_zero h.1.symm
  subst this
  simp only[findKey,Option.some.injEq]at hf
  subst hf
  exact⟨none,rfl,trivial⟩
 |e::es,x,i,r,h,hf=>by
  obtain⟨e',es',rfl,ht,hk,_,hv⟩:=h.cases
  unfold findKey at hf
  have hsame:∀b,eq? E kt k e.key=some b->Instr.sameNow u k e.key=some b:=by
   intro b hb
   unfold eq? at hb
   rw[hti]at hb
   simp only[f.d]at hb
   rcases hu with rfl |⟨q,rfl⟩ |rfl
   ·simp only[fM]at hb
    split at hb <;>simp_all [Instr.sameNow]
   ·simp only[fM]at hb
    split at hb <;>simp_all [Instr.sameNow]
   ·simp only[fM]at hb
    split at hb <;>simp_all [Instr.sameNow]
  cases hq:eq? E kt k e.key with
  |none=>rw[hq]at hf;cases hf
  |some b=>
   rw[hq]at hf
   have hn:=hsame b hq
   unfold Instr.findNow
   rw[hk,hn]
   cases b with
   |true=>
    simp only[Option.some.injEq]at hf
    subst hf
    exact⟨_,rfl,rfl,hv⟩
   |false=>exact nm hti f hu es es' (i+1) r ht hf
theorem kF(hE:E.OK P){kt:TypeId}{k:Value}(hk1:gg k=true):
  ∀(es es':List MapEntry) (i:Nat) (r:Option (Nat×Value)),pP σ es es'->findKey E kt k es i=some r->∃r',(Instr.findAsking kt k es' i).run P w=.ok r' w/\LJ σ r r'
 |[],es',i,r,h,hf=>by
  have:es'=[]:=List.eq_nil_of_length_eq_zero h.1.symm
  subst this
  simp only[findKey,Option.some.injEq]at hf
  subst hf
  exact⟨none,rfl,trivial⟩
 |e::es,x,i,r,h,hf=>by
  obtain⟨e',es',rfl,ht,hk,hfl,hv⟩:=h.cases
  unfold findKey at hf
  cases hq:eq? E kt k e.key with
  |none=>rw[hq]at hf;cases hf
  |some b=>
   rw[hq]at hf
   have he:=lZ (w:=w) (σ:=σ) hE hq (aJ.ir hk1) (aJ.ir hfl)
   unfold Instr.findAsking
   rw[hk,Sem.run_bind,he,Result.andThen_ok]
   cases b with
   |true=>
    simp only[Option.some.injEq]at hf
    subst hf
    exact⟨_,rfl,rfl,hv⟩
   |false=>exact kF hE hk1 es es' (i+1) r ht hf
theorem kg(hE:E.OK P){kt:TypeId}{k:Value}(hk:keyed E kt k=true){es es':List MapEntry}{r:Option (Nat×Value)}(h:pP σ es es')(hf:findKey E kt k es 0=some r):
  ∃r',(Instr.findKey kt k es').run P w=.ok r' w/\LJ σ r r':=by
 have hk0:=hk
 unfold keyed at hk
 split at hk
 ·rename_i ti hti
  obtain⟨i,u,f⟩:=hE.jO hti
  have scal:(u=.bool\/(∃k,u=.int k)\/u=.string)->∃r',(Instr.findKey kt k es').run P w=.ok r' w/\LJ σ r r':=by
   intro hu
   obtain⟨r',h1,h2⟩:=nm hti f hu es es' 0 r h hf
   exact⟨r',by simp[Instr.findKey,run_underlying f.dV,h1],h2⟩
  split at hk
  ·rename_i hd
   exact scal (.inl (mM (by rw[<-f.d];exact hd)))
  ·rename_i hd
   exact scal (.inr (.inl ⟨_,jy (by rw[<-f.d];exact hd)⟩))
  ·rename_i hd
   exact scal (.inr (.inr (fY (by rw[<-f.d];exact hd))))
  ·rename_i fs cs hd
   rw[f.d]at hd
   obtain⟨gs,rfl,rfl⟩:=eT hd
   obtain⟨r',h1,h2⟩:=kF (w:=w) hE (kY hk0) es es' 0 r h hf
   refine⟨r',?_,h2⟩
   cases es' with
   |nil=>
    have:r'=none:=by
     simp only[Instr.findAsking,Sem.run_pure,Result.ok.injEq]at h1
     exact h1.1.symm
    subst this
    simp[Instr.findKey,run_underlying f.dV,Instr.findNow]
   |cons e es'=>
    simp[Instr.findKey,run_underlying f.dV,Instr.findNow,Instr.sameNow,h1]
  ·cases hk
 ·cases hk
def JS(w:World)(x:Value)(es:Array MapEntry):Prop:=(x=.map none/\es= #[])\/∃r clock,x=.map (some r)/\w.heap[r]?=some (.map es clock)
theorem sy{t kt et:TypeId}{x k v:Value}{es:Array MapEntry}{j:Nat}(ok:Bool)(hu:P.underlying t=some (.map kt et))(hm:JS w x es)(hc:(Instr.checkKey es.isEmpty 10000 kt k).run P w=.ok () w)
  (hf:(Instr.findKey kt k es.toList).run P w=.ok (some (j,v)) w):(Instr.lookup t x k ok).run P w=.ok (if ok then .tuple #[v,.bool true]else v) w:=by
 rcases hm with⟨rfl,rfl⟩ |⟨r,clock,rfl,hr⟩
 ·simp only[Instr.lookup,Sem.run_bind,run_underlying hu,Result.andThen_ok,Sem.run_pure,hc,hf]
 ·have hg:(getObj r).run P w=.ok (.map es clock) w:=by simp only[getObj,Sem.run,hr]
  simp only[Instr.lookup,Sem.run_bind,run_underlying hu,Result.andThen_ok,Sem.run_pure,hg,hc,hf]
theorem ri{t kt et:TypeId}{x k z:Value}{es:Array MapEntry}(ok:Bool)(hu:P.underlying t=some (.map kt et))(hm:JS w x es)(hc:(Instr.checkKey es.isEmpty 10000 kt k).run P w=.ok () w)
  (hf:(Instr.findKey kt k es.toList).run P w=.ok none w) (hz:(zeroValue et).run P w=.ok z w):(Instr.lookup t x k ok).run P w=.ok (if ok then .tuple #[z,.bool false]else z) w:=by
 rcases hm with⟨rfl,rfl⟩ |⟨r,clock,rfl,hr⟩
 ·simp only[Instr.lookup,Sem.run_bind,run_underlying hu,Result.andThen_ok,Sem.run_pure,hc,hf,hz]
 ·have hg:(getObj r).run P w=.ok (.map es clock) w:=by simp only[getObj,Sem.run,hr]
  simp only[Instr.lookup,Sem.run_bind,run_underlying hu,Result.andThen_ok,Sem.run_pure,hg,hc,hf,hz]
theorem wA(hE:E.OK P)(hs:dB P σ m w){t:TypeId}{x k x' k' v:Value}{ok:Bool}(h:eK E m t x k ok=some v)(hx:aJ σ x x')(hk:aJ σ k k'):
  ∃v',(Instr.lookup t x' k' ok).run P w=.ok v' w/\aJ σ v v':=by
 unfold eK at h
 split at h
 ·cases h
 ·rename_i ti hti
  obtain⟨i,u,f⟩:=hE.jO hti
  split at h
  ·rename_i kt et hd
   rw[f.d]at hd
   obtain rfl:=jx hd
   split at h
   ·cases h
   ·rename_i es hes
    cases hkd:keyed E kt k with
    |false=>rw[hkd]at h;simp at h
    |true=>
     rw[hkd]at h
     simp only[cond_true]at h
     obtain rfl:=hk.iy (kY hkd)
     have hge:∃es':Array MapEntry,JS w x' es'/\pP σ es es'.toList:=by
      split at hes
      ·cases hes
       exact⟨#[],.inl ⟨hx.map_nil,rfl⟩,rfl,fun j e e' h=>by simp at h⟩
      ·split at hes
       ·rename_i r _ _ hg
        cases hes
        obtain⟨bi,hbi,rfl⟩:=hx.kV
        have ho:=hs.obj _ _ hbi
        rw[hg]at ho
        obtain⟨_,es',h1,h2,h3⟩:=ho
        exact⟨es',.inr ⟨_,_,rfl,h1⟩,by simpa using h2,fun j e e' a b=>h3 j e e' a (by simpa using b)⟩
       ·cases hes
      ·cases hes
     obtain⟨es',hg1,hg2⟩:=hge
     have hck:=jI (w:=w) hE hkd es'.isEmpty 9998
     cases hf:findKey E kt k' es 0 with
     |none=>rw[hf]at h;cases h
     |some r=>
      obtain⟨r',hr1,hr2⟩:=kg (w:=w) hE hkd hg2 hf
      rw[hf]at h
      cases r with
      |some p=>
       obtain⟨j,v0⟩:=p
       cases r' with
       |none=>exact hr2.elim
       |some p'=>
        obtain⟨j',v0'⟩:=p'
        obtain⟨_,hv⟩:=hr2
        simp only[Option.some.injEq]at h
        subst h
        refine⟨if ok then .tuple #[v0',.bool true]else v0',?_,?_⟩
        ·exact sy ok f.dV hg1 hck hr1
        ·cases ok
         ·exact hv
         ·exact(aT.cons hv (aT.cons (.flat _ rfl) aT.nil)).tuple
      |none=>
       cases r' with
       |some p'=>exact hr2.elim
       |none=>
        simp only[Option.map_eq_some_iff]at h
        obtain⟨z,hz,rfl⟩:=h
        unfold ig at hz
        cases he:E.ty.get et with
        |none=>rw[he]at hz;simp at hz
        |some ei=>
         rw[he]at hz
         simp only[Option.bind_some]at hz
         obtain⟨ie,ue,fe⟩:=hE.jO he
         have hzr:=aJ.eB (σ:=σ) (hE.flat he hz)
         have hr:=cZ (w:=w) fe.info (by rw[<-fe.zero];exact hz)
         refine⟨if ok then .tuple #[z,.bool false]else z,?_,?_⟩
         ·exact ri ok f.dV hg1 hck hr1 hr
         ·cases ok
          ·exact hzr
          ·exact(aT.cons hzr (aT.cons (.flat _ rfl) aT.nil)).tuple
  ·cases h
theorem JB{a b:ByteArray}(h:(a==b)=true):a=b:=by
 cases a;cases b
 rename_i x y
 have:(x==y)=true:=h
 simp at this
 rw[this]
theorem pF{q:Kd}{x y:Value}(h:CO q x y=some true)(n:Nat):Instr.sameBits n y x=true:=by
 unfold CO at h
 split at h
 ·simp only[Option.some.injEq,beq_iff_eq]at h
  subst h;simp[Instr.sameBits]
 ·split at h
  ·rename_i hk;subst hk
   simp only[Option.some.injEq,beq_iff_eq]at h
   subst h;simp[Instr.sameBits]
  ·cases h
 ·simp only[Option.some.injEq]at h
  obtain rfl:=JB h
  simpa[Instr.sameBits]using h
 ·cases h
theorem pG(n:Nat):∀{ks:List Kd} {xs ys:List Value},bU ks xs ys=some true->xs.length=ys.length/\((ys.zip xs).all fun(x,y)=>Instr.sameBits n x y)=true
 |[],[],[],_=>⟨rfl,rfl⟩
 |k::ks,x::xs,y::ys,h=>by
  unfold bU at h
  cases h1:CO k x y with
  |none=>rw[h1]at h;simp at h
  |some c=>
   cases h2:bU ks xs ys with
   |none=>rw[h1,h2]at h;simp at h
   |some r=>
    rw[h1,h2]at h
    simp only[Option.some.injEq,Bool.and_eq_true]at h
    obtain⟨rfl,rfl⟩:=h
    obtain⟨a,b⟩:=pG n h2
    refine⟨by simp[a],?_⟩
    simp only[List.zip_cons_cons,List.all_cons,Bool.and_eq_true]
    exact⟨pF h1 n,b⟩
theorem CM{kt:TypeId}{k y:Value}(hk:keyed E kt k=true)(h:eq? E kt k y=some true):Instr.sameBits 10000 y k=true:=by
 unfold keyed at hk
 unfold eq? at h
 split at hk
 ·rename_i ti hti
  rw[hti]at h
  obtain⟨d,_,_,_,_,cmp⟩:=ti
  dsimp only at h hk
  split at hk
  ·exact pF (q:=.b) (by cases y <;>simp_all [CO]) _
  ·exact pF (q:=.i) (by cases y <;>simp_all [CO]) _
  ·exact pF (q:=.s) (by cases y <;>simp_all [CO]) _
  ·cases y with
   |agg ys=>
    simp only at h
    cases cmp with
    |none=>simp at h
    |some ks=>
     simp only at h
     obtain⟨a,b⟩:=pG 9999 h
     simp only[Instr.sameBits,Bool.and_eq_true]
     exact⟨by simpa using a.symm,b⟩
   |_=>simp at h
  ·cases hk
 ·cases hk
theorem nY{kt:TypeId}{k:Value}:∀(es:List MapEntry) (i j:Nat) (v:Value),findKey E kt k es i=some (some (j,v))->∃e,i<=j/\es[j-i]?=some e/\eq? E kt k e.key=some true
 |[],i,j,v,h=>by simp[findKey]at h
 |e::es,i,j,v,h=>by
  unfold findKey at h
  cases hq:eq? E kt k e.key with
  |none=>rw[hq]at h;cases h
  |some b=>
   rw[hq]at h
   cases b with
   |true=>
    simp only[Option.some.injEq,Prod.mk.injEq]at h
    obtain⟨rfl,_⟩:=h
    exact⟨e,Nat.le_refl _,by simp,hq⟩
   |false=>
    obtain⟨e',h1,h2,h3⟩:=nY es (i+1) j v h
    refine⟨e',by omega,?_,h3⟩
    have:j-i=(j-(i+1))+1:=by omega
    rw[this]
    simpa using h2
theorem lz(hE:E.OK P)(hs:dB P σ m w){t:TypeId}{x k v x' k' v':Value}(h:eh E m t x k v=some m')(hx:aJ σ x x')(hk:aJ σ k k')(hv:aJ σ v v'):
  ∃w',(Instr.mapUpdate t x' k' v').run P w=.ok () w'/\Ev P σ m w σ m' w':=by
 unfold eh at h
 split at h
 ·rename_i ti r hti
  obtain⟨i,u,f⟩:=hE.jO hti
  split at h
  ·rename_i kt et es clock hd hg
   rw[f.d]at hd
   obtain rfl:=jx hd
   cases hkd:keyed E kt k with
   |false=>rw[hkd]at h;simp at h
   |true=>
    rw[hkd]at h
    simp only[cond_true]at h
    have hk1:=kY hkd
    obtain rfl:=hk.iy hk1
    obtain⟨bi,hbi,rfl⟩:=hx.kV
    have ho:=hs.obj _ _ hbi
    rw[hg]at ho
    obtain⟨hgr,es',h1,h2,h3⟩:=ho
    have hrel:pP σ es es'.toList:=⟨by simpa using h2,fun j e e' a b=>h3 j e e' a (by simpa using b)⟩
    have hget:(getObj bi.bX).run P w=.ok (.map es' clock) w:=by simp only[getObj,Sem.run,h1]
    have hset:∀o,(setObj bi.bX o).run P w=.ok () {w with heap:=w.heap.setIfInBounds bi.bX o}:=fun o=>MapKept.run_setObj_map o h1
    have hck:=jI (w:=w) hE hkd false 9998
    have hlt:=hs.lt _ _ hbi
    have hheap:∀o:Obj,({w with heap:=w.heap.setIfInBounds bi.bX o}:World).heap[bi.bX]?=some o:=by
     intro o
     simp[hlt]
    have hother:∀(o:Obj) B,B≠bi.bX->({w with heap:=w.heap.setIfInBounds bi.bX o}:World).heap[B]?=w.heap[B]?:=by
     intro o B hB
     simp[Ne.symm hB]
    have hsize:∀o:Obj,({w with heap:=w.heap.setIfInBounds bi.bX o}:World).heap.size=w.heap.size:=by intro o;simp
    have hdead:m.get r≠.dead:=by rw[hg];simp
    cases hf:findKey E kt k' es 0 with
    |none=>rw[hf]at h;cases h
    |some fr=>
     obtain⟨fr',hr1,hr2⟩:=kg (w:=w) hE hkd hrel hf
     rw[hf]at h
     cases fr with
     |some p=>
      obtain⟨j,v0⟩:=p
      cases fr' with
      |none=>exact hr2.elim
      |some p'=>
       obtain⟨j',v0'⟩:=p'
       obtain⟨rfl,_⟩:=hr2
       simp only[Option.some.injEq]at h
       subst h
       obtain⟨e0,_,he0,heq⟩:=nY es 0 j v0 hf
       simp only[Nat.sub_zero]at he0
       have hjlt:j < es'.size:=by rw[<-h2];exact(List.getElem?_eq_some_iff.1 he0).1
       obtain⟨hkey,_,_,_⟩:=h3 j e0 es'[j] he0 (by simp[hjlt])
       have hkeep:(Instr.keyThatStays (((es'[j]?).map (·.key)).getD k') k').run P w=.ok k' w:=by
        have:((es'[j]?).map (·.key)).getD k'=e0.key:=by simp[hjlt,hkey]
        rw[this]
        unfold Instr.keyThatStays
        rw[if_pos (CM hkd heq)]
        rfl
       refine⟨_,?_,Ev.write (ob:=.map (es.modify j fun e=>{e with key:=k',val:=v}) clock) (w':={w with heap:=w.heap.setIfInBounds bi.bX (.map (es'.modify j fun e=>{e with key:=k',val:=v'}) clock)}) hs hbi hdead ?_ (hother _) (hsize _) rfl rfl rfl⟩
       ·simp only[Instr.mapUpdate,Sem.run_bind,run_underlying f.dV,Result.andThen_ok,hget,hck,hr1,hkeep,hset]
       ·refine⟨hgr,_,hheap _,by simp[h2],?_⟩
        intro q e e' he he'
        rw[List.getElem?_modify]at he
        rw[Array.getElem?_modify]at he'
        by_cases hjq:j=q
        ·subst hjq
         simp only[if_true,Option.map_eq_map,Option.map_eq_some_iff]at he he'
         obtain⟨e1,he1,rfl⟩:=he
         obtain⟨e1',he1',rfl⟩:=he'
         obtain⟨_,hb,_,_⟩:=h3 j e1 e1' he1 he1'
         exact⟨rfl,hb,hk1,hv⟩
        ·rw[if_neg hjq]at he'
         simp only[if_neg hjq,Option.map_eq_map,Option.map_id']at he
         exact h3 q e e' (by simpa using he) (by simpa using he')
     |none=>
      cases fr' with
      |some p'=>exact hr2.elim
      |none=>
       simp only[Option.some.injEq]at h
       subst h
       refine⟨_,?_,Ev.write (ob:=.map (es++ [{key:=k',val:=v,born:=clock}]) (clock+1)) (w':={w with heap:=w.heap.setIfInBounds bi.bX (.map (es'.push {key:=k',val:=v',born:=clock}) (clock+1))}) hs hbi hdead ?_ (hother _) (hsize _) rfl rfl rfl⟩
       ·simp only[Instr.mapUpdate,Sem.run_bind,run_underlying f.dV,Result.andThen_ok,hget,hck,hr1,hset]
       ·refine⟨hgr,_,hheap _,by simp[h2],?_⟩
        intro q e e' he he'
        rcases Nat.lt_trichotomy q es.length with hq |hq |hq
        ·rw[List.getElem?_append_left hq]at he
         rw[Array.getElem?_push_lt (by omega)]at he'
         exact h3 q e e' he (by simpa[show q < es'.size by omega]using he')
        ·subst hq
         rw[List.getElem?_append_right (Nat.le_refl _)]at he
         simp only[Nat.sub_self,List.getElem?_cons_zero,Option.some.injEq]at he
         subst he
         rw[h2]at he'
         simp only[Array.getElem?_push_size,Option.some.injEq]at he'
         subst he'
         exact⟨rfl,rfl,hk1,hv⟩
        ·rw[List.getElem?_eq_none (by simp;omega)]at he
         cases he
  ·cases h
 ·cases h
theorem pK:∀{cs cs':List Value} {ns:List Int},bytesOf cs=some ns->aT σ cs cs'->cs'=ns.map (Value.int .u8)
 |[],x,ns,h,hl=>by
  cases h
  exact hl.nil_eq
 |c::cs,x,ns,h,hl=>by
  obtain⟨c',cs',rfl,hc,hl'⟩:=hl.cases
  unfold bytesOf at h
  split at h
  ·cases ‹_::_=[]›
  ·rename_i n r he
   cases he
   cases hr:bytesOf cs with
   |none=>rw[hr]at h;cases h
   |some ns1=>
    rw[hr]at h
    cases h
    rw[hc.int,pK hr hl']
    rfl
  ·cases h
theorem zQ(hE:E.OK P)(hs:dB P σ m w){s d:TypeId}{x x' v:Value}(h:Bo E m s d x=some v)(hx:aJ σ x x'):(convert s d x').run P w=.ok v w/\bL v=true:=by
 unfold Bo at h
 split at h
 ·rename_i ti tj hti htj
  obtain⟨_,us,fs⟩:=hE.jO hti
  obtain⟨_,ud,fd⟩:=hE.jO htj
  split at h
  ·rename_i e b n c hd1 hd2
   rw[fs.d]at hd1
   rw[fd.d]at hd2
   have hu1:=fs.dV.trans (by rw[cL hd1])
   have hu2:=fd.dV.trans (by rw[fY hd2])
   split at h
   ·rename_i te hte
    obtain⟨_,ue,fe⟩:=hE.jO hte
    split at h
    ·rename_i hd3
     cases h
     rw[fe.d]at hd3
     have hu3:=fe.dV.trans (by rw[jy hd3])
     obtain⟨rfl,rfl,rfl⟩:=hx.dH
     rw[run_convert_bytes_string w s d e none 0 0 hu1 hu3 hu2]
     exact⟨rfl,rfl⟩
    ·rename_i a hd3
     rw[fe.d]at hd3
     have hu3:=fe.dV.trans (by rw[jy hd3])
     cases hn:Nat.beq n 0 with
     |true=>rw[hn]at h;cases h
     |false=>
      rw[hn]at h
      simp only[cond_false]at h
      split at h
      ·rename_i cs hcs
       split at h
       ·rename_i ns hns
        cases h
        have hn0:n≠0:=Nat.ne_of_beq_eq_false hn
        obtain⟨bi,a',c',hbi,rfl,hcase⟩:=hx.cW
        rcases hcase with⟨_,rfl,_⟩ |⟨rfl,_⟩
        ·obtain⟨cs',q1,q2,_,_⟩:=fE (w:=w) hs hbi hcs
         rw[pK hns q2]at q1
         rw[run_convert_bytes_string w s d e _ _ _ hu1 hu3 hu2]
         exact⟨run_bytesToString w _ n c' ns q1,rfl⟩
        ·exact absurd rfl hn0
       ·cases h
      ·cases h
    ·cases h
   ·cases h
  ·cases h
 ·cases h
theorem Jp(hE:E.OK P)(hs:dB P σ m w){s d:TypeId}{x x' v:Value}(h:Kb E m s d x=some v)(hx:aJ σ x x'):(convert s d x').run P w=.ok v w/\bL v=true:=by
 unfold Kb at h
 split at h
 ·rename_i v1 h1
  cases h
  exact Bl hE h1 hx
 ·exact zQ hE hs h hx
theorem sW(hE:E.OK P)(hs:dB P σ m w){t:TypeId}{x k x' k' v:Value}(h:dw E m t x k=some (v,m'))(hx:aJ σ x x')(hk:aJ σ k k'):
  ∃w' v',(Instr.mapEntry t x' k').run P w=.ok v' w'/\aJ σ v v'/\Ev P σ m w σ m' w':=by
 unfold dw at h
 split at h
 ·rename_i ti r hti
  obtain⟨i,u,f⟩:=hE.jO hti
  split at h
  ·rename_i kt et es clock hd hg
   rw[f.d]at hd
   obtain rfl:=jx hd
   cases hkd:keyed E kt k with
   |false=>rw[hkd]at h;simp at h
   |true=>
    rw[hkd]at h
    simp only[cond_true]at h
    have hk1:=kY hkd
    obtain rfl:=hk.iy hk1
    obtain⟨bi,hbi,rfl⟩:=hx.kV
    have ho:=hs.obj _ _ hbi
    rw[hg]at ho
    obtain⟨hgr,es',h1,h2,h3⟩:=ho
    have hrel:pP σ es es'.toList:=⟨by simpa using h2,fun j e e' a b=>h3 j e e' a (by simpa using b)⟩
    have hget:(getObj bi.bX).run P w=.ok (.map es' clock) w:=by simp only[getObj,Sem.run,h1]
    have hset:∀o,(setObj bi.bX o).run P w=.ok () {w with heap:=w.heap.setIfInBounds bi.bX o}:=fun o=>MapKept.run_setObj_map o h1
    have hck:=jI (w:=w) hE hkd false 9998
    have hlt:=hs.lt _ _ hbi
    have hheap:∀o:Obj,({w with heap:=w.heap.setIfInBounds bi.bX o}:World).heap[bi.bX]?=some o:=by
     intro o
     simp[hlt]
    have hother:∀(o:Obj) B,B≠bi.bX->({w with heap:=w.heap.setIfInBounds bi.bX o}:World).heap[B]?=w.heap[B]?:=by
     intro o B hB
     simp[Ne.symm hB]
    have hsize:∀o:Obj,({w with heap:=w.heap.setIfInBounds bi.bX o}:World).heap.size=w.heap.size:=by intro o;simp
    have hdead:m.get r≠.dead:=by rw[hg];simp
    cases hf:findKey E kt k' es 0 with
    |none=>rw[hf]at h;cases h
    |some fr=>
     obtain⟨fr',hr1,hr2⟩:=kg (w:=w) hE hkd hrel hf
     rw[hf]at h
     cases fr with
     |some p=>
      obtain⟨j,v0⟩:=p
      cases fr' with
      |none=>exact hr2.elim
      |some p'=>
       obtain⟨j',v0'⟩:=p'
       obtain⟨rfl,hv0⟩:=hr2
       simp only[Option.some.injEq,Prod.mk.injEq]at h
       obtain⟨rfl,rfl⟩:=h
       obtain⟨e0,_,he0,heq⟩:=nY es 0 j v0 hf
       simp only[Nat.sub_zero]at he0
       have hjlt:j < es'.size:=by rw[<-h2];exact(List.getElem?_eq_some_iff.1 he0).1
       obtain⟨hkey,hborn,_,_⟩:=h3 j e0 es'[j] he0 (by simp[hjlt])
       have hkeep:(Instr.keyThatStays (((es'[j]?).map (·.key)).getD k') k').run P w=.ok k' w:=by
        have:((es'[j]?).map (·.key)).getD k'=e0.key:=by simp[hjlt,hkey]
        rw[this]
        unfold Instr.keyThatStays
        rw[if_pos (CM hkd heq)]
        rfl
       have hb:((es'[j]?).map (fun x=>(x.born:Int))).getD 0=((es[j]?).map (fun x=>(x.born:Int))).getD 0:=by simp[hjlt,hborn,he0]
       refine⟨_,.tuple #[v0',goInt (((es'[j]?).map (·.born)).getD 0)],?_,?_,Ev.write (ob:=.map (es.modify j fun e=>{e with key:=k'}) clock) (w':={w with heap:=w.heap.setIfInBounds bi.bX (.map (es'.modify j fun e=>{e with key:=k'}) clock)}) hs hbi hdead ?_ (hother _) (hsize _) rfl rfl rfl⟩
       ·simp only[Instr.mapEntry,Sem.run_bind,run_underlying f.dV,Result.andThen_ok,hget,hck,hr1,hkeep,hset]
        rfl
       ·rw[hb]
        exact(aT.cons hv0 (aT.cons (.flat _ rfl) aT.nil)).tuple
       ·refine⟨hgr,_,hheap _,by simp[h2],?_⟩
        intro q e e' he he'
        rw[List.getElem?_modify]at he
        rw[Array.getElem?_modify]at he'
        by_cases hjq:j=q
        ·subst hjq
         simp only[if_true,Option.map_eq_map,Option.map_eq_some_iff]at he he'
         obtain⟨e1,he1,rfl⟩:=he
         obtain⟨e1',he1',rfl⟩:=he'
         obtain⟨_,hb,_,hv⟩:=h3 j e1 e1' he1 he1'
         exact⟨rfl,hb,hk1,hv⟩
        ·rw[if_neg hjq]at he'
         simp only[if_neg hjq,Option.map_eq_map,Option.map_id']at he
         exact h3 q e e' (by simpa using he) (by simpa using he')
     |none=>
      cases fr' with
      |some p'=>exact hr2.elim
      |none=>
       simp only[Option.map_eq_some_iff,Prod.mk.injEq]at h
       obtain⟨z,hz,rfl,rfl⟩:=h
       unfold ig at hz
       cases hei:E.ty.get et with
       |none=>rw[hei]at hz;simp at hz
       |some ei=>
        rw[hei]at hz
        simp only[Option.bind_some]at hz
        obtain⟨ie,ue,fe⟩:=hE.jO hei
        have hzr:=aJ.eB (σ:=σ) (hE.flat hei hz)
        have hzrun:=cZ (w:=w) fe.info (by rw[<-fe.zero];exact hz)
        refine⟨_,.tuple #[z,goInt clock],?_,(aT.cons hzr (aT.cons (.flat _ rfl) aT.nil)).tuple,Ev.write (ob:=.map (es++ [{key:=k',val:=z,born:=clock}]) (clock+1)) (w':={w with heap:=w.heap.setIfInBounds bi.bX (.map (es'.push {key:=k',val:=z,born:=clock}) (clock+1))}) hs hbi hdead ?_ (hother _) (hsize _) rfl rfl rfl⟩
        ·simp only[Instr.mapEntry,Sem.run_bind,run_underlying f.dV,Result.andThen_ok,hget,hck,hr1,hzrun,hset]
         rfl
        ·refine⟨hgr,_,hheap _,by simp[h2],?_⟩
         intro q e e' he he'
         rcases Nat.lt_trichotomy q es.length with hq |hq |hq
         ·rw[List.getElem?_append_left hq]at he
          rw[Array.getElem?_push_lt (by omega)]at he'
          exact h3 q e e' he (by simpa[show q < es'.size by omega]using he')
         ·subst hq
          rw[List.getElem?_append_right (Nat.le_refl _)]at he
          simp only[Nat.sub_self,List.getElem?_cons_zero,Option.some.injEq]at he
          subst he
          rw[h2]at he'
          simp only[Array.getElem?_push_size,Option.some.injEq]at he'
          subst he'
          exact⟨rfl,rfl,hk1,hzr⟩
         ·rw[List.getElem?_eq_none (by simp;omega)]at he
          cases he
  ·cases h
 ·cases h
theorem nc{b:Int}:∀(es:List MapEntry) (es':List MapEntry) (i j:Nat),pP σ es es'->fB b es i=some j->i<=j/\j-i < es'.length/\es'.findIdx? (fun e=>(e.born:Int)==b)=some (j-i)
 |[],es',i,j,_,h=>by simp[fB]at h
 |e::es,x,i,j,hr,h=>by
  obtain⟨e',es',rfl,ht,_,hfl,hv⟩:=hr.cases
  have hb:e'.born=e.born:=(hr.2 0 e e' rfl rfl).2.1
  unfold fB at h
  rw[List.findIdx?_cons]
  by_cases hc:(e.born:Int)=b
  ·have h1:decide ((e.born:Int)=b)=true:=decide_eq_true hc
   rw[h1]at h
   cases h
   have:((e'.born:Int)==b)=true:=by rw[hb];simpa using hc
   rw[this]
   simp
  ·have h1:decide ((e.born:Int)=b)=false:=decide_eq_false hc
   rw[h1]at h
   simp only[cond_false]at h
   obtain⟨q1,q2,q3⟩:=nc es es' (i+1) j ht h
   have:((e'.born:Int)==b)=false:=by rw[hb];simpa using hc
   rw[this,q3]
   have e1:j-i=j-(i+1)+1:=by omega
   refine⟨by omega,by simp;omega,by simp[e1]⟩
theorem qz(hs:dB P σ m w){t:TypeId}{x s v x' s' v':Value}(h:cz m x s v=some m')(hx:aJ σ x x')(hst:aJ σ s s')(hv:aJ σ v v'):
  ∃w',(Instr.entryStore t x' s' v').run P w=.ok () w'/\Ev P σ m w σ m' w':=by
 unfold cz at h
 split at h
 ·rename_i r k b
  split at h
  ·rename_i es clock hg
   split at h
   ·rename_i j hj
    cases h
    obtain⟨bi,hbi,rfl⟩:=hx.kV
    have ho:=hs.obj _ _ hbi
    rw[hg]at ho
    obtain⟨hgr,es',h1,h2,h3⟩:=ho
    have hrel:pP σ es es'.toList:=⟨by simpa using h2,fun j e e' a b=>h3 j e e' a (by simpa using b)⟩
    have hget:(getObj bi.bX).run P w=.ok (.map es' clock) w:=by simp only[getObj,Sem.run,h1]
    have hset:∀o,(setObj bi.bX o).run P w=.ok () {w with heap:=w.heap.setIfInBounds bi.bX o}:=fun o=>MapKept.run_setObj_map o h1
    have hlt:=hs.lt _ _ hbi
    have hdead:m.get r≠.dead:=by rw[hg];simp
    obtain⟨_,_,hix⟩:=nc es es'.toList 0 j hrel hj
    rw[Nat.sub_zero]at hix
    have hix:es'.findIdx? (fun e=>(e.born:Int)==b)=some j:=by
     rcases es' with⟨l⟩
     rw[List.findIdx?_toArray];exact hix
    rw[hst.int]
    refine⟨_,?_,Ev.write (ob:=.map (es.modify j fun e=>{e with val:=v}) clock) (w':={w with heap:=w.heap.setIfInBounds bi.bX (.map (es'.modify j fun e=>{e with val:=v'}) clock)}) hs hbi hdead ?_ (fun B hB=>by simp[Ne.symm hB]) (by simp) rfl rfl rfl⟩
    ·simp only[Instr.entryStore,Sem.run_bind,hget,Result.andThen_ok,asInt,asIntOf,Sem.run_pure,hix,hset]
    ·refine⟨hgr,es'.modify j fun e=>{e with val:=v'},by simp[hlt],by simp[h2],?_⟩
     intro q e e' he he'
     rw[List.getElem?_modify]at he
     rw[Array.getElem?_modify]at he'
     by_cases hjq:j=q
     ·subst hjq
      simp only[if_true,Option.map_eq_map,Option.map_eq_some_iff]at he he'
      obtain⟨e1,he1,rfl⟩:=he
      obtain⟨e1',he1',rfl⟩:=he'
      obtain⟨h4,h5,h6,_⟩:=h3 j e1 e1' he1 he1'
      exact⟨h4,h5,h6,hv⟩
     ·rw[if_neg hjq]at he'
      simp only[if_neg hjq,Option.map_eq_map,Option.map_id']at he
      exact h3 q e e' (by simpa using he) (by simpa using he')
   ·cases h
  ·cases h
 ·cases h
end
end Go.D
namespace Go.D
open Go
def LK(m m':M):Prop:=∀b r,m.get b=.loop r->∃r',m'.get b=.loop r'
section
variable {m m' m2:M} {E:Env}
theorem LK.refl:LK m m:=fun _ r h=>⟨r,h⟩
theorem LK.trans(h:LK m m')(h':LK m' m2):LK m m2:=fun b r hb=>by
 obtain⟨r',h1⟩:=h b r hb
 exact h' b r' h1
theorem LK.push{o:Ob}:LK m (m.push o):=fun b r h=>⟨r,by
 have:b < m.n:=M.jB (by rw[h];simp)
 rw[M.eC,if_neg (by omega)];exact h⟩
theorem LK.set{b:Nat}{o:Ob}(hb:∀r,m.get b≠.loop r):LK m (m.set b o):=fun c r h=>by
 by_cases hc:c=b
 ·subst hc;exact absurd h (hb r)
 ·refine⟨r,?_⟩
  have:c < m.n:=M.jB (by rw[h];simp)
  show(m.set b o).get c=_
  rw[M.dP]
  have hn:(m.set b o).n=m.n:=rfl
  rw[hn,if_pos this]
  show((m.st.set b o).get c).getD .dead=_
  rw[Tr.bH,if_neg hc]
  rw[M.dP,if_pos this]at h
  exact h
theorem LK.rJ{b:Nat}{r0:uh}:LK m (m.set b (.loop r0)):=fun c r h=>by
 have:c < m.n:=M.jB (by rw[h];simp)
 by_cases hc:c=b
 ·subst hc;exact⟨r0,by rw[M.bH _ _ _ _ this,if_pos rfl]⟩
 ·refine⟨r,?_⟩
  rw[M.dP]
  have hn:(m.set b (.loop r0)).n=m.n:=rfl
  rw[hn,if_pos this]
  show((m.st.set b _).get c).getD .dead=_
  rw[Tr.bH,if_neg hc]
  rw[M.dP,if_pos this]at h
  exact h
theorem LK.low{x:Nat}(h:LK m m'):LK m {m' with low:=x}:=h
theorem LK.M6{x:Nat}(h:LK {m with low:=x} m'):LK m m':=h
theorem gY{a:Addr}{vs:List Value}(h:storeCells m a vs=some m'):LK m m':=by
 unfold storeCells at h
 split at h
 ·rename_i c e g hg
  cases hc:(a.spot.isNone && Nat.ble (a.off+vs.length) c.length && vs.all one)with
  |false=>rw[hc]at h;cases h
  |true=>rw[hc]at h;cases h;exact LK.set fun r=>by rw[hg];simp
 ·cases h
theorem xX{t:TypeId}{a:Addr}{v:Value}(h:storeVar E m t a v=some m'):LK m m':=by
 unfold storeVar at h
 split at h
 ·cases hc:Nat.beq (cells v).length _ with
  |false=>rw[hc]at h;cases h
  |true=>rw[hc]at h;exact gY h
 ·cases h
theorem Ld{e k sl sc need:Nat}{base:Option Addr}{news:List Value}{v:Value}(h:jA m e k base sl sc need news=some (v,m')):LK m m':=by
 unfold jA at h
 split at h
 ·cases hc:(Nat.beq sl 0 && Nat.beq sc 0)with
  |false=>rw[hc]at h;cases h
  |true=>rw[hc]at h;cases h;exact LK.push
 ·rename_i a
  split at h
  ·rename_i c te g eO hg _
   cases hc:(g.isNone ||(g==some k && Nat.blt (a.off+sc*k) c.length))with
   |true=>rw[hc]at h;cases h;exact LK.push
   |false=>
    rw[hc]at h
    simp only[cond_false]at h
    cases hc2:(g==some k && Nat.beq a.off 0 && a.spot.isNone && Nat.beq (sl*k) c.length && Nat.beq sc sl && Nat.beq te e)with
    |false=>rw[hc2]at h;cases h
    |true=>
     rw[hc2]at h
     cases h
     exact(LK.set fun r=>by rw[hg];simp).trans LK.push
  ·cases h
theorem Fx{t u:TypeId}{s x v:Value}(h:dD E m t u s x=some (v,m')):LK m m':=by
 unfold dD at h
 split at h
 ·rename_i ti ui base sl sc n _ _ _
  split at h
  ·cases h
  ·rename_i e _ _
   split at h
   ·rename_i ei news _ _
    cases hc:(Nat.beq ti.es 0 ||Nat.blt 65536 ei.bytes || !news.all one ||Nat.blt 268435456 (sl+n) || !Nat.beq news.length (n*ti.es) || !fT ei.zero ti.es)with
    |true=>rw[hc]at h;cases h
    |false=>
     rw[hc]at h
     simp only[cond_false]at h
     cases hc2:Nat.ble (sl+n) sc with
     |false=>rw[hc2]at h;exact Ld h
     |true=>
      rw[hc2]at h
      simp only[cond_true]at h
      split at h
      ·rename_i a
       simp only[Option.map_eq_some_iff,Prod.mk.injEq]at h
       obtain⟨m1,h1,_,rfl⟩:=h
       cases hn:Nat.beq n 0 with
       |true=>rw[hn]at h1;cases h1;exact LK.refl
       |false=>rw[hn]at h1;exact gY h1
      ·cases hn:Nat.beq n 0 with
       |true=>rw[hn]at h;cases h;exact LK.refl
       |false=>rw[hn]at h;cases h
   ·cases h
  ·cases h
 ·cases h
theorem Lx{t:TypeId}{d x v:Value}(h:tT E m t d x=some (v,m')):LK m m':=by
 unfold tT at h
 split at h
 ·rename_i ti base dl _ xl _ _
  split at h
  ·cases hc:Nat.beq ti.es 0 with
   |true=>rw[hc]at h;cases h
   |false=>
    rw[hc]at h
    simp only[cond_false]at h
    split at h
    ·simp only[Option.map_eq_some_iff,Prod.mk.injEq]at h
     obtain⟨m1,h1,_,rfl⟩:=h
     cases hn:Nat.beq (min xl dl) 0 with
     |true=>rw[hn]at h1;cases h1;exact LK.refl
     |false=>rw[hn]at h1;exact gY h1
    ·cases h;exact LK.refl
  ·cases h
 ·cases h
theorem Jx{t:TypeId}{x v:Value}(h:oh E m t x=some (v,m')):LK m m':=by
 unfold oh at h
 split at h
 ·cases h;exact LK.refl
 ·rename_i ti a n _ _
  cases hn:Nat.beq n 0 with
  |true=>rw[hn]at h;cases h;exact LK.refl
  |false=>
   rw[hn]at h
   simp only[cond_false]at h
   split at h
   ·split at h
    ·simp only[Option.map_eq_some_iff,Prod.mk.injEq]at h
     obtain⟨m1,h1,_,rfl⟩:=h
     exact gY h1
    ·cases h
   ·cases h
 ·cases h
theorem Bv{b:Builtin}{ts:List TypeId}{args:List Value}{v:Value}(h:aq E m b ts args=some (v,m')):LK m m':=by
 unfold aq at h
 split at h
 ·exact Fx h
 ·exact Lx h
 ·exact Jx h
 all_goals try (simp only[Option.map_eq_some_iff,Prod.mk.injEq]at h;obtain⟨_,_,_,rfl⟩:=h;exact LK.refl)
 ·split at h
  ·split at h
   ·rename_i a n c _
    cases hs:lI m a with
    |true=>rw[hs]at h;cases h
    |false=>rw[hs]at h;cases h;exact LK.refl
   ·cases h;exact LK.refl
   ·cases h
  ·cases h
 ·cases h
theorem ph{t:TypeId}{x k v:Value}(h:eh E m t x k v=some m'):LK m m':=by
 unfold eh at h
 split at h
 ·rename_i ti r _
  split at h
  ·rename_i kt et es clock _ hg
   cases hk:keyed E kt k with
   |false=>rw[hk]at h;cases h
   |true=>
    rw[hk]at h
    simp only[cond_true]at h
    split at h
    ·cases h;exact LK.set fun r=>by rw[hg];simp
    ·cases h;exact LK.set fun r=>by rw[hg];simp
    ·cases h
  ·cases h
 ·cases h
theorem zj{t:TypeId}{x k v:Value}(h:dw E m t x k=some (v,m')):LK m m':=by
 unfold dw at h
 split at h
 ·rename_i ti r _
  split at h
  ·rename_i kt et es clock _ hg
   cases hk:keyed E kt k with
   |false=>rw[hk]at h;cases h
   |true=>
    rw[hk]at h
    simp only[cond_true]at h
    split at h
    ·cases h;exact LK.set fun r=>by rw[hg];simp
    ·simp only[Option.map_eq_some_iff,Prod.mk.injEq]at h
     obtain⟨_,_,_,rfl⟩:=h
     exact LK.set fun r=>by rw[hg];simp
    ·cases h
  ·cases h
 ·cases h
theorem uC{x s v:Value}(h:cz m x s v=some m'):LK m m':=by
 unfold cz at h
 split at h
 ·split at h
  ·rename_i es clock hg
   split at h
   ·cases h;exact LK.set fun r=>by rw[hg];simp
   ·cases h
  ·cases h
 ·cases h
theorem wz{t:TypeId}{l c v:Value}(h:dA E m t l c=some (v,m')):LK m m':=by
 unfold dA at h
 split at h
 ·cases h
 ·split at h
  ·split at h
   ·cases h
   ·split at h
    ·cases h
    ·split at h
     ·cases h;exact LK.push
     ·cases h
  ·cases h
theorem uF{t:TypeId}{n:Nat}{ps:List (Nat×Value)}{v:Value}(h:aE E m t n ps=some (v,m')):LK m m':=by
 unfold aE at h
 split at h
 ·cases h
 ·rename_i ti _
  split at h
  ·split at h
   ·cases h
   ·rename_i z _
    cases hc:(Nat.beq (cells z).length ti.es && Nat.ble (n*ti.es) 1048576)with
    |false=>rw[hc]at h;cases h
    |true=>
     rw[hc]at h
     simp only[cond_true,Option.map_eq_some_iff,Prod.mk.injEq]at h
     obtain⟨_,_,_,rfl⟩:=h
     exact LK.push
  ·cases h
def gW(call:aF):Prop:=∀f args m v m',call f args m=some (v,m')->LK m m'
theorem Mc{call:aF}(hc:gW call){T:Tr Value}{o:Op}{v:Value}(h:cJ o E call T m=some (v,m')):LK m m':=by
 have same:∀{r:Option Value},(match r with |some v=>some (v,m) |none=>none)=some (v,m')->LK m m':=by
  intro r hr
  cases r with
  |none=>cases hr
  |some x=>cases hr;exact LK.refl
 cases o with
 |move x=>cases h;exact LK.refl
 |assign x=>cases h;exact LK.refl
 |pick c a b=>simp only[cJ,nP]at h;split at h <;>cases h;exact LK.refl
 |alloc t=>simp only[cJ,oY]at h;split at h <;>cases h;exact LK.push
 |box t x=>cases h;exact LK.push
 |build t ps=>exact same h
 |buildSlice t n ps=>exact uF h
 |load t a=>
  simp only[cJ,sQ]at h
  split at h
  ·exact same h
  ·cases h
 |store t a x=>
  simp only[cJ,kQ]at h
  split at h
  ·split at h
   ·rename_i hs;cases h;exact xX hs
   ·cases h
  ·cases h
 |nilCheck x=>simp only[cJ,fI]at h;split at h <;>cases h <;>exact LK.refl
 |binOp op t x y _=>exact same h
 |unOp op t x=>exact same h
 |convert s d x=>exact same h
 |makeFunc f a b=>simp only[cJ,gJ]at h;split at h <;>cases h;exact LK.refl
 |makeMap t r=>simp only[cJ,mI]at h;split at h <;>cases h;exact LK.push
 |makeSlice t l c=>exact wz h
 |slice t x lo hi mx=>exact same h
 |fieldAddr s x f=>exact same h
 |field t x f=>exact same h
 |indexAddr t x i=>exact same h
 |index t x i=>exact same h
 |lookup t x i ok=>exact same h
 |mapUpdate t x k y=>simp only[cJ,dY]at h;split at h <;>cases h;exact ph ‹_›
 |insert t x k y=>simp only[cJ,dY]at h;split at h <;>cases h;exact ph ‹_›
 |extract x i=>
  simp only[cJ,jg]at h
  split at h
  ·exact same h
  ·cases h
 |call c=>
  simp only[cJ,kR]at h
  split at h
  ·exact Bv h
  ·split at h
   ·exact hc _ _ _ _ _ h
   ·cases h
  ·cases h
 |mapEntry t x k=>exact zj h
 |entryStore t x s y=>simp only[cJ,iU]at h;split at h <;>cases h;exact uC ‹_›
 |typeAssert x s t ok=>
  simp only[cJ,sR]at h
  split at h
  ·cases ok with
   |false=>cases h
   |true=>
    simp only[cond_true]at h
    split at h <;>cases h
    exact LK.refl
  ·rename_i t' cs _
   cases hc:(ok && (Nat.beq t' t && cs.toList.isEmpty))with
   |false=>rw[hc]at h;cases h
   |true=>
    rw[hc,cond_true]at h
    split at h
    ·split at h <;>cases h
     exact LK.refl
    ·cases h
  ·cases h
 |_=>simp[cJ]at h
theorem AH{call:aF}(hc:gW call){ops:Array Oper}:∀(l:List Oper) (fr fr':Fr),uw E call ops l fr=some fr'->LK fr.m fr'.m
 |[],fr,fr',h=>by simp only[yW,Option.some.injEq]at h;subst h;exact LK.refl
 |o::l,fr,fr',h=>by
  rw[kr]at h
  cases hw:cg ops fr.T o with
  |false=>rw[hw]at h;exact AH hc l {fr with T:=put fr.T o.dst undef} fr' h
  |true=>
   rw[hw]at h
   simp only[cond_true]at h
   cases ho:cJ o.op E call fr.T fr.m with
   |none=>rw[ho]at h;cases h
   |some p=>
    rw[ho]at h
    exact(Mc hc ho).trans (AH hc l _ fr' h)
theorem wR{call:aF}(hc:gW call){ops:Array Oper}:∀(l:List Oper) (j:Nat) (fr fr':Fr),eY E call ops l j fr=some fr'->LK fr.m fr'.m
 |[],j,fr,fr',h=>by simp only[vr,Option.some.injEq]at h;subst h;exact LK.refl
 |o::l,j,fr,fr',h=>by
  rw[eX]at h
  cases hw:cg ops fr.T o with
  |false=>rw[hw]at h;exact wR hc l (j+1) {fr with T:=put fr.T o.dst undef} fr' h
  |true=>
   rw[hw]at h
   simp only[cond_true]at h
   cases ho:cJ o.op E call fr.T {fr.m with low:=fr.m.n}with
   |none=>rw[ho]at h;cases h
   |some p=>
    obtain⟨v,m1⟩:=p
    rw[ho]at h
    simp only at h
    cases hb:(Nat.ble fr.m.n m1.low ||(dC ops j ||sE ops j fr.m fr.T o.op))with
    |false=>rw[hb]at h;cases h
    |true=>
     rw[hb]at h
     simp only[cond_true]at h
     have h1:LK fr.m m1:=LK.M6 (Mc hc ho)
     exact h1.trans (wR hc l (j+1) _ fr' h)
theorem CA{body:Fr->Option (Ex×Fr)}(hb:∀fr e fr',body fr=some (e,fr')->LK fr.m fr'.m):∀(n:Nat) (fr:Fr) (e:Ex) (fr':Fr),iv body n fr=some (e,fr')->LK fr.m fr'.m
 |0,_,_,_,h=>by simp[iv]at h
 |n+1,fr,e,fr',h=>by
  unfold iv at h
  cases hbd:body fr with
  |none=>rw[hbd]at h;cases h
  |some p=>
   obtain⟨e1,fr1⟩:=p
   rw[hbd]at h
   have h1:=hb _ _ _ hbd
   cases e1 with
   |normal=>exact h1.trans (CA hb n fr1 e fr' h)
   |exit id=>cases h;exact h1
   |ret=>cases h;exact h1
theorem ep{call:aF}(hc:gW call){n:Nat}:∀(c:Code) (fr:Fr) (e:Ex) (fr':Fr),bh E call n c fr=some (e,fr')->LK fr.m fr'.m
 |.skip,fr,e,fr',h=>by cases h;exact LK.refl
 |.label l,fr,e,fr',h=>by cases h;exact LK.refl
 |.exit id,fr,e,fr',h=>by cases h;exact LK.refl
 |.ret,fr,e,fr',h=>by cases h;exact LK.refl
 |.region id ops d,fr,e,fr',h=>by
  unfold bh at h
  simp only[Option.map_eq_some_iff,Prod.mk.injEq]at h
  obtain⟨fr1,h,rfl,rfl⟩:=h
  cases d with
  |false=>exact AH hc _ _ _ h
  |true=>exact wR hc _ _ _ _ h
 |.seq a b,fr,e,fr',h=>by
  unfold bh at h
  cases ha:bh E call n a fr with
  |none=>rw[ha]at h;cases h
  |some p=>
   obtain⟨e1,fr1⟩:=p
   rw[ha]at h
   have h1:=ep hc a _ _ _ ha
   cases e1 with
   |normal=>exact h1.trans (ep hc b _ _ _ h)
   |exit id=>cases h;exact h1
   |ret=>cases h;exact h1
 |.cond c x y,fr,e,fr',h=>by
  unfold bh at h
  split at h
  ·rename_i t _
   cases t with
   |true=>exact ep hc x _ _ _ h
   |false=>exact ep hc y _ _ _ h
  ·cases h
 |.block id c,fr,e,fr',h=>by
  unfold bh at h
  cases ha:bh E call n c fr with
  |none=>rw[ha]at h;cases h
  |some p=>
   obtain⟨e1,fr1⟩:=p
   rw[ha]at h
   have h1:=ep hc c _ _ _ ha
   cases e1 with
   |normal=>cases h;exact h1
   |exit id'=>
    simp only at h
    cases hb:Nat.beq id' id with
    |true=>rw[hb]at h;cases h;exact h1
    |false=>rw[hb]at h;cases h;exact h1
   |ret=>cases h;exact h1
 |.loop c,fr,e,fr',h=>by
  unfold bh at h
  exact CA (fun fr e fr' hb=>ep hc c fr e fr' hb) n fr e fr' h
 |.scope c,fr,e,fr',h=>by
  unfold bh at h
  exact ep hc c _ _ _ h
 |.rangeFunc g ps a b,fr,e,fr',h=>by
  unfold bh at h
  split at h
  ·rename_i f first captured _
   split at h
   ·rename_i v m1 hcl
    have h1:=LK.push.trans (hc _ _ _ _ _ hcl)
    split at h
    ·split at h
     ·cases h
     ·cases h;exact h1.trans LK.rJ
    ·cases h
   ·cases h
  ·cases h
 |.goto l,fr,e,fr',h=>by simp[bh]at h
 |.refuse y,fr,e,fr',h=>by simp[bh]at h
theorem tJ{call:aF}(hc:gW call){n:Nat}:∀(cs:List Code) (fr:Fr) (e:Ex) (fr':Fr),qu (bh E call n) cs fr=some (e,fr')->LK fr.m fr'.m
 |[],fr,e,fr',h=>by cases h;exact LK.refl
 |c::cs,fr,e,fr',h=>by
  unfold qu at h
  cases ha:bh E call n c fr with
  |none=>rw[ha]at h;cases h
  |some p=>
   obtain⟨e1,fr1⟩:=p
   rw[ha]at h
   have h1:=ep hc c _ _ _ ha
   cases e1 with
   |normal=>exact h1.trans (tJ hc cs _ _ _ h)
   |exit id=>cases h;exact h1
   |ret=>cases h;exact h1
theorem AZ{fn:Func}{fr:Fr}{v:Value}(h0:LK m fr.m)(h:Ba E fn m fr=some (v,m')):LK m m':=by
 unfold Ba at h
 split at h
 ·cases h
 ·rename_i v1 _
  cases hb:(bY v1 && Nat.ble m.n fr.m.low)with
  |true=>rw[hb]at h;cases h;exact LK.refl
  |false=>rw[hb]at h;cases h;exact h0
theorem Ov{call:aF}(hc:gW call){n g:Nat}{args:List Value}(h:Br E (bh E call n) g args m=some m'):LK m m':=by
 unfold Br at h
 split at h
 ·rename_i c _
  cases hb:(Nat.ble args.length c.fn.ntmps && (c.fn.results.toList.isEmpty && ke c.rest))with
  |false=>rw[hb]at h;cases h
  |true=>
   rw[hb]at h
   simp only[cond_true]at h
   split at h
   ·split at h
    ·cases h
    ·cases h
    ·rename_i hex
     cases h
     exact(ep hc _ _ _ _ hex:LK m _)
   ·cases h
 ·cases h
theorem JA{call:aF}(hc:gW call){n:Nat}{d:OZ}{args:List Value}{v:Value}(h:tV E (bh E call n) d args m=some (v,m')):LK m m':=by
 unfold tV at h
 cases hb:Nat.ble args.length d.fn.ntmps with
 |false=>rw[hb]at h;cases h
 |true=>
  rw[hb]at h
  simp only[cond_true]at h
  split at h
  ·rename_i hex
   exact AZ (tJ hc _ _ _ _ hex:LK m _) h
  ·rename_i fr hex
   have h1:LK m fr.m:=(tJ hc _ _ _ _ hex:LK m _)
   split at h
   ·split at h
    ·rename_i td g fi ca c _ _ _ _ _ t' _ _
     cases hb2:(Nat.beq _ td && (c.args.toList.isEmpty && fi.toList.isEmpty))with
     |false=>rw[hb2]at h;cases h
     |true=>
      rw[hb2]at h
      simp only[cond_true]at h
      split at h
      ·cases h
      ·cases h
      ·rename_i e fr2 _ hex2
       have h2:=ep hc _ _ _ _ hex2
       have h2:LK m fr2.m:=h1.trans h2
       split at h
       ·rename_i m3 hcl
        exact AZ (fr:={fr2 with m:=m3}) (h2.trans (Ov hc hcl)) h
       ·cases h
    ·cases h
   ·cases h
  ·cases h
theorem Hg{call:aF}(hc:gW call){n G l:Nat}{args:List Value}{v:Value}(h:qe (bh E call n) G l args m=some (v,m')):LK m m':=by
 unfold qe at h
 split at h
 ·rename_i r _
  cases hb:(Nat.beq args.length r.ps.size && Nat.beq r.G G)with
  |false=>rw[hb]at h;cases h
  |true=>
   rw[hb]at h
   simp only[cond_true]at h
   split at h
   ·rename_i fr1 hx
    have h1:LK m fr1.m:=(ep hc _ _ _ _ hx:LK m _)
    split at h
    ·split at h
     ·split at h
      ·rename_i fr2 hx2
       have h2:LK m fr2.m:=(h1.trans LK.rJ).trans (ep hc _ _ _ _ hx2)
       split at h
       ·split at h
        ·cases h;exact h2.trans LK.rJ
        ·cases h;exact h2.trans LK.rJ
       ·cases h
      ·cases h
     ·cases h
    ·cases h
   ·cases h
 ·cases h
theorem wZ{X:aF}(hX:gW X):∀n,gW (bV E X n)
 |0=>fun f args m v m' h=>by simp[bV]at h
 |n+1=>fun f args m v m' h=>by
  have ih:=wZ hX n
  cases f with
  |func f=>
   unfold bV at h
   split at h
   ·rename_i r hr;cases h;exact hX _ _ _ _ _ hr
   ·split at h
    ·split at h
     ·exact JA ih h
     ·cases h
    ·rename_i fn _
     split at h
     ·cases h
     ·cases hle:Nat.ble args.length fn.ntmps with
      |false=>rw[hle]at h;cases h
      |true=>
       rw[hle]at h
       simp only[cond_true]at h
       split at h
       ·cases h
       ·cases h
       ·rename_i fr _ hex
        exact AZ (E:=E) (fn:=fn) (fr:=fr) (ep ih _ _ _ _ hex:LK m _) h
  |yield l=>unfold bV at h;exact Hg ih h
  |_=>simp[bV]at h
end
end Go.D
namespace Go.D
open Go
def dG(ro:Option Nat):Fence:={Fence.wide with round:=ro}
section
variable {E:Env} {P:Program} {σ:Sg} {m m':M} {w:World}
def di(P:Program)(σ:Sg)(m:M)(w:World)(r:Result Next)(v:Value)(m':M):Prop:=
 (∃σ' w' v',aJ σ' v v'/\Ev P σ m w σ' m' w')/\
 ∀(ro:Option Nat) (n:Nat) (o:Oper) (a:Act) (next:Act->World->Prop) (Q:Exit->Act->World->Prop),
  (∀σ' w' v',aJ σ' v v'->Ev P σ m w σ' m' w'->next (a.put o.dst v') w')->o.uponIn (dG ro) n P a next Q r
def cy(P:Program)(σ:Sg)(m:M)(w:World)(v:Value)(m':M):Ending->World->Prop:=fun e w'=>∃v' σ',e=.returned v'/\aJ σ' v v'/\Ev P σ m w σ' m' w'
structure cB(P:Program)(call:aF):Prop where
 func:∀f args m v m',call (.func f) args m=some (v,m')->∀σ w (args':Array Value),dB P σ m w->aT σ args args'.toList->
  CallsIn Fence.wide 0 P f args' w (cy P σ m w v m')/\(callFunc f args').run P w=.ok (.enter f args') w
 yield:∀l args m v m',call (.yield l) args m=some (v,m')->∀σ w i (args':Array Value),dB P σ m w->σ l=some i->aT σ args args'.toList->di P σ m w ((Instr.yield i.bX args').run P w) v m'
 bw:gW call
 FD:∀a m v m' b,call (.func uk) [.pointer (some a)] m=some (v,m')->ny m a=some b->m.get b≠.dead/\m'=m.set b .dead/\∀σ w (args':Array Value),dB P σ m w->aT σ [.pointer (some a)] args'.toList->
  ∃i,σ b=some i/\CallsIn Fence.wide 0 P uk args' w (fun e w'=>cy P σ m w v m' e w'/\∀B,B≠i.bX->w'.heap[B]?=w.heap[B]?)/\(callFunc uk args').run P w=.ok (.enter uk args') w
theorem di.enter{f:FuncId}{args:Array Value}{v:Value}(h:CallsIn Fence.wide 0 P f args w (cy P σ m w v m')):di P σ m w (.ok (.enter f args) w) v m':=by
 refine⟨?_,fun ro n o a next Q hk=>?_⟩
 ·obtain⟨e,w',fr,⟨v',σ',_,hv,he⟩,_⟩:=h.2 [] (room_wide _)
  exact⟨σ',w',v',hv,he⟩
 ·refine⟨fun hh=>by simp[dG,Fence.wide]at hh,?_⟩
  have h2:CallsIn (dG ro) (n-1) P f args w (cy P σ m w v m'):=⟨trivial,fun cs _=>h.2 cs (room_wide _)⟩
  refine h2.mono fun e w' he=>?_
  obtain⟨v',σ',rfl,hv,hev⟩:=he
  exact hk σ' w' v' hv hev
theorem Bd{Q0:Ending->World->Prop}{f:FuncId}{args:Array Value}(h:CallsIn Fence.wide 0 P f args w Q0)(ro:Option Nat)(n:Nat)(o:Oper)(a:Act)(next:Act->World->Prop)(Q:Exit->Act->World->Prop)
  (hk:∀e w',Q0 e w'->∃v',e=.returned v'/\next (a.put o.dst v') w'):o.uponIn (dG ro) n P a next Q (.ok (.enter f args) w):=by
 refine⟨fun hh=>by simp[dG,Fence.wide]at hh,?_⟩
 have h2:CallsIn (dG ro) (n-1) P f args w Q0:=⟨trivial,fun cs _=>h.2 cs (room_wide _)⟩
 refine h2.mono fun e w' he=>?_
 obtain⟨v',rfl,hn⟩:=hk e w' he
 exact hn
theorem cB.op{call:aF}(hc:cB P call)(f:FuncId)(args:List Value)(m:M)(v:Value)(m':M)(h:call (.func f) args m=some (v,m'))(σ:Sg)(w:World)(args':Array Value)(hs:dB P σ m w)(hl:aT σ args args'.toList):di P σ m w ((callFunc f args').run P w) v m':=by
 obtain⟨h1,h2⟩:=hc.func f args m v m' h σ w args' hs hl
 rw[h2]
 exact .enter h1
theorem di.value{v v':Value}{σ':Sg}{w':World}(hv:aJ σ' v v')(he:Ev P σ m w σ' m' w'):di P σ m w (.ok (.value v') w') v m':=
 ⟨⟨σ',w',v',hv,he⟩,fun _ _ _ _ _ _ h=>h σ' w' v' hv he⟩
theorem di.skip{σ':Sg}{w':World}(he:Ev P σ m w σ' m' w'):di P σ m w (.ok .skip w') undef m':=
 ⟨⟨σ',w',undef,aJ.undef,he⟩,fun _ _ _ _ _ _ h=>h σ' w' undef aJ.undef he⟩
theorem uK.op{s:Sem Value}{v:Value}(h:uK P σ m w s v m'):di P σ m w ((do let x<-s;Pure.pure (Next.value x):Sem Next).run P w) v m':=by
 obtain⟨σ',w',v',h1,h2,h3⟩:=h
 rw[Sem.run_bind,h1]
 exact .value h2 h3
theorem di.same(hs:dB P σ m w){s:Sem Value}{v v':Value}(h:s.run P w=.ok v' w)(hv:aJ σ v v'):di P σ m w ((do let x<-s;pure (Next.value x):Sem Next).run P w) v m:=
 (uK.pure hs h hv).op
def cY(σ:Sg)(T:Tr Value)(a:Act)(nt:Nat):Prop:=a.tmps.size=nt/\∀t,t < nt->aJ σ (gR T t) (a.eval (.tmp t))
theorem cY.mono{τ:Sg}{T:Tr Value}{a:Act}{nt:Nat}(h:cY σ T a nt)(hle:σ.le τ):cY τ T a nt:=⟨h.1,fun t ht=>(h.2 t ht).mono hle⟩
theorem BB(T:Tr Value)(d:Tmp)(v:Value)(t:Nat):gR (put T (some d) v) t=if t=d then v else gR T t:=by
 unfold gR D.put
 rw[Tr.bH]
 by_cases h:t=d <;>simp[h]
theorem cY.put{T:Tr Value}{a:Act}{nt:Nat}{v v':Value}{dst:Option Tmp}(h:cY σ T a nt)(hd:∀d,dst=some d->d < nt)(hv:aJ σ v v'):cY σ (put T dst v) (a.put dst v') nt:=by
 cases dst with
 |none=>exact h
 |some d=>
  have hdn:=hd d rfl
  refine⟨by simp[Act.put,h.1],fun t ht=>?_⟩
  rw[BB]
  by_cases hdt:t=d
  ·subst hdt
   have:(a.put (some t) v').eval (.tmp t)=v':=by simp[Act.put,Act.eval,h.1,hdn]
   rw[if_pos rfl,this];exact hv
  ·rw[if_neg hdt,Act.eval_put (fun e he=>by cases he;simpa using hdt)]
   exact h.2 t ht
theorem zL{nt:Nat}{T:Tr Value}{a:Act}{x:Operand}(hs:dB P σ m w)(hT:∀t,x=.tmp t->aJ σ (gR T t) (a.eval (.tmp t)))(hx:nT nt P.globals.size x=true):aJ σ (ev T x) (a.eval x):=by
 cases x with
 |tmp t=>exact hT t rfl
 |const v=>exact .ir hx
 |global g=>
  have hg:g < P.globals.size:=by
   have h:Nat.blt g P.globals.size=true:=hx
   rw[dQ]at h;simpa using h
  exact .ptr ⟨g,0,none⟩ ⟨g,none⟩ (hs.iG g hg) rfl
 |func f=>exact .flat _ rfl
theorem jm{T:Tr Value}{a:Act}(l:List Operand)(h:∀x∈l,aJ σ (ev T x) (a.eval x)):aT σ (l.map (ev T)) (l.map a.eval):=by
 refine⟨by simp,fun j u u' hu hu'=>?_⟩
 simp only[List.getElem?_map,Option.map_eq_some_iff]at hu hu'
 obtain⟨x,hx,rfl⟩:=hu
 obtain⟨y,hy,rfl⟩:=hu'
 rw[hx]at hy;cases hy
 exact h x (List.mem_of_getElem? hx)
theorem uD(hE:E.OK P)(hs:dB P σ m w){b:Builtin}{ts:Array TypeId}{ty:TypeId}{cs:Array Bool}{args args':List Value}{v:Value}(h:aq E m b ts.toList args=some (v,m'))(hl:aT σ args args'):
  di P σ m w ((Go.builtin b ts ty cs args'.toArray).run P w) v m':=by
 unfold aq at h
 split at h
 ·rename_i t u s x hts
  obtain⟨s',l1,rfl,h1,hl1⟩:=hl.cases
  obtain⟨x',l2,rfl,h2,hl2⟩:=hl1.cases
  obtain rfl:=hl2.nil_eq
  have hts':ts= #[t,u]:=Array.ext' hts
  subst hts'
  exact(xD (ty:=ty) hE hs h h1 h2).op
 ·rename_i t rest d x hts
  obtain⟨s',l1,rfl,h1,hl1⟩:=hl.cases
  obtain⟨x',l2,rfl,h2,hl2⟩:=hl1.cases
  obtain rfl:=hl2.nil_eq
  have hts':ts[0]?=some t:=by rw[<-Array.getElem?_toList,hts];rfl
  exact(Bk (ty:=ty) hE hs hts' h h1 h2).op
 ·rename_i t x hts
  obtain⟨x',l2,rfl,h2,hl2⟩:=hl.cases
  obtain rfl:=hl2.nil_eq
  have hts':ts= #[t]:=Array.ext' hts
  subst hts'
  exact(zT (ty:=ty) hE hs h h2).op
 ·rename_i t x hts
  obtain⟨x',l2,rfl,h2,hl2⟩:=hl.cases
  obtain rfl:=hl2.nil_eq
  have hts':ts= #[t]:=Array.ext' hts
  subst hts'
  simp only[Option.map_eq_some_iff,Prod.mk.injEq]at h
  obtain⟨v0,h,rfl,rfl⟩:=h
  obtain⟨q1,q2⟩:=Es (ty:=ty) hE hs h h2
  exact di.same hs q1 (.flat _ q2)
 ·simp only[Option.map_eq_some_iff,Prod.mk.injEq]at h
  obtain⟨v0,h,rfl,rfl⟩:=h
  obtain⟨x,rest,rfl,q1,q2⟩:=lR (P:=P) (w:=w) (op:=Builtin.min2) (fun k x k' y=>rfl) hl h
  exact di.same hs (s:=Builtin.min_ ts ty (x::rest).toArray) (by simpa[Builtin.min_]using q1) (.flat _ q2)
 ·simp only[Option.map_eq_some_iff,Prod.mk.injEq]at h
  obtain⟨v0,h,rfl,rfl⟩:=h
  obtain⟨x,rest,rfl,q1,q2⟩:=lR (P:=P) (w:=w) (op:=Builtin.max2) (fun k x k' y=>rfl) hl h
  exact di.same hs (s:=Builtin.max_ ts ty (x::rest).toArray) (by simpa[Builtin.max_]using q1) (.flat _ q2)
 ·rename_i t x hts
  obtain⟨x',l2,rfl,h2,hl2⟩:=hl.cases
  obtain rfl:=hl2.nil_eq
  have hts':ts= #[t]:=Array.ext' hts
  subst hts'
  split at h
  ·rename_i ti hti
   obtain⟨i,u,f⟩:=hE.jO hti
   split at h
   ·rename_i e a n c hd
    rw[f.d]at hd
    obtain rfl:=cL hd
    cases hsl:lI m a with
    |true=>rw[hsl]at h;simp at h
    |false=>
     rw[hsl]at h
     simp only[cond_false,Option.some.injEq,Prod.mk.injEq]at h
     obtain⟨rfl,rfl⟩:=h
     obtain⟨bi,a',c',hbi,rfl,hcase⟩:=h2.cW
     have hgn:bi.gr=none:=by
      unfold lI at hsl
      split at hsl
      ·rename_i cs te hg
       obtain⟨_,_,_,_,hgr⟩:=hs.cells hbi hg
       exact hgr.1
      ·cases hsl
     have hcc:c'=c:=by
      rcases hcase with⟨_,_,⟨_,rfl⟩ |⟨k,sz,N,hk,_⟩⟩ |⟨_,_,k,sz,N,hk,_⟩
      ·rfl
      ·rw[hgn]at hk;cases hk
      ·rw[hgn]at hk;cases hk
     subst hcc
     exact di.same hs (s:=Builtin.cap_ #[t] ty #[.slice (some a') n c']) (by simp[Builtin.cap_,run_underlying f.dV,goInt]) (.flat _ rfl)
   ·rename_i e n c hd
    rw[f.d]at hd
    obtain rfl:=cL hd
    cases h
    obtain⟨rfl,rfl,rfl⟩:=h2.dH
    exact di.same hs (s:=Builtin.cap_ #[t] ty #[.slice none 0 0]) (by simp[Builtin.cap_,run_underlying f.dV,goInt]) (.flat _ rfl)
   ·cases h
  ·cases h
 ·cases h
theorem ug.map{T:Tr Value}{a:Act}{x:Option Operand}(h:∀o,x=some o->aJ σ (ev T o) (a.eval o)):ug σ (x.map (ev T)) (x.map a.eval):=by
 cases x with
 |none=>trivial
 |some o=>exact h o rfl
theorem Bu(hE:E.OK P){call:aF}(cD:cB P call)(hs:dB P σ m w){T:Tr Value}{a:Act}{c:Call}{ty:TypeId}{v:Value}(h:kR c E call T m=some (v,m'))
  (hT:∀x∈c.operands.toList,aJ σ (ev T x) (a.eval x)):di P σ m w ((do let d<-resolve a.eval c ty;invoke d.target d.args:Sem Next).run P w) v m':=by
 unfold kR at h
 have hargs:aT σ (c.args.toList.map (ev T)) (c.args.toList.map a.eval):=jm _ (fun x hx=>hT x (by simp[Call.operands];exact .inr (by simpa using hx)))
 have hma:c.args.map a.eval=(c.args.toList.map a.eval).toArray:=by apply Array.ext';simp
 unfold resolve
 split at h
 ·rename_i b hc
  rw[hc]
  simp only[Sem.run_bind,Sem.run_pure,Result.andThen_ok,invoke,hma]
  exact uD hE hs h hargs
 ·rename_i f hc
  rw[hc]
  have hf:aJ σ (ev T f) (a.eval f):=hT f (by simp[Call.operands,hc])
  split at h
  ·rename_i g first captured hg
   rw[hg]at hf
   obtain⟨fv,hfv⟩:∃x,a.eval f=x:=⟨_,rfl⟩
   rw[hfv]at hf
   cases hf with
   |flat _ hh=>
    cases g with
    |func g=>
     simp only[hfv,Deferred.ofValue,Sem.run_bind,Sem.run_pure,Result.andThen_ok,invoke]
     refine cD.op g _ m v m' h σ w _ hs ?_
     rw[hma]
     simp only[bL,Bool.and_eq_true,List.isEmpty_iff]at hh
     simp only[Array.toList_append,hh.1,hh.2,List.nil_append,List.append_nil]
     exact hargs
    |_=>simp[bL]at hh
   |func g _ _ first' captured' ha hb h1 h2=>
    simp only[hfv,Deferred.ofValue,Sem.run_bind,Sem.run_pure,Result.andThen_ok,invoke]
    refine cD.op g _ m v m' h σ w _ hs ?_
    rw[hma]
    simp only[Array.toList_append]
    have e1:aT σ first.toList first'.toList:=⟨by simpa using ha,fun j u u' x y=>h1 j u u' (by simpa using x) (by simpa using y)⟩
    have e2:aT σ captured.toList captured'.toList:=⟨by simpa using hb,fun j u u' x y=>h2 j u u' (by simpa using x) (by simpa using y)⟩
    rw[List.append_assoc]
    exact e1.append (hargs.append e2)
   |yield l i hl=>
    simp only[hfv,Deferred.ofValue,Sem.run_bind,Sem.run_pure,Result.andThen_ok,invoke]
    refine cD.yield l _ m v m' h σ w i _ hs hl ?_
    rw[hma]
    simp only[Array.toList_append,List.nil_append,List.append_nil]
    simpa using hargs
  ·cases h
 ·cases h
theorem oU(hE:E.OK P){call:aF}(cD:cB P call)(hs:dB P σ m w){T:Tr Value}{a:Act}{o:Oper}{v:Value}(h:cJ o.op E call T m=some (v,m'))
  (hT:∀x∈o.op.operands.toList,aJ σ (ev T x) (a.eval x)):di P σ m w ((execOp a.eval o).run P w) v m':=by
 unfold execOp
 cases ho:o.op with
 |move x=>
  rw[ho]at h hT
  dsimp only
  cases h
  exact .value (hT x (by simp[Op.operands])) (Ev.refl hs)
 |assign x=>
  rw[ho]at h hT
  dsimp only
  cases h
  exact .value (hT x (by simp[Op.operands])) (Ev.refl hs)
 |pick c x y=>
  rw[ho]at h hT
  dsimp only
  simp only[cJ,nP]at h
  split at h
  ·rename_i t hc
   simp only[Option.some.injEq,Prod.mk.injEq]at h
   obtain⟨rfl,rfl⟩:=h
   have h1:=hT c (by simp[Op.operands])
   rw[hc]at h1
   rw[h1.bool]
   simp only[asBool,Sem.run_bind,Sem.run_pure,Result.andThen_ok]
   refine .value ?_ (Ev.refl hs)
   cases t
   ·exact hT y (by simp[Op.operands])
   ·exact hT x (by simp[Op.operands])
  ·cases h
 |alloc t=>
  rw[ho]at h
  dsimp only
  simp only[cJ,oY]at h
  split at h
  ·rename_i z hz
   cases h
   exact(Ac hE hs hz).op
  ·cases h
 |box t x=>
  rw[ho]at h hT
  dsimp only
  cases h
  exact(Fw hs (hT x (by simp[Op.operands]))).op
 |build t ps=>
  rw[ho]at h hT
  dsimp only
  simp only[cJ,oX]at h
  split at h
  ·rename_i z hz
   cases h
   obtain⟨v',h1,h2⟩:=qW (w:=w) hE (T:=ev T) (A:=a.eval) (fun p hp=>hT p.2 (by simp only[Op.operands];exact List.mem_map_of_mem hp)) hz
   exact di.same hs h1 h2
  ·cases h
 |buildSlice t n ps=>
  rw[ho]at h hT
  dsimp only
  simp only[cJ,kS]at h
  exact(qE hE hs (T:=ev T) (A:=a.eval) (fun p hp=>hT p.2 (by simp only[Op.operands];exact List.mem_map_of_mem hp)) h).op
 |load t x=>
  rw[ho]at h hT
  dsimp only
  simp only[cJ,sQ]at h
  split at h
  ·rename_i ad hx
   split at h
   ·rename_i z hz
    cases h
    have h1:=hT x (by simp[Op.operands])
    rw[hx]at h1
    obtain⟨i,hi,_,he⟩:=h1.dO
    obtain⟨v',q1,q2,_⟩:=ni (w:=w) hE hs hi hz
    refine di.same hs (s:=Instr.loadAt t (a.eval x)) ?_ q2
    rw[he]
    simpa[Instr.loadAt,Instr.sureAddr]using q1
   ·cases h
  ·cases h
 |store t x y=>
  rw[ho]at h hT
  dsimp only
  simp only[cJ,kQ]at h
  split at h
  ·rename_i ad hx
   split at h
   ·rename_i m2 hz
    cases h
    have h1:=hT x (by simp[Op.operands])
    rw[hx]at h1
    obtain⟨i,hi,_,he⟩:=h1.dO
    obtain⟨w',q1,q2,_⟩:=lH hE hs hi (hT y (by simp[Op.operands])) hz
    have hr:(Instr.storeAt t (a.eval x) (a.eval y)).run P w=.ok () w':=by
     rw[he]
     simpa[Instr.storeAt,Instr.sureAddr]using q1
    simp only[Sem.run_bind,hr,Result.andThen_ok,Sem.run_pure]
    exact .skip q2
   ·cases h
  ·cases h
 |nilCheck x=>
  rw[ho]at h hT
  dsimp only
  have h1:=hT x (by simp[Op.operands])
  simp only[cJ,fI]at h
  split at h
  ·rename_i ad hx
   cases h
   rw[hx]at h1
   have h2:=h1
   obtain⟨i,hi,_,he⟩:=h1.dO
   rw[he]at h2⊢
   exact .value h2 (Ev.refl hs)
  ·rename_i g a1 b1 hx
   cases h
   rw[hx]at h1
   have h2:=h1
   obtain⟨a',b',he,_⟩:=h1.tD
   rw[he]at h2⊢
   exact .value h2 (Ev.refl hs)
  ·cases h
 |binOp op t x y yt=>
  rw[ho]at h hT
  dsimp only
  simp only[cJ,yX]at h
  split at h
  ·rename_i z hz
   cases h
   obtain⟨q1,q2⟩:=vv (w:=w) hE hz (hT x (by simp[Op.operands])) (hT y (by simp[Op.operands])) x y
   exact di.same hs q1 (.flat _ q2)
  ·cases h
 |unOp op t x=>
  rw[ho]at h hT
  dsimp only
  simp only[cJ,Hv]at h
  split at h
  ·rename_i z hz
   cases h
   obtain⟨q1,q2⟩:=xS (P:=P) (w:=w) hz (hT x (by simp[Op.operands]))
   exact di.same hs q1 (.flat _ q2)
  ·cases h
 |convert s d x=>
  rw[ho]at h hT
  dsimp only
  simp only[cJ,AJ]at h
  split at h
  ·rename_i z hz
   cases h
   obtain⟨q1,q2⟩:=Jp (P:=P) (w:=w) hE hs hz (hT x (by simp[Op.operands]))
   exact di.same hs q1 (.flat _ q2)
  ·cases h
 |makeFunc f x y=>
  rw[ho]at h hT
  dsimp only
  simp only[cJ,gJ]at h
  split at h
  ·rename_i g
   cases h
   have e1:aT σ (x.toList.map (ev T)) (x.toList.map a.eval):=jm _ (fun o hx=>hT o (by simp[Op.operands];exact .inl (by simpa using hx)))
   have e2:aT σ (y.toList.map (ev T)) (y.toList.map a.eval):=jm _ (fun o hx=>hT o (by simp[Op.operands];exact .inr (by simpa using hx)))
   refine di.same hs (s:=Instr.makeFunc (.func g) (x.map a.eval) (y.map a.eval)) rfl ?_
   refine .func g _ _ _ _ (by simp) (by simp) (fun j u u' p q=>e1.2 j u u' (by simpa using p) (by simpa using q)) (fun j u u' p q=>e2.2 j u u' (by simpa using p) (by simpa using q))
  ·cases h
 |makeMap t r=>
  rw[ho]at h
  dsimp only
  simp only[cJ,mI]at h
  split at h
  ·cases h
   exact(uB hs t).op
  ·cases h
 |makeSlice t l c=>
  rw[ho]at h hT
  dsimp only
  exact(rl hE hs (hT l (by simp[Op.operands])) (hT c (by simp[Op.operands])) h).op
 |slice t x lo hi mx=>
  rw[ho]at h hT
  dsimp only
  simp only[cJ,vZ]at h
  split at h
  ·rename_i z hz
   cases h
   obtain⟨v',q1,q2⟩:=yA (w:=w) hE hs hz (hT x (by simp[Op.operands])) (ug.map (a:=a) (fun o he=>hT o (by simp[Op.operands,he]))) (ug.map (a:=a) (fun o he=>hT o (by simp[Op.operands,he]))) (ug.map (a:=a) (fun o he=>hT o (by simp[Op.operands,he])))
   exact di.same hs q1 q2
  ·cases h
 |fieldAddr s x f=>
  rw[ho]at h hT
  dsimp only
  simp only[cJ,im]at h
  split at h
  ·rename_i z hz
   cases h
   obtain⟨v',q1,q2⟩:=lB (w:=w) hE hz (hT x (by simp[Op.operands]))
   exact di.same hs q1 q2
  ·cases h
 |field t x f=>
  rw[ho]at h hT
  dsimp only
  simp only[cJ,oW]at h
  split at h
  ·rename_i z hz
   cases h
   obtain⟨v',q1,q2⟩:=qS (w:=w) hE hz (hT x (by simp[Op.operands]))
   exact di.same hs q1 q2
  ·cases h
 |indexAddr t x y=>
  rw[ho]at h hT
  dsimp only
  simp only[cJ,il]at h
  split at h
  ·rename_i z hz
   cases h
   obtain⟨v',q1,q2⟩:=lA (w:=w) hE hz (hT x (by simp[Op.operands])) (hT y (by simp[Op.operands]))
   exact di.same hs q1 q2
  ·cases h
 |index t x y=>
  rw[ho]at h hT
  dsimp only
  simp only[cJ,oV]at h
  split at h
  ·rename_i z hz
   cases h
   obtain⟨v',q1,q2⟩:=qO (w:=w) hE hz (hT x (by simp[Op.operands])) (hT y (by simp[Op.operands]))
   exact di.same hs q1 q2
  ·cases h
 |lookup t x y ok=>
  rw[ho]at h hT
  dsimp only
  simp only[cJ,sP]at h
  split at h
  ·rename_i z hz
   cases h
   obtain⟨v',q1,q2⟩:=wA hE hs hz (hT x (by simp[Op.operands])) (hT y (by simp[Op.operands]))
   exact di.same hs q1 q2
  ·cases h
 |mapUpdate t x k y=>
  rw[ho]at h hT
  dsimp only
  simp only[cJ,dY]at h
  split at h
  ·rename_i m2 hz
   cases h
   obtain⟨w',q1,q2⟩:=lz hE hs hz (hT x (by simp[Op.operands])) (hT k (by simp[Op.operands])) (hT y (by simp[Op.operands]))
   simp only[Sem.run_bind,q1,Result.andThen_ok,Sem.run_pure]
   exact .skip q2
  ·cases h
 |insert t x k y=>
  rw[ho]at h hT
  dsimp only
  simp only[cJ,dY]at h
  split at h
  ·rename_i m2 hz
   cases h
   obtain⟨w',q1,q2⟩:=lz hE hs hz (hT x (by simp[Op.operands])) (hT k (by simp[Op.operands])) (hT y (by simp[Op.operands]))
   simp only[Sem.run_bind,q1,Result.andThen_ok,Sem.run_pure]
   exact .skip q2
  ·cases h
 |extract x i=>
  rw[ho]at h hT
  dsimp only
  simp only[cJ,jg]at h
  split at h
  ·rename_i vs hx
   split at h
   ·rename_i z hz
    cases h
    have h1:=hT x (by simp[Op.operands])
    rw[hx]at h1
    obtain⟨vs',he,hl⟩:=h1.pU
    obtain⟨u',hu,hr⟩:=hl.get hz
    refine di.same hs (s:=Instr.extract (a.eval x) i) (v':=u') ?_ hr
    rw[he]
    have:vs'[i]?=some u':=by simpa using hu
    simp[Instr.extract,this]
   ·cases h
  ·cases h
 |call c=>
  rw[ho]at h hT
  dsimp only
  exact Bu hE cD hs h hT
 |mapEntry t x k=>
  rw[ho]at h hT
  dsimp only
  simp only[cJ,nQ]at h
  obtain⟨w',v',q1,q2,q3⟩:=sW hE hs h (hT x (by simp[Op.operands])) (hT k (by simp[Op.operands]))
  exact uK.op ⟨_,w',v',q1,q2,q3⟩
 |entryStore t x s y=>
  rw[ho]at h hT
  dsimp only
  simp only[cJ,iU]at h
  split at h
  ·rename_i m2 hz
   cases h
   obtain⟨w',q1,q2⟩:=qz (t:=t) hs hz (hT x (by simp[Op.operands])) (hT s (by simp[Op.operands])) (hT y (by simp[Op.operands]))
   simp only[Sem.run_bind,q1,Result.andThen_ok,Sem.run_pure]
   exact .skip q2
  ·cases h
 |typeAssert x xt t ok=>
  rw[ho]at h hT
  dsimp only
  simp only[cJ,sR]at h
  have h1:=hT x (by simp[Op.operands])
  split at h
  ·rename_i hx
   rw[hx]at h1
   rw[h1.aK rfl]
   cases ok with
   |false=>cases h
   |true=>
    simp only[cond_true]at h
    split at h
    ·rename_i z hz
     cases h
     unfold ig at hz
     cases hti:E.ty.get t with
     |none=>rw[hti]at hz;cases hz
     |some ti=>
      rw[hti]at hz
      simp only[Option.bind_some]at hz
      obtain⟨i,u,f⟩:=hE.jO hti
      have hzr:=aJ.eB (σ:=σ) (hE.flat hti hz)
      have hzrun:=cZ (w:=w) f.info (by rw[<-f.zero];exact hz)
      refine di.same hs (s:=Instr.typeAssert .nilIface xt t true) (v':=.tuple #[z,.bool false]) ?_ (aT.cons hzr (aT.cons (.flat _ rfl) aT.nil)).tuple
      unfold Instr.typeAssert
      rw[Sem.run_bind,run_underlying f.dV,Result.andThen_ok]
      split <;>first |(rename_i h3;cases h3;done) |skip
      all_goals first |(simp only[if_true,Sem.run_bind,hzrun,Result.andThen_ok,Sem.run_pure];done) |(exfalso;simp_all;done)
    ·cases h
  ·rename_i t' cs hx
   cases hc:(ok && (Nat.beq t' t && cs.toList.isEmpty))with
   |false=>rw[hc]at h;cases h
   |true=>
    rw[hc,cond_true]at h
    simp only[Bool.and_eq_true,List.isEmpty_iff]at hc
    obtain⟨rfl,ht,hcs⟩:=hc
    obtain rfl:=Nat.eq_of_beq_eq_true ht
    have hcs':cs= #[]:=Array.eq_empty_of_size_eq_zero (by rw[<-Array.length_toList,hcs];rfl)
    subst hcs'
    rw[hx]at h1
    rw[h1.aK rfl]
    split at h
    ·rename_i ti hti
     split at h
     ·rename_i fs hfs
      cases h
      obtain⟨i,u,f⟩:=hE.jO hti
      obtain⟨gs,rfl,_⟩:=eT (f.d.symm.trans hfs)
      refine di.same hs (s:=Instr.typeAssert (.iface t' (.agg #[])) xt t' true) (v':=.tuple #[.agg #[],.bool true]) ?_ (aT.cons (aJ.ir rfl) (aT.cons (.flat _ rfl) aT.nil)).tuple
      unfold Instr.typeAssert
      rw[Sem.run_bind,run_underlying f.dV,Result.andThen_ok]
      simp only[if_true]
      rfl
     ·cases h
    ·cases h
  ·cases h
 |_=>rw[ho]at h;simp[cJ]at h
end
end Go.D
namespace Go.D
open Go
section
variable {E:Env} {P:Program} {σ:Sg} {m m':M} {w:World}
theorem aJ.Kr{v:Value}{b:Bool}(h:aJ σ v (.bool b)):v=.bool b:=by
 cases h;rfl
theorem oE{ops:Array Oper}{T:Tr Value}{a:Act}{o:Oper}
  (hT:∀j want d,o.guard=some (j,want)->(ops[j]?).bind (·.dst)=some d->d < a.tmps.size/\aJ σ (gR T d) (a.eval (.tmp d))):
  cg ops T o=Region.wanted o (yielded ops a.tmps):=by
 unfold cg Region.wanted
 cases hg:o.guard with
 |none=>rfl
 |some p=>
  obtain⟨j,want⟩:=p
  dsimp only
  unfold yielded
  simp only[Array.getElem?_toList]
  cases hd:(ops[j]?).bind (·.dst)with
  |none=>rfl
  |some d=>
   obtain⟨h1,h2⟩:=hT j want d hg hd
   have he:a.tmps[d]?=some (a.eval (.tmp d)):=by simp[Act.eval,h1]
   simp only[Option.bind_some,he]
   generalize a.eval (.tmp d)=u at h2
   cases hv:gR T d with
   |bool b=>
    rw[hv]at h2
    rw[h2.bool]
    simp
   |_=>
    rw[hv]at h2
    cases u with
    |bool b=>have:=h2.Kr;cases this
    |_=>simp
theorem ee{nt G:Nat}{o:Oper}(h:fK nt G o=true):∀d,o.dst=some d->d < nt:=by
 intro d hd
 unfold fK at h
 rw[hd]at h
 simp only[Bool.and_eq_true]at h
 have:=h.2
 rw[dQ]at this
 simpa using this
theorem fJ{nt G:Nat}{o:Oper}(h:fK nt G o=true):∀x∈o.op.operands.toList,nT nt G x=true:=by
 intro x hx
 unfold fK at h
 simp only[Bool.and_eq_true]at h
 exact List.all_eq_true.1 h.1 x hx
theorem nS{nt G t:Nat}(h:nT nt G (.tmp t)=true):t < nt:=by
 have h:Nat.blt t nt=true:=h
 rw[dQ]at h;simpa using h
theorem cY.AI{T:Tr Value}{a:Act}{nt:Nat}(h:cY σ T a nt)(hs:dB P σ m w){x:Operand}(hx:nT nt P.globals.size x=true):aJ σ (ev T x) (a.eval x):=
 zL hs (fun t ht=>by subst ht;exact h.2 t (nS hx)) hx
theorem cY.wanted{ops:Array Oper}{T:Tr Value}{a:Act}{nt:Nat}(h:cY σ T a nt)(hok:∀o∈ops.toList,fK nt P.globals.size o=true)(o:Oper):cg ops T o=Region.wanted o (yielded ops a.tmps):=by
 refine oE (σ:=σ) fun j want d _ hd=>?_
 simp only[Option.bind_eq_some_iff]at hd
 obtain⟨o',ho',hd'⟩:=hd
 have hlt:=ee (hok o' (by simpa using Array.mem_of_getElem? ho')) d hd'
 exact⟨by rw[h.1];exact hlt,h.2 d hlt⟩
theorem ql(hE:E.OK P){call:aF}(cD:cB P call){nt:Nat}{ops:Array Oper}(hok:∀o∈ops.toList,fK nt P.globals.size o=true){ro:Option Nat}{n:Nat}{Q:Exit->Act->World->Prop}{ds:List Deferred}:
  ∀(l:List Oper),(∀o∈l,fK nt P.globals.size o=true)->∀(fr fr':Fr),uw E call ops l fr=some fr'->∀(σ:Sg) (a:Act) (w:World),cY σ fr.T a nt->a.defers=ds->dB P σ fr.m w->
   (∀σ' a' w',cY σ' fr'.T a' nt->a'.defers=ds->Ev P σ fr.m w σ' fr'.m w'->Q .normal a' w')->wpListIn (dG ro) n P ops Q l a w
 |[],_,fr,fr',h,σ,a,w,hf,hd,hs,k=>by
  simp only[yW,Option.some.injEq]at h
  subst h
  exact k σ a w hf hd (Ev.refl hs)
 |o::l,hl,fr,fr',h,σ,a,w,hf,hd,hs,k=>by
  rw[kr]at h
  have hw:=hf.wanted hok o
  have hdst:=ee (hl o List.mem_cons_self)
  have hl':=fun o ho=>hl o (List.mem_cons_of_mem _ ho)
  unfold wpListIn
  rw[<-hw]
  cases hwd:cg ops fr.T o with
  |false=>
   rw[hwd]at h
   simp only[cond_false]at h
   rw[if_neg (by simp)]
   refine⟨fun _ _=>trivial,?_⟩
   refine ql hE cD hok l hl' _ _ h σ (a.put o.dst undef) w (hf.put hdst aJ.undef) ?_ hs k
   rw[<-hd];cases o.dst <;>rfl
  |true=>
   rw[hwd]at h
   simp only[cond_true]at h
   rw[if_pos rfl]
   cases ho:cJ o.op E call fr.T fr.m with
   |none=>rw[ho]at h;cases h
   |some p=>
    obtain⟨v,m1⟩:=p
    rw[ho]at h
    simp only at h
    refine⟨fun _ _=>trivial,?_⟩
    have hres:=oU hE cD hs ho (a:=a) (fun x hx=>hf.AI hs (fJ (hl o List.mem_cons_self) x hx))
    rw[Oper.semAt_eq _ _ _ (fun c hc=>by rw[hc]at ho;simp[cJ]at ho)]
    refine hres.2 ro n o a _ Q fun σ' w' v' hv he=>?_
    refine ql hE cD hok l hl' _ _ h σ' (a.put o.dst v') w' ((hf.mono he.ext).put hdst hv) ?_ he.nG fun σ2 a2 w2 hf2 hd2 he2=>k σ2 a2 w2 hf2 hd2 (he.trans he2)
    rw[<-hd];cases o.dst <;>rfl
end
end Go.D
