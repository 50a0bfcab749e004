/- THE ABSTRACT RUN 'D': a .. -/
import Derived.OrdersIn
import Derived.RangeFuncLeaves
import Derived.WalkKit
noncomputable section
namespace Go
abbrev aa4:=@Nat.le_refl
abbrev aa5:=@List.getElem?_eq_getElem
abbrev aa6:=@of_decide_eq_false
abbrev aa7:=@List.getElem?_cons_succ
abbrev aa8:=@List.getElem?_cons_zero
abbrev aa9:=@List.getElem?_eq_some_iff
abbrev aba:=@of_decide_eq_true
abbrev abb:=@List.mem_of_getElem?
abbrev abc:=@Bool.and_eq_true
abbrev abd:=@if_neg
abbrev abe:=@if_pos
abbrev abf:=@Option.some.injEq
abbrev abg:=@Result.andThen_ok
abbrev abh:=@Nat.zero_le
abbrev abi:=@Option.map_some
abbrev abj:=@run_underlying
abbrev abk:=@decide_eq_false
abbrev abl:=@decide_eq_true
abbrev abm:=@cond_false
abbrev abn:=@Nat.eq_of_beq_eq_true
abbrev abo:=@Sem.run_bind
abbrev abp:=@List.mem_cons
abbrev abq:=@Option.map_eq_some_iff
abbrev abr:=@List.length_cons
abbrev abt:=@List.take_add_one
abbrev abu:=@Bool.not_eq_false'
abbrev abv:=@decide_eq_true_eq
abbrev abw:=@List.all_eq_true
abbrev abx:=@List.getElem?_of_mem
abbrev aby:=@List.take_of_length_le
abbrev abz:=@Bool.not_eq_true'
abbrev abA:=@Classical.byContradiction
abbrev abB:=@Nat.le_of_ble_eq_true
abbrev abC:=@List.mem_append
abbrev abD:=@Sem.run_pure
abbrev abE:=@List.mem_singleton
abbrev abF:=@List.pairwise_iff_getElem
abbrev abG:=@Bool.true_and
abbrev abH:=@List.length_map
abbrev abI:=@List.length_nil
abbrev abJ:=@List.append_nil
abbrev abK:=@List.filter_append
abbrev abL:=@List.append_assoc
abbrev abM:=@List.map_append
abbrev abN:=@List.mem_cons_self
abbrev abO:=@List.length_append
abbrev abP:=@Prod.mk.injEq
abbrev abQ:=@List.mem_map
abbrev abR:=@List.take_length
abbrev abS:=@List.mem_cons_of_mem
abbrev abT:=@Nat.ble_eq_true_of_le
abbrev abU:=@List.drop_zero
abbrev abV:=@Nat.zero_add
abbrev abW:=@List.mem_filter
abbrev abX:=@Option.map_none
abbrev abY:=@Nat.ne_of_beq_eq_false
abbrev abZ:=@List.filter_cons
abbrev ab0:=@List.not_mem_nil
abbrev ab1:=@List.drop_eq_getElem_cons
abbrev ab2:=@Array.getElem?_eq_some_iff
abbrev ab3:=@Option.bind_eq_some_iff
abbrev ab4:=@Nat.mul_le_mul_right
abbrev ab5:=@List.take_append_drop
abbrev ab6:=@List.nil_append
abbrev ab7:=@Bool.not_true
abbrev ab8:=@List.pairwise_append
abbrev ab9:=@Option.toList_some
abbrev aca:=@List.pairwise_cons
abbrev acb:=@Nat.le_trans
abbrev acd:=@Int.mul_nonneg
abbrev ace:=@List.getElem?_eq_none
abbrev acf:=@List.take_succ_cons
abbrev acg:=@Nat.add_mul
abbrev ach:=@Array.length_toList
abbrev aci:=@List.cons_append
abbrev acj:=@decide_eq_false_iff_not
abbrev ack:=@List.getElem?_map
abbrev acm:=@Array.getD_eq_getD_getElem?
abbrev acn:=@List.length_filter_le
abbrev aco:=@List.ext_getElem?
abbrev acp:=@List.getElem?_append_right
abbrev acq:=@Nat.beq_refl
abbrev acr:=@List.length_take
abbrev acs:=@Nat.le_succ
abbrev acu:=@List.eq_nil_of_length_eq_zero
abbrev acv:=@List.drop_succ_cons
abbrev acw:=@List.flatMap_cons
abbrev acx:=@Bool.not_false
abbrev acy:=@List.getElem?_take_of_lt
abbrev acz:=@List.getElem?_drop
abbrev acA:=@List.any_eq_true
abbrev acB:=@Bool.or_eq_false_iff
abbrev acC:=@Option.bind_some
abbrev acD:=@Option.getD_some
abbrev acE:=@List.mem_range
abbrev acF:=@List.take_zero
abbrev acG:=@List.flatMap_append
abbrev acH:=@List.filter_eq_self
abbrev acI:=@Bool.or_eq_true
abbrev acJ:=@List.getElem?_append_left
abbrev acK:=@List.filter_nil
abbrev acL:=@Nat.lt_of_lt_of_le
abbrev acM:=@Nat.mod_eq_of_lt
abbrev acN:=@List.map_cons
abbrev acO:=@List.range_succ
abbrev acP:=@List.mem_map_of_mem
abbrev acQ:=@Nat.mod_lt
abbrev acR:=@Nat.lt_of_le_of_lt
abbrev acS:=@Bool.false_and
abbrev acT:=@Array.getElem?_toList
abbrev acU:=@if_true
abbrev acV:=@List.mem_of_find?_eq_some
abbrev acW:=@Nat.one_mul
abbrev acX:=@Int.mul_eq_zero
abbrev acY:=@Nat.add_zero
abbrev acZ:=@List.eq_nil_iff_forall_not_mem
abbrev ac0:=@Array.ext'
abbrev ac1:=@List.any_eq_false
abbrev ac2:=@List.drop_drop
abbrev ac3:=@List.drop_eq_nil_of_le
abbrev ac4:=@Nat.zero_mul
abbrev ac5:=@Bool.false_eq_true
abbrev ac6:=@List.foldl_cons
abbrev ac7:=@List.cons.injEq
abbrev ac8:=@List.mem_iff_getElem?
abbrev ac9:=@List.foldl_append
abbrev ada:=@Int.mul_nonpos_of_nonneg_of_nonpos
abbrev adb:=@Nat.blt_eq
abbrev ade:=@Int.mul_pos
abbrev adf:=@Option.isSome_iff_exists
abbrev adg:=@Nat.sub_zero
abbrev adh:=@List.filterMap_cons
abbrev adi:=@Bool.or_false
abbrev adj:=@Array.eq_empty_of_size_eq_zero
abbrev adk:=@List.filterMap_nil
abbrev adl:=@List.nodup_append
abbrev adm:=@List.pairwise_map
abbrev adn:=@Nat.lt_trichotomy
abbrev ado:=@List.countP_eq_length_filter
abbrev adp:=@List.map_nil
abbrev adq:=@List.filterMap_append
abbrev adr:=@List.contains_eq_mem
abbrev ads:=@List.mem_of_mem_take
abbrev adt:=@Bool.false_or
abbrev adu:=@Nat.div_le_self
abbrev adv:=@Bool.eq_iff_iff
abbrev adw:=@List.getElem?_eq_none_iff
abbrev adx:=@List.mem_filterMap
abbrev ady:=@Int.le_of_lt
abbrev adz:=@Array.foldl_toList
abbrev adA:=@List.find?_eq_none
abbrev adB:=@List.length_filterMap_le
abbrev adC:=@Bool.and_false
abbrev adD:=@List.filter_append_perm
abbrev adE:=@List.length_eq_zero_iff
abbrev adF:=@List.length_range
abbrev adG:=@List.size_toArray
abbrev adH:=@Array.getElem?_push_lt
abbrev adI:=@List.filter_eq_nil_iff
abbrev adJ:=@List.length_drop
abbrev adK:=@List.drop_length
abbrev adL:=@List.isEmpty_iff
abbrev adM:=@List.take_append
abbrev adN:=@Array.getElem?_modify
abbrev adO:=@List.find?_some
abbrev adP:=@List.mem_append_left
abbrev adQ:=@Nat.min_eq_left
abbrev adR:=@Nat.pow_le_pow_right
abbrev adS:=@Nat.lt_or_ge
abbrev adT:=@Nat.add_comm
abbrev adU:=@Int.mul_le_mul_of_nonneg_right
abbrev adV:=@List.all_append
abbrev adW:=@Nat.min_le_left
abbrev adX:=@Int.mul_le_mul_of_nonneg_left
abbrev adY:=@List.getElem?_range
abbrev adZ:=@List.filter_filter
abbrev ad1:=@Nat.sub_add_cancel
abbrev ad2:=@List.set_cons_succ
abbrev ad3:=@Option.isNone_some
abbrev ad4:=@List.getElem?_take
abbrev ad5:=@Bool.and_true
abbrev ad6:=@List.drop_sublist
abbrev ad7:=@Nat.lt_pow_two_of_testBit
abbrev ad8:=@Array.mapM_eq_mapM_toList
abbrev ad9:=@List.mem_flatMap
abbrev aea:=@Nat.sub_self
abbrev aeb:=@Int.lt_or_le
abbrev aec:=@Nat.mod_self
abbrev aed:=@Int.mul_emod
abbrev aee:=@Nat.lt_succ_self
abbrev aef:=@Array.getElem?_replicate
abbrev aeg:=@Nat.min_le_right
abbrev aeh:=@Nat.min_self
abbrev aei:=@Nat.add_sub_cancel_left
abbrev aej:=@Int.le_refl
abbrev aek:=@Int.mul_neg
abbrev ael:=@List.drop_of_length_le
abbrev aem:=@List.length_singleton
abbrev aen:=@Array.getElem_push_eq
abbrev aeo:=@List.singleton_append
abbrev aep:=@List.take_take
abbrev aeq:=@Nat.mul_le_mul
abbrev aer:=@List.mem_of_mem_drop
abbrev aes:=@List.range_eq_range'
abbrev aet:=@Bool.and_self
abbrev aeu:=@List.drop_set
abbrev aev:=@List.length_pos_iff
abbrev aew:=@Array.toList_append
abbrev aex:=@List.toList_toArray
abbrev aey:=@List.filter_sublist
abbrev aez:=@Nat.add_sub_cancel'
abbrev aeA:=@Option.isNone_none
abbrev aeB:=@Int.mul_zero
abbrev aeC:=@Bool.not_not
abbrev aeD:=@List.map_map
abbrev aeE:=@Option.isSome_none
abbrev aeF:=@Nat.mod_eq_sub_mod
abbrev aeG:=@Int.emod_lt_of_pos
abbrev aeH:=@Int.neg_mul
abbrev aeI:=@Nat.sub_mul
abbrev aeJ:=@Sem.run_ite
abbrev aeK(b o:Nat):Value:=.pointer (some ⟨b,o,none⟩)
abbrev aeL(b o n c:Nat):Value:=.slice (some ⟨b,o,none⟩) n c
abbrev aeM:=Value
abbrev aeN:=List Value
abbrev aeQ:Value:=.slice none 0 0
abbrev aeR:Value:=.bool true
abbrev aeS:Value:=.bool false
abbrev aeP:=Value.int .i64
end Go
namespace Go.D
open Go
section
inductive Tr (α:Type) where
 |e
 |n (v:Option α) (l r:Tr α)
 deriving Inhabited
def Tr.get{α:Type}(t:Tr α):Nat->Option α:=
 Tr.rec (motive:=λ_=>Nat->Option α) (λ_=>none)
  (λv _ _ H gr i=>bif Nat.beq i 0 then v else bif Nat.beq ((i-1)%2) 0 then H ((i-1)/2)else gr ((i-1)/2)) t
theorem Tr.yV{α:Type}(i:Nat):(Tr.e:Tr α).get i=none:=rfl
theorem Tr.pG{α:Type}(v:Option α)(l r:Tr α):(Tr.n v l r).get 0=v:=rfl
theorem Tr.jJ{α:Type}(v:Option α)(l r:Tr α)(i:Nat):(Tr.n v l r).get (i+1)=bif Nat.beq (i%2) 0 then l.get (i/2)else r.get (i/2):=rfl
def Tr.single{α:Type}(x:α):Nat->Nat->Tr α
 |0,_=> .n (some x) .e .e
 |_+1,0=> .n (some x) .e .e
 |f+1,i+1=>bif Nat.beq (i%2) 0 then .n none (single x f (i/2)) .e else .n none .e (single x f (i/2))
def Tr.set{α:Type}(t:Tr α):Nat->α->Tr α:=
 Tr.rec (motive:=λ_=>Nat->α->Tr α) (λi x=>Tr.single x i i)
  (λv l r sl H i x=>bif Nat.beq i 0 then .n (some x) l r else bif Nat.beq ((i-1)%2) 0 then .n v (sl ((i-1)/2) x) r else .n v l (H ((i-1)/2) x)) t
theorem Tr.Nf{α:Type}(i:Nat)(x:α):(Tr.e:Tr α).set i x=Tr.single x i i:=rfl
theorem Tr.yf{α:Type}(v:Option α)(l r:Tr α)(x:α):(Tr.n v l r).set 0 x=.n (some x) l r:=rfl
theorem Tr.yg{α:Type}(v:Option α)(l r:Tr α)(i:Nat)(x:α):(Tr.n v l r).set (i+1) x=bif Nat.beq (i%2) 0 then .n v (l.set (i/2) x) r else .n v l (r.set (i/2) x):=rfl
structure Fd where
 ty:Nat
 off:Nat
 size:Nat
 blank:Bool
inductive Kd where
 |b |i |s
inductive TD where
 |bool
 |int (k:IntKind)
 |str
 |ptr (e:Nat)
 |slice (e:Nat)
 |array (n e:Nat)
 |map (k e:Nat)
 |struct (fs:List Fd)
 |func
 |iface (empty:Bool)
 |other
structure TI where
 d:TD
 size:Nat
 bytes:Nat
 es:Nat
 zero:Option aeM
 cmp:Option (List Kd)
structure Tf where
 fn:Func
 pre:List Code
 id:Nat
 mf:Oper
 de:Oper
 post:Code
structure SA where
 fn:Func
 id:Nat
 ops:Array Oper
 rest:Code
def mq:List Code->Code->Code
 |[],c=>c
 |a::as,c=> .seq a (mq as c)
structure Env where
 ty:Tr TI
 fn:Tr Func
 G:Nat
 df:Tr Tf
 cl:Tr SA
def TD.agg:TD->Bool
 |.struct _ |.array _ _=>true
 |_=>false
def ij(P:Program):TypeDesc->TD
 |.bool=> .bool
 |.int k=> .int k
 |.string=> .str
 |.pointer e=> .ptr e
 |.slice e=> .slice e
 |.array n e=> .array n e
 |.map k e=> .map k e
 |.struct H=> .struct (H.toList.map λf=>⟨f.type,f.offset,((P.info? f.type).map (·.size)).getD 0,f.name== "_" ||(P.info? f.type).isNone⟩)
 |.func _ _ _=> .func
 |.interface ms=> .iface ms.isEmpty
 |_=> .other
def kinds(g:TypeId->Option (List Kd)):List Field->Nat->Option (List Kd)
 |[],_=>some []
 |f::fs,off=>if f.name= "_" then none else if f.offset=off then
   match g f.type with
   |some H=>match kinds g fs (off+H.length)with
    |some r=>some (H++r)
    |none=>none
   |none=>none
  else none
def nX(H:List Kd):Nat->List Kd
 |0=> []
 |n+1=>H++nX H n
def sized(P:Program)(t:TypeId)(r:Option (List Kd)):Option (List Kd):=
 match r,P.info? t with
 |some H,some i=>if H.length=i.size then some H else none
 |_,_=>none
def lI(P:Program):Nat->TypeId->Option (List Kd)
 |0,_=>none
 |d+1,t=>sized P t (match P.underlying t with
  |some .bool=>some [.b]
  |some (.int _)=>some [.i]
  |some .string=>some [.s]
  |some (.struct fs)=>if P.stoodInHeld t then none else kinds (lI P d) fs.toList 0
  |some (.array n e)=>match lI P d e with
   |some H=>if n*H.length<=64 then some (nX H n)else none
   |none=>none
  |_=>none)
def zg(P:Program):TypeDesc->Nat
 |.slice e |.array _ e=>((P.info? e).map (·.size)).getD 0
 |_=>0
def IC(P:Program)(t:TypeId):TypeDesc->Option (List Kd)
 |.struct _ |.array _ _=>if P.eqGuardType P.depth t then none else lI P 12 t
 |_=>none
def Ua(P:Program)(t:TypeId):Option TI:=do
 let i<-P.info? t
 let u<-P.underlying t
 some {d:=ij P u,size:=i.size,bytes:=i.bytes,es:=zg P u,zero:=i.zero,cmp:=IC P t u}
inductive Ex where
 |normal
 |exit (id:Nat)
 |ret
 deriving DecidableEq,Inhabited
structure zI where
 T:Tr aeM
 ps:Array Tmp
 assign:Code
 body:Code
 st:LoopState
 sY:Option Ex
 G:Nat
 deriving Inhabited
inductive Ob where
 |dead
 |cells (c:aeN) (e:TypeId) (g:Option Nat)
 |map (es:List MapEntry) (clock:Nat)
 |loop (r:zI)
 |ro (c:aeN)
 deriving Inhabited
structure M where
 st:Tr Ob
 n:Nat
 low:Nat
 deriving Inhabited
def M.get(m:M)(b:Nat):Ob:=bif Nat.blt b m.n then(m.st.get b).getD .dead else .dead
def M.push(m:M)(o:Ob):M:={m with st:=m.st.set m.n o,n:=m.n+1}
def M.set(m:M)(b:Nat)(o:Ob):M:={m with st:=m.st.set b o,low:=min m.low b}
def bF:aeM->Bool
 |.bool _ |.int _ _ |.float _ _ |.complex _ _ _ |.string _ |.nilFunc |.nilIface |.pointer none |.map none |.chan none |.slice none 0 0=>true
 |.func (.func _) a b=>a.toList.isEmpty && b.toList.isEmpty
 |.iface _ (.agg cs)=>cs.toList.isEmpty
 |_=>false
def dG:aeM->Bool
 |.agg cs=>cs.toList.all bF
 |v=>bF v
def bB:aeM->Bool
 |.tuple H=>H.toList.all dG
 |v=>dG v
def Tr.sC{α:Type}:Tr α->Nat->Nat->List (Nat×α)
 |.e,_,_=> []
 |.n v l r,a,b=>(match v with |some x=> [(b,x)] |none=> [])++(l.sC (2*a) (a+b)++r.sC (2*a) (2*a+b))
def rQ(n G:Nat):Operand->Bool
 |.tmp t=>Nat.blt t n
 |.const v=>dG v
 |.global g=>Nat.blt g G
 |.func _=>true
def ic(n G:Nat)(o:Oper):Bool:=o.op.operands.toList.all (rQ n G) && (match o.dst with |some d=>Nat.blt d n |none=>true)
def jv(ops:Array Oper)(o:Oper):List Tmp:=
 o.dst.toList++(o.op.operands.toList.filterMap (λ|.tmp t=>some t |_=>none)++(match o.guard with |some (j,_)=>((ops[j]?).bind (·.dst)).toList |none=> []))
def Cb(ops:Array Oper):Bool:=
 let b:=Region.before ops
 (ops.toList.zipIdx.all λ(o,j)=>o.after.toList.all (λe=> !Region.binds .any e ||Nat.blt e.on j) &&
  ops.toList.zipIdx.all λ(H,i)=> !(Nat.blt i j) ||(b.getD j 0).testBit i ||
   ((match o.dst with |some d=> !(jv ops H).contains d |none=>true) && (match H.dst with |some d=> !(jv ops o).contains d |none=>true)))
def my:Code->Bool
 |.seq a b=>my a && my b
 |.cond _ x y=>my x && my y
 |.block _ c |.loop c |.scope c=>my c
 |.rangeFunc ..=>false
 |_=>true
def dz(n G:Nat):Code->Bool
 |.region _ ops d=>ops.toList.all (ic n G) && (!d ||Cb ops)
 |.seq a b=>dz n G a && dz n G b
 |.cond c x y=>rQ n G c && (dz n G x && dz n G y)
 |.block _ c |.loop c |.scope c=>dz n G c
 |.rangeFunc f ps a b=>rQ n G f && (ps.toList.all (Nat.blt · n) && (dz n G a && dz n G b))
 |_=>true
def mw(G:Nat)(fn:Func):Bool:=
 (match fn.body with |some c=>dz fn.ntmps G c |none=>true) && (fn.name != "runtime.NumGoroutine" &&
 fn.results.toList.all λ|.tmp t=>Nat.blt t fn.ntmps |.cell a _=>Nat.blt a fn.ntmps)
def Env.Fe(E:Env):Bool:=
 ((E.ty.sC 1 0).all λp=>(match p.2.zero with |some z=>bB z |none=>true) &&
  (match p.2.d with |.struct H=>H.all (λf=>match E.ty.get f.ty with |some fi=>fi.size==f.size |none=>false) |_=>true)) &&
 ((E.fn.sC 1 0).all (λp=>mw E.G p.2) && ((E.df.sC 1 0).all (λp=>mw E.G p.2.fn) && (E.cl.sC 1 0).all λp=>mw E.G p.2.fn))
def Dw:Nat:=312
structure Env.OK(E:Env)(P:Program):Prop where
 st:E.fn.get Dw=none/\E.df.get Dw=none
 ty:∀t ti,E.ty.get t=some ti->Ua P t=some ti
 fn:∀f fn,E.fn.get f=some fn->P.funcs[f]?=some fn
 G:E.G=P.globals.size
 df:∀f d,E.df.get f=some d->P.funcs[f]?=some d.fn/\d.fn.body=some (mq d.pre (.seq (.region d.id #[d.mf,d.de] false) d.post))
 cl:∀f d,E.cl.get f=some d->P.funcs[f]?=some d.fn/\d.fn.body=some (.seq (.region d.id d.ops false) d.rest)
 Fe:E.Fe=true
 mixed:P.follows .mixedOrders=true
def one:aeM->Bool
 |.agg _ |.tuple _=>false
 |_=>true
def cells:aeM->aeN
 |.agg cs=>cs.toList
 |v=> [v]
noncomputable section
variable (E:Env)
def iZ(t:TypeId):Option aeM:=(E.ty.get t).bind (·.zero)
def cellAt(m:M)(a:Addr):Option aeM:=
 match m.get a.block with
 |.cells c _ _=>if a.spot.isNone then c[a.off]? else none
 |.ro c=>if a.spot.isNone then(match c[a.off]? with |some v=>bif one v then some v else none |none=>none)else none
 |_=>none
def loadCells(m:M)(a:Addr)(n:Nat):Option (aeN):=
 match m.get a.block with
 |.cells c _ _=>bif a.spot.isNone && Nat.ble (a.off+n) c.length then some ((c.drop a.off).take n)else none
 |.ro c=>bif a.spot.isNone && Nat.ble (a.off+n) c.length && ((c.drop a.off).take n).all one then some ((c.drop a.off).take n)else none
 |_=>none
def storeCells(m:M)(a:Addr)(vs:aeN):Option M:=
 match m.get a.block with
 |.cells c e g=>
  bif a.spot.isNone && Nat.ble (a.off+vs.length) c.length && vs.all one then
   some (m.set a.block (.cells (c.take a.off++(vs++c.drop (a.off+vs.length))) e g))
  else none
 |_=>none
def loadVar(m:M)(t:TypeId)(a:Addr):Option aeM:=
 match E.ty.get t with
 |some H=>bif H.d.agg then(loadCells m a H.size).map (λcs=> .agg cs.toArray)else cellAt m a
 |none=>none
def storeVar(m:M)(t:TypeId)(a:Addr)(v:aeM):Option M:=
 match E.ty.get t with
 |some H=>bif Nat.beq (cells v).length H.size then storeCells m a (cells v)else none
 |none=>none
def newVar(m:M)(t:TypeId)(v:aeM):aeM×M:=(.pointer (some ⟨m.n,0,none⟩),m.push (.cells (cells v) t none))
def part(t:TypeId)(cs:aeN)(off:Nat):Option aeM:=
 match E.ty.get t with
 |some H=>bif H.d.agg then(bif Nat.ble (off+H.size) cs.length then some (.agg ((cs.drop off).take H.size).toArray)else none)else cs[off]?
 |none=>none
def It:Kd->aeM->aeM->Option Bool
 |.b,.bool a,.bool b=>some (a==b)
 |.i,.int k a,.int H b=>if k=H then some (a==b)else none
 |.s,.string a,.string b=>some (a==b)
 |_,_,_=>none
def cm:List Kd->aeN->aeN->Option Bool
 |[],[],[]=>some true
 |k::H,a::x,b::y=>
  match It k a b,cm H x y with
  |some c,some r=>some (c && r)
  |_,_=>none
 |_,_,_=>none
def eq?(t:TypeId)(x y:aeM):Option Bool:=
 match E.ty.get t with
 |none=>none
 |some H=>
  match H.d,x,y with
  |.bool,.bool a,.bool b=>some (a==b)
  |.int _,.int k a,.int k' b=>if k=k' then some (a==b)else none
  |.str,.string a,.string b=>some (a==b)
  |.struct _,.agg xs,.agg ys=>match H.cmp with |some ks=>cm ks xs.toList ys.toList |none=>none
  |.array _ _,.agg xs,.agg ys=>match H.cmp with |some ks=>cm ks xs.toList ys.toList |none=>none
  |.slice _,.slice none _ _,.slice b _ _=>some b.isNone
  |.slice _,.slice (some _) _ _,.slice none _ _=>some false
  |.map _ _,.map none,.map b=>some b.isNone
  |.map _ _,.map (some _),.map none=>some false
  |.func,.nilFunc,.nilFunc=>some true
  |.func,.nilFunc,.func _ _ _=>some false
  |.func,.func _ _ _,.nilFunc=>some false
  |.ptr _,.pointer none,.pointer b=>some b.isNone
  |.ptr _,.pointer (some _),.pointer none=>some false
  |.iface true,.nilIface,.nilIface=>some true
  |_,_,_=>none
def iR(op:BinOp)(k:IntKind)(a b:Int):Option aeM:=
 match op with
 |.add=>some (.int k (k.wrap (a+b)))
 |.sub=>some (.int k (k.wrap (a-b)))
 |.mul=>some (.int k (k.wrap (a*b)))
 |.quo=>if b=0 then none else some (.int k (k.wrap (a.tdiv b)))
 |.rem=>if b=0 then none else some (.int k (a.tmod b))
 |.and=>some (.int k (k.wrap (BitVec.ofInt k.bits a &&& BitVec.ofInt k.bits b).toNat))
 |.or=>some (.int k (k.wrap (BitVec.ofInt k.bits a |||BitVec.ofInt k.bits b).toNat))
 |.xor=>some (.int k (k.wrap (BitVec.ofInt k.bits a ^^^ BitVec.ofInt k.bits b).toNat))
 |.andNot=>some (.int k (k.wrap (BitVec.ofInt k.bits a &&& ~~~(BitVec.ofInt k.bits b)).toNat))
 |.eql=>some (.bool (a==b))
 |.neq=>some (.bool (a !=b))
 |.lss=>some (.bool (a < b))
 |.leq=>some (.bool (a<=b))
 |.gtr=>some (.bool (a >b))
 |.geq=>some (.bool (a>=b))
 |_=>none
def GU(op:BinOp)(a b:ByteArray):Option aeM:=
 match op with
 |.add=>if((a.size+b.size:Nat):Int) >IntKind.i64.max then none else some (.string (a++b))
 |.eql=>some (.bool (a.toList==b.toList))
 |.neq=>some (.bool !(a.toList==b.toList))
 |.lss=>some (.bool (Op.bytesLess a.toList b.toList))
 |_=>none
def az(op:BinOp)(t:TypeId)(x y:aeM):Option aeM:=
 match op,x,y with
 |.shl,.int k a,.int _ b=>if b < 0 then none else some (.int k (k.wrap (a*2 ^ (min b.toNat k.bits))))
 |.shr,.int k a,.int _ b=>if b < 0 then none else some (.int k (a.fdiv (2 ^ (min b.toNat k.bits))))
 |op,.int k a,.int H b=>if k=H then iR op k a b else none
 |op,.string a,.string b=>GU op a b
 |.eql,x,y=>(eq? E t x y).map .bool
 |.neq,x,y=>(eq? E t x y).map (λb=> .bool !b)
 |_,_,_=>none
def cZ(op:UnOp)(x:aeM):Option aeM:=
 match op,x with
 |.neg,.int k n=>some (.int k (k.wrap (0-n)))
 |.not,.bool b=>some (.bool !b)
 |_,_=>none
def PL(src dst:TypeId)(x:aeM):Option aeM:=
 match E.ty.get src,E.ty.get dst,x with
 |some _,some H,.int _ n=>match H.d with |.int k=>some (.int k (k.wrap n)) |_=>none
 |some _,some H,.string s=>match H.d with |.str=>some (.string s) |_=>none
 |_,_,_=>none
def fill(place:Nat->Option (Nat×Nat))(cs:aeN):List (Nat×aeM)->Option (aeN)
 |[]=>some cs
 |(i,v)::rest=>
  match place i with
  |none=>none
  |some (off,size)=>
   bif Nat.beq (cells v).length size && Nat.ble (off+size) cs.length then fill place (cs.take off++(cells v++cs.drop (off+size))) rest else none
def aJ(t:TypeId)(parts:List (Nat×aeM)):Option aeM:=
 match E.ty.get t with
 |none=>none
 |some H=>
  match H.zero,H.d with
  |some z,.struct fs=>(fill (λi=>(fs[i]?).map λf=>(f.off,f.size)) (cells z) parts).map λcs=> .agg cs.toArray
  |some z,.array _ _=>bif Nat.beq H.es 0 then none else(fill (λi=>some (i*H.es,H.es)) (cells z) parts).map λcs=> .agg cs.toArray
  |_,_=>none
def iA(z:aeN):Nat->aeN
 |0=> []
 |n+1=>z++iA z n
def aG(m:M)(t:TypeId)(len:Nat)(parts:List (Nat×aeM)):Option (aeM×M):=
 match E.ty.get t with
 |none=>none
 |some H=>
  match H.d with
  |.slice e=>
   match iZ E e with
   |none=>none
   |some z=>
    bif Nat.beq (cells z).length H.es && Nat.ble (len*H.es) 1048576 then
     (fill (λi=>some (i*H.es,H.es)) (iA (cells z) len) parts).map λcs=>(.slice (some ⟨m.n,0,none⟩) len len,m.push (.cells cs e none))
    else none
  |_=>none
def fj(m:M)(t:TypeId)(l c:aeM):Option (aeM×M):=
 match E.ty.get t with
 |none=>none
 |some ti=>
  match ti.d,l,c with
  |.slice e,.int _ l,.int _ c=>
   match E.ty.get e with
   |none=>none
   |some H=>
    match H.zero with
    |none=>none
    |some z=>
     if 0<=l/\l<=c/\c<=1048576/\H.bytes<=65536/\(cells z).length=H.size then
      some (.slice (some ⟨m.n,0,none⟩) l.toNat c.toNat,m.push (.cells (iA (cells z) c.toNat) e none))
     else none
  |_,_,_=>none
def af(s:TypeId)(x:aeM)(i:Nat):Option aeM:=
 match E.ty.get s,x with
 |some H,.pointer (some a)=>
  match H.d with
  |.struct fs=>match fs[i]? with
   |some f=>bif Nat.beq f.size 0 then none else some (.pointer (some (a.add f.off)))
   |none=>none
  |_=>none
 |_,_=>none
def CB(t:TypeId)(x:aeM)(i:Nat):Option aeM:=
 match E.ty.get t,x with
 |some H,.agg cs=>
  match H.d with
  |.struct fs=>match fs[i]? with
   |some f=>part E f.ty cs.toList f.off
   |none=>none
  |_=>none
 |_,_=>none
def an(t:TypeId)(x ix:aeM):Option aeM:=
 match E.ty.get t with
 |none=>none
 |some H=>
  match H.d,x,ix with
  |.slice _,.slice (some a) n _,.int _ i=>if 0<=i/\i < n/\0 < H.es then some (.pointer (some (a.add (i.toNat*H.es))))else none
  |.array n _,.pointer (some a),.int _ i=>if 0<=i/\i < n/\0 < H.es then some (.pointer (some (a.add (i.toNat*H.es))))else none
  |_,_,_=>none
def index?(t:TypeId)(x ix:aeM):Option aeM:=
 match E.ty.get t with
 |none=>none
 |some H=>
  match H.d,x,ix with
  |.array n e,.agg cs,.int _ i=>if 0<=i/\i < n then part E e cs.toList (i.toNat*H.es)else none
  |.str,.string s,.int _ i=>if 0<=i then(s[i.toNat]?).map (λb=> .int .u8 b.toNat)else none
  |_,_,_=>none
def sq(x:aeM)(y:Nat):Option Nat:=
 match x with
 |.int _ i=>if 0<=i/\i<=y then some i.toNat else none
 |_=>none
def fO(len cap:Nat)(lo hi H:Option aeM):Option (Nat×Nat×Nat):=
 match(match H with |some v=>sq v cap |none=>some cap)with
 |none=>none
 |some m=>
  match(match hi,H with |some v,_=>sq v m |none,none=>some len |none,some _=>none)with
  |none=>none
  |some h=>
   match(match lo with |some v=>sq v h |none=>some 0)with
   |none=>none
   |some l=>some (l,h,m)
def oY(m:M)(a:Addr):Bool:=match m.get a.block with |.cells _ _ none=>false |_=>true
def slice?(m:M)(t:TypeId)(x:aeM)(lo hi mx:Option aeM):Option aeM:=
 match E.ty.get t with
 |none=>none
 |some H=>
  match H.d,x with
  |.str,.string s=>
   match mx,fO s.size s.size lo hi none with
   |none,some (l,h,_)=>some (.string (s.extract l h))
   |_,_=>none
  |.slice _,.slice none 0 0=>
   match fO 0 0 lo hi mx with
   |some _=>bif Nat.beq H.es 0 then none else some (.slice none 0 0)
   |none=>none
  |.slice _,.slice (some a) n c=>
   match fO n c lo hi mx,m.get a.block with
   |some (l,h,k),.cells cs _ g=>
    bif Nat.beq H.es 0 || !(Nat.ble n c)then none
    else match g with
     |none=>some (.slice (some (bif Nat.beq k l then a else a.add (l*H.es))) (h-l) (k-l))
     |some k0=>
      bif Nat.beq k0 H.es then
       some (.slice (some (bif Nat.beq k l && !(mx.isNone && Nat.beq (a.off+c*H.es) cs.length)then a else a.add (l*H.es))) (h-l) (k-l))
      else none
   |some (l,h,k),.ro _=>
    bif Nat.beq H.es 0 || !(Nat.ble n c)then none else some (.slice (some (bif Nat.beq k l then a else a.add (l*H.es))) (h-l) (k-l))
   |_,_=>none
  |.array n _,.pointer (some a)=>
   match fO n n lo hi mx with
   |some (l,h,k)=>bif oY m a ||Nat.beq H.es 0 then none else some (.slice (some (bif Nat.beq k l then a else a.add (l*H.es))) (h-l) (k-l))
   |none=>none
  |_,_=>none
def oL(m:M)(t:TypeId)(x:aeM):Option aeM:=
 match E.ty.get t with
 |none=>none
 |some H=>
  match H.d,x with
  |.str,.string s=>some (.int .i64 s.size)
  |.array n _,_=>some (.int .i64 n)
  |.slice _,.slice _ n _=>some (.int .i64 n)
  |.map _ _,.map none=>some (.int .i64 0)
  |.map _ _,.map (some r)=>match m.get r with |.map es _=>some (.int .i64 es.length) |_=>none
  |_,_=>none
def Ew(f:Int->Int->Int)(k:IntKind)(x:Int):aeN->Option aeM
 |[]=>some (.int k x)
 |.int _ y::rest=>Ew f k (f x y) rest
 |_=>none
def dw(f:Int->Int->Int):aeN->Option aeM
 |.int k x::rest=>Ew f k x rest
 |_=>none
def first?(m:M)(s n:Nat)(x:aeM):Option (aeN):=
 match x with
 |.slice (some a) _ _=>bif Nat.beq n 0 then some []else loadCells m a (n*s)
 |.slice none _ _=>some []
 |.string b=>some ((b.extract 0 n).data.toList.map λb=> .int .u8 b.toNat)
 |_=>none
def lY:aeM->Option Nat
 |.slice _ n _=>some n
 |.string s=>some s.size
 |_=>none
def lZ(m:M)(e k:Nat)(base:Option Addr)(sl sc H:Nat)(news:aeN):Option (aeM×M):=
 match base with
 |none=>bif Nat.beq sl 0 && Nat.beq sc 0 then some (.slice (some ⟨m.n,0,none⟩) H H,m.push (.cells news e (some k)))else none
 |some a=>
  match m.get a.block,(bif Nat.beq sl 0 then some []else loadCells m a (sl*k))with
  |.cells c te g,some fR=>
   bif g.isNone ||(g==some k && Nat.blt (a.off+sc*k) c.length)then
    some (.slice (some ⟨m.n,0,none⟩) H H,m.push (.cells (fR++news) e (some k)))
   else bif g==some k && Nat.beq a.off 0 && a.spot.isNone && Nat.beq (sl*k) c.length && Nat.beq sc sl && Nat.beq te e then
    some (.slice (some ⟨m.n,0,none⟩) H H,(m.set a.block .dead).push (.cells (fR++news) e (some k)))
   else none
  |_,_=>none
def gV(o:Option aeM)(n:Nat):Bool:=match o with |some z=>Nat.beq (cells z).length n |none=>false
def eA(m:M)(t u:TypeId)(s x:aeM):Option (aeM×M):=
 match E.ty.get t,E.ty.get u,s,lY x with
 |some H,some ui,.slice base sl sc,some n=>
  match H.d,ui.d with
  |_,.int _=>none
  |.slice e,_=>
   match E.ty.get e,first? m H.es n x with
   |some ei,some news=>
    bif Nat.beq H.es 0 ||Nat.blt 65536 ei.bytes || !news.all one ||Nat.blt 268435456 (sl+n) || !Nat.beq news.length (n*H.es) || !gV ei.zero H.es then none
    else bif Nat.ble (sl+n) sc then
     match base with
     |some a=>(bif Nat.beq n 0 then some m else storeCells m (a.add (sl*H.es)) news).map λm=>(.slice (some a) (sl+n) sc,m)
     |none=>bif Nat.beq n 0 then some (.slice none sl sc,m)else none
    else lZ m e H.es base sl sc (sl+n) news
   |_,_=>none
  |_,_=>none
 |_,_,_,_=>none
def zn(m:M)(t:TypeId)(d x:aeM):Option (aeM×M):=
 match E.ty.get t,d,lY x with
 |some H,.slice base dl _,some xl=>
  match H.d,first? m H.es (min xl dl) x with
  |.slice _,some cs=>
   bif Nat.beq H.es 0 then none else
   match base with
   |some a=>(bif Nat.beq (min xl dl) 0 then some m else storeCells m a cs).map λm=>(.int .i64 (min xl dl:Nat),m)
   |none=>some (.int .i64 (min xl dl:Nat),m)
  |_,_=>none
 |_,_,_=>none
def rZ(m:M)(t:TypeId)(x:aeM):Option (aeM×M):=
 match E.ty.get t,x with
 |some _,.slice none _ _=>some (.tuple #[],m)
 |some H,.slice (some a) n _=>
  bif Nat.beq n 0 then some (.tuple #[],m)else
  match H.d with
  |.slice e=>match iZ E e with
   |some z=>(storeCells m a (iA (cells z) n)).map λm=>(.tuple #[],m)
   |none=>none
  |_=>none
 |_,_=>none
def scalar(t:TypeId):Bool:=match E.ty.get t with |some H=>(match H.d with |.bool |.int _ |.str=>true |_=>false) |none=>false
def keyed(kt:TypeId)(k:aeM):Bool:=
 match E.ty.get kt with
 |some H=>match H.d,k with
  |.bool,.bool _ |.int _,.int _ _ |.str,.string _=>true
  |.struct fs,.agg cs=>H.cmp.isSome && cs.toList.all bF && fs.all (λf=> !f.blank && Nat.blt f.off cs.toList.length && scalar E f.ty)
  |_,_=>false
 |none=>false
def findKey(H:TypeId)(k:aeM):List MapEntry->Nat->Option (Option (Nat×aeM))
 |[],_=>some none
 |e::es,i=>
  match eq? E H k e.key with
  |some true=>some (some (i,e.val))
  |some false=>findKey H k es (i+1)
  |none=>none
def qA(m:M)(t:TypeId)(x k:aeM)(ok:Bool):Option aeM:=
 match E.ty.get t with
 |none=>none
 |some ti=>
  match ti.d with
  |.map H et=>
   match(match x with |.map none=>some [] |.map (some r)=>(match m.get r with |.map es _=>some es |_=>none) |_=>none)with
   |none=>none
   |some es=>
    bif keyed E H k then
     match findKey E H k es 0 with
     |some (some (_,v))=>some (bif ok then .tuple #[v,.bool true]else v)
     |some none=>(iZ E et).map λz=>bif ok then .tuple #[z,.bool false]else z
     |none=>none
    else none
  |_=>none
def eM(m:M)(t:TypeId)(x k v:aeM):Option M:=
 match E.ty.get t,x with
 |some ti,.map (some r)=>
  match ti.d,m.get r with
  |.map H _,.map es clock=>
   bif keyed E H k then
    match findKey E H k es 0 with
    |some (some (i,_))=>some (m.set r (.map (es.modify i λe=>{e with key:=k,val:=v}) clock))
    |some none=>some (m.set r (.map (es++ [{key:=k,val:=v,born:=clock}]) (clock+1)))
    |none=>none
   else none
  |_,_=>none
 |_,_=>none
def gD(m:M)(t:TypeId)(x k:aeM):Option (aeM×M):=
 match E.ty.get t,x with
 |some ti,.map (some r)=>
  match ti.d,m.get r with
  |.map H et,.map es clock=>
   bif keyed E H k then
    match findKey E H k es 0 with
    |some (some (i,v))=>some (.tuple #[v,.int .i64 (((es[i]?).map (·.born)).getD 0)],m.set r (.map (es.modify i λe=>{e with key:=k}) clock))
    |some none=>(iZ E et).map λz=>(.tuple #[z,.int .i64 clock],m.set r (.map (es++ [{key:=k,val:=z,born:=clock}]) (clock+1)))
    |none=>none
   else none
  |_,_=>none
 |_,_=>none
def qm(b:Int):List MapEntry->Nat->Option Nat
 |[],_=>none
 |e::es,i=>bif decide ((e.born:Int)=b)then some i else qm b es (i+1)
def dY(m:M)(x s v:aeM):Option M:=
 match x,s with
 |.map (some r),.int _ b=>
  match m.get r with
  |.map es clock=>match qm b es 0 with
   |some i=>some (m.set r (.map (es.modify i λe=>{e with val:=v}) clock))
   |none=>none
  |_=>none
 |_,_=>none
def bytesOf:aeN->Option (List Int)
 |[]=>some []
 |.int .u8 n::r=>match bytesOf r with |some H=>some (n::H) |none=>none
 |_=>none
def GB(m:M)(src dst:TypeId)(x:aeM):Option aeM:=
 match E.ty.get src,E.ty.get dst with
 |some H,some tj=>
  match H.d,tj.d,x with
  |.slice e,.str,.slice b n _=>
   match E.ty.get e with
   |some te=>match te.d,b with
    |.int .u8,none=>some (.string .empty)
    |.int .u8,some a=>bif Nat.beq n 0 then none else match loadCells m a n with
     |some cs=>match bytesOf cs with
      |some ns=>some (.string (ns.foldl (λr n=>r.push (UInt8.ofNat n.toNat)) ByteArray.empty))
      |none=>none
     |none=>none
    |_,_=>none
   |none=>none
  |_,_,_=>none
 |_,_=>none
def Qp(m:M)(s d:TypeId)(x:aeM):Option aeM:=match PL E s d x with |some v=>some v |none=>GB E m s d x
end
end
section
structure Fr where
 T:Tr aeM
 m:M
 deriving Inhabited
def iT(T:Tr aeM)(t:Nat):aeM:=(T.get t).getD undef
def ev(T:Tr aeM):Operand->aeM
 |.tmp t=>iT T t
 |.const v=>v
 |.global g=> .pointer (some ⟨g,0,none⟩)
 |.func f=> .func (.func f) #[] #[]
abbrev aK:=Fn->aeN->M->Option (aeM×M)
noncomputable section
variable (E:Env)
def aw(m:M)(b:Builtin)(ts:List TypeId)(args:aeN):Option (aeM×M):=
 match b,ts,args with
 |.append,[t,u],[s,x]=>eA E m t u s x
 |.copy,t::_,[d,x]=>zn E m t d x
 |.clear,[t],[x]=>rZ E m t x
 |.len,[t],[x]=>(oL E m t x).map (·,m)
 |.min,_,xs=>(dw (λx y=>if y < x then y else x) xs).map (·,m)
 |.max,_,xs=>(dw (λx y=>if y >x then y else x) xs).map (·,m)
 |.cap,[t],[x]=>match E.ty.get t with
  |some H=>match H.d,x with
   |.slice _,.slice (some a) _ c=>bif oY m a then none else some (.int .i64 c,m)
   |.slice _,.slice none _ c=>some (.int .i64 c,m)
   |_,_=>none
  |none=>none
 |_,_,_=>none
end
abbrev iY:=Env->aK->Tr aeM->M->Option (aeM×M)
def BY(x:Operand):iY:=λ_ _ T m=>some (ev T x,m)
def rN(c a b:Operand):iY:=λ_ _ T m=>match ev T c with |.bool t=>some (bif t then ev T a else ev T b,m) |_=>none
def tz(t:TypeId):iY:=λE _ _ m=>match iZ E t with |some z=>some (newVar m t z) |none=>none
def NK(t:TypeId)(x:Operand):iY:=λ_ _ T m=>some (newVar m t (ev T x))
def tx(t:TypeId)(ps:Array (Nat×Operand)):iY:=λE _ T m=>match aJ E t (ps.toList.map λp=>(p.1,ev T p.2))with |some v=>some (v,m) |none=>none
def nJ(t:TypeId)(n:Nat)(ps:Array (Nat×Operand)):iY:=λE _ T m=>aG E m t n (ps.toList.map λp=>(p.1,ev T p.2))
def yD(t:TypeId)(a:Operand):iY:=λE _ T m=>match ev T a with
 |.pointer (some a)=>(match loadVar E m t a with |some v=>some (v,m) |none=>none)
 |_=>none
def nH(t:TypeId)(a x:Operand):iY:=λE _ T m=>match ev T a with
 |.pointer (some a)=>(match storeVar E m t a (ev T x)with |some m=>some (undef,m) |none=>none)
 |_=>none
def hZ(x:Operand):iY:=λ_ _ T m=>match ev T x with |.pointer (some a)=>some (.pointer (some a),m) |.func (.func f) a b=>some (.func (.func f) a b,m) |_=>none
def DP(op:BinOp)(t:TypeId)(x y:Operand):iY:=λE _ T m=>match az E op t (ev T x) (ev T y)with |some v=>some (v,m) |none=>none
def NJ(op:UnOp)(x:Operand):iY:=λ_ _ T m=>match cZ op (ev T x)with |some v=>some (v,m) |none=>none
def FQ(s d:TypeId)(x:Operand):iY:=λE _ T m=>match Qp E m s d (ev T x)with |some v=>some (v,m) |none=>none
def jg(f:Fn)(a b:Array Operand):iY:=λ_ _ T m=>match f with
 |.func _=>some (.func f (a.toList.map (ev T)).toArray (b.toList.map (ev T)).toArray,m)
 |_=>none
def qu(r:Option Operand):iY:=λ_ _ _ m=>match r with |none=>some (.map (some m.n),m.push (.map [] 0)) |some _=>none
def vY(t:TypeId)(l c:Operand):iY:=λE _ T m=>fj E m t (ev T l) (ev T c)
def BX(t:TypeId)(x:Operand)(lo hi H:Option Operand):iY:=λE _ T m=>match slice? E m t (ev T x) (lo.map (ev T)) (hi.map (ev T)) (H.map (ev T))with |some v=>some (v,m) |none=>none
def jE(s:TypeId)(x:Operand)(f:Nat):iY:=λE _ T m=>match af E s (ev T x) f with |some v=>some (v,m) |none=>none
def tw(t:TypeId)(x:Operand)(f:Nat):iY:=λE _ T m=>match CB E t (ev T x) f with |some v=>some (v,m) |none=>none
def jD(t:TypeId)(x i:Operand):iY:=λE _ T m=>match an E t (ev T x) (ev T i)with |some v=>some (v,m) |none=>none
def tu(t:TypeId)(x i:Operand):iY:=λE _ T m=>match index? E t (ev T x) (ev T i)with |some v=>some (v,m) |none=>none
def yC(t:TypeId)(x i:Operand)(ok:Bool):iY:=λE _ T m=>match qA E m t (ev T x) (ev T i) ok with |some v=>some (v,m) |none=>none
def ff(t:TypeId)(x k y:Operand):iY:=λE _ T m=>match eM E m t (ev T x) (ev T k) (ev T y)with |some m=>some (undef,m) |none=>none
def rO(t:TypeId)(x k:Operand):iY:=λE _ T m=>gD E m t (ev T x) (ev T k)
def kn(x s y:Operand):iY:=λ_ _ T m=>match dY m (ev T x) (ev T s) (ev T y)with |some m=>some (undef,m) |none=>none
def pB(x:Operand)(t:TypeId)(ok:Bool):iY:=λE _ T m=>match ev T x with
 |.nilIface=>bif ok then(match iZ E t with |some z=>some (.tuple #[z,.bool false],m) |none=>none)else none
 |.iface H (.agg cs)=>bif ok && (Nat.beq H t && cs.toList.isEmpty)then(match E.ty.get t with
  |some ti=>(match ti.d with |.struct _=>some (.tuple #[.agg #[],.bool true],m) |_=>none)
  |none=>none)else none
 |_=>none
def kJ(x:Operand)(i:Nat):iY:=λ_ _ T m=>match ev T x with |.tuple H=>(match H.toList[i]? with |some v=>some (v,m) |none=>none) |_=>none
def nI(c:Call):iY:=λE call T m=>
 match c.callee with
 |.builtin b=>aw E m b c.argTypes.toList (c.args.toList.map (ev T))
 |.value f=>match ev T f with
  |.func g first captured=>call g (first.toList++(c.args.toList.map (ev T)++captured.toList)) m
  |_=>none
 |_=>none
def dn:Op->iY
 |.move x=>BY x
 |.assign x=>BY x
 |.pick c a b=>rN c a b
 |.alloc t=>tz t
 |.box t x=>NK t x
 |.build t ps=>tx t ps
 |.buildSlice t n ps=>nJ t n ps
 |.load t a=>yD t a
 |.store t a x=>nH t a x
 |.nilCheck x=>hZ x
 |.binOp op t x y _=>DP op t x y
 |.unOp op _ x=>NJ op x
 |.convert s d x=>FQ s d x
 |.makeFunc f a b=>jg f a b
 |.makeMap _ r=>qu r
 |.makeSlice t l c=>vY t l c
 |.slice t x lo hi H=>BX t x lo hi H
 |.fieldAddr s x f=>jE s x f
 |.field t x f=>tw t x f
 |.indexAddr t x i=>jD t x i
 |.index t x i=>tu t x i
 |.lookup t x i ok=>yC t x i ok
 |.mapUpdate t x k y=>ff t x k y
 |.insert t x k y=>ff t x k y
 |.extract x i=>kJ x i
 |.call c=>nI c
 |.mapEntry t x k=>rO t x k
 |.entryStore _ x s y=>kn x s y
 |.typeAssert x _ t ok=>pB x t ok
 |_=>λ_ _ _ _=>none
noncomputable section
variable (E:Env)
def fg:Op->Bool
 |.move _ |.assign _ |.pick .. |.build .. |.nilCheck _ |.binOp .. |.unOp .. |.makeFunc .. |.fieldAddr .. |.field .. |.indexAddr .. |.index .. |.extract ..=>true
 |_=>false
def cE(ops:Array Oper)(T:Tr aeM)(o:Oper):Bool:=
 match o.guard with
 |none=>true
 |some (j,want)=>match(ops.toList[j]?).bind (·.dst)with
  |some d=>match iT T d with
   |.bool b=>b==want
   |_=>false
  |none=>false
def put(T:Tr aeM)(dst:Option Tmp)(v:aeM):Tr aeM:=
 match dst with
 |some d=>T.set d v
 |none=>T
def zR(call:aK)(ops:Array Oper)(l:List Oper):Fr->Option Fr:=
 List.rec (motive:=λ_=>Fr->Option Fr) (λfr=>some fr)
  (λo _ H fr=>
   bif cE ops fr.T o then
    match dn o.op E call fr.T fr.m with
    |some (v,m)=>H {T:=put fr.T o.dst v,m:=m}
    |none=>none
   else H {fr with T:=put fr.T o.dst undef}) l
theorem DO(call:aK)(ops:Array Oper)(fr:Fr):zR E call ops [] fr=some fr:=rfl
theorem mW(call:aK)(ops:Array Oper)(o:Oper)(rest:List Oper)(fr:Fr):zR E call ops (o::rest) fr=
  bif cE ops fr.T o then
   match dn o.op E call fr.T fr.m with
   |some (v,m)=>zR E call ops rest {T:=put fr.T o.dst v,m:=m}
   |none=>none
  else zR E call ops rest {fr with T:=put fr.T o.dst undef}:=rfl
def eQ(ops:Array Oper)(j:Nat):Bool:=
 let b:=Region.before ops
 ops.toList.zipIdx.all λ(o,i)=>i==j ||fg o.op ||(b.getD j 0).testBit i ||(b.getD i 0).testBit j
def nK:Op->Bool
 |.call c=>(match c.callee with |.builtin .min=>true |.builtin .max=>true |_=>false)
 |_=>false
def lenOf:Op->Option Nat
 |.call c=>(match c.callee with |.builtin .len=>(match c.args.toList with |[.tmp t]=>some t |_=>none) |_=>none)
 |_=>none
def nE(ops:Array Oper)(j b:Nat)(T:Tr aeM):Bool:=
 let H:=Region.before ops
 let same:=λi t=>ops.toList.zipIdx.all λ(q,k)=> !(Nat.ble i k && Nat.blt k j && q.dst==some t)
 ops.toList.zipIdx.all λ(o,i)=>i==j ||fg o.op ||(H.getD j 0).testBit i ||(H.getD i 0).testBit j ||
  (Nat.blt i j && (match o.op with
   |.alloc _ |.box _ _=>true
   |.load _ (.tmp t)=>same i t && (match o.guard with
     |none=>true
     |some (g,_)=>match(ops.toList[g]?).bind (·.dst)with |some d=>same i d |none=>true) &&
    (!(cE ops T o) ||match iT T t with |.pointer (some a)=> !(a.block==b) |_=>false)
   |_=>nK o.op ||(match lenOf o.op with |some t=>same i t && (match iT T t with |.map _=>false |_=>true) |none=>false)))
def zu(m:M)(a:Addr):Option Nat:=match m.get a.block with |.cells [_,.slice (some r) _ _] _ _=>some r.block |_=>none
def fK(m:M)(T:Tr aeM):Op->Option Nat
 |.store _ a _=>match ev T a with |.pointer (some a)=>some a.block |_=>none
 |.call c=>match c.callee,c.args.toList with
  |.value f,[x]=>match ev T f,ev T x with
   |.func (.func g) first captured,.pointer (some a)=>bif Nat.beq g Dw && first.isEmpty && captured.isEmpty then zu m a else none
   |_,_=>none
  |_,_=>none
 |_=>none
def zQ(ops:Array Oper)(j:Nat)(m:M)(T:Tr aeM)(o:Op):Bool:=match fK m T o with |some b=>nE ops j b T |none=>false
def oH(call:aK)(ops:Array Oper)(l:List Oper):Nat->Fr->Option Fr:=
 List.rec (motive:=λ_=>Nat->Fr->Option Fr) (λ_ fr=>some fr)
  (λo _ H j fr=>
   bif cE ops fr.T o then
    match dn o.op E call fr.T {fr.m with low:=fr.m.n}with
    |some (v,m)=>
     bif Nat.ble fr.m.n m.low ||(eQ ops j ||zQ ops j fr.m fr.T o.op)then
      H (j+1) {T:=put fr.T o.dst v,m:={m with low:=min fr.m.low m.low}}
     else none
    |none=>none
   else H (j+1) {fr with T:=put fr.T o.dst undef}) l
theorem Bg(call:aK)(ops:Array Oper)(j:Nat)(fr:Fr):oH E call ops [] j fr=some fr:=rfl
theorem lG(call:aK)(ops:Array Oper)(o:Oper)(rest:List Oper)(j:Nat)(fr:Fr):oH E call ops (o::rest) j fr=
  bif cE ops fr.T o then
   match dn o.op E call fr.T {fr.m with low:=fr.m.n}with
   |some (v,m)=>
    bif Nat.ble fr.m.n m.low ||(eQ ops j ||zQ ops j fr.m fr.T o.op)then
     oH E call ops rest (j+1) {T:=put fr.T o.dst v,m:={m with low:=min fr.m.low m.low}}
    else none
   |none=>none
  else oH E call ops rest (j+1) {fr with T:=put fr.T o.dst undef}:=rfl
def jH(body:Fr->Option (Ex×Fr)):Nat->Fr->Option (Ex×Fr)
 |0,_=>none
 |n+1,fr=>
  match body fr with
  |some (.normal,fr)=>jH body n fr
  |r=>r
def bN(call:aK)(n:Nat):Code->Fr->Option (Ex×Fr)
 |.skip,fr |.label _,fr=>some (.normal,fr)
 |.region _ ops d,fr=>(bif d then oH E call ops ops.toList 0 fr else zR E call ops ops.toList fr).map (Ex.normal,·)
 |.seq a b,fr=>
  match bN call n a fr with
  |some (.normal,fr)=>bN call n b fr
  |r=>r
 |.cond c x y,fr=>match ev fr.T c with
  |.bool t=>bif t then bN call n x fr else bN call n y fr
  |_=>none
 |.block id c,fr=>
  match bN call n c fr with
  |some (.exit H,fr)=>bif Nat.beq H id then some (.normal,fr)else some (.exit H,fr)
  |r=>r
 |.loop c,fr=>jH (bN call n c) n fr
 |.scope c,fr=>bN call n c fr
 |.rangeFunc g ps assign body,fr=>
  match ev fr.T g with
  |.func (.func h) first captured=>
   match call (.func h) (first.toList++(.func (.yield fr.m.n) #[] #[]::captured.toList)) (fr.m.push (.loop ⟨fr.T,ps,assign,body,.ready,none,E.G⟩))with
   |some (_,m)=>
    match m.get fr.m.n with
    |.loop r=>match r.st with
     |.busy=>none
     |_=>some (r.sY.getD .normal,{fr with m:=m.set fr.m.n (.loop {r with st:=.exhausted})})
    |_=>none
   |none=>none
  |_=>none
 |.exit id,fr=>some (.exit id,fr)
 |.ret,fr=>some (.ret,fr)
 |_,_=>none
def kH(T:Tr aeM)(m:M):ResultVar->Option aeM
 |.tmp t=>some (iT T t)
 |.cell a t=>match iT T a with |.pointer (some a)=>loadVar E m t a |_=>none
def fW(T:Tr aeM)(m:M):List ResultVar->Option (aeN)
 |[]=>some []
 |r::rs=>match kH E T m r,fW T m rs with
  |some v,some H=>some (v::H)
  |_,_=>none
def result?(fn:Func)(T:Tr aeM)(m:M):Option aeM:=
 match fW E T m fn.results.toList with
 |some [v]=>some v
 |some H=>some (.tuple H.toArray)
 |none=>none
def enter:aeN->Nat->Tr aeM
 |[],_=> .e
 |v::H,i=>(enter H (i+1)).set i v
def uK(T:Tr aeM):List (Tmp×aeM)->Tr aeM
 |[]=>T
 |(t,v)::l=>uK (T.set t v) l
def uM(exec:Code->Fr->Option (Ex×Fr))(G l:Nat)(args:aeN)(m:M):Option (aeM×M):=
 match m.get l with
 |.loop r=>
  bif Nat.beq args.length r.ps.size && Nat.beq r.G G then
   match exec r.assign {T:=uK r.T (r.ps.toList.zip args),m:={m with low:=m.n}}with
   |some (.normal,fr)=>
    match fr.m.get l with
    |.loop r1=>match r1.st with
     |.ready=>
      match exec r.body {fr with m:=fr.m.set l (.loop {r1 with st:=.busy})}with
      |some (e,fr)=>
       match fr.m.get l with
       |.loop H=>match e with
        |.normal=>some (.bool true,{fr.m.set l (.loop {H with st:=.ready,sY:=none})with low:=min m.low (fr.m.set l (.loop {H with st:=.ready,sY:=none})).low})
        |e=>some (.bool false,{fr.m.set l (.loop {H with st:=.done,sY:=some e})with low:=min m.low (fr.m.set l (.loop {H with st:=.done,sY:=some e})).low})
       |_=>none
      |none=>none
     |_=>none
    |_=>none
   |_=>none
  else none
 |_=>none
def vr(ex:Code->Fr->Option (Ex×Fr)):List Code->Fr->Option (Ex×Fr)
 |[],fr=>some (.normal,fr)
 |c::cs,fr=>match ex c fr with
  |some (.normal,fr)=>vr ex cs fr
  |r=>r
def nC:List Oper->Tr aeM->Option (Tr aeM)
 |[],T=>some T
 |o::os,T=>match o.guard,o.op with
  |none,.call c=>match c.callee with
   |.builtin .recover=>bif c.args.toList.isEmpty then nC os (put T o.dst .nilIface)else none
   |_=>none
  |none,.assign x=>nC os (put T o.dst (ev T x))
  |none,.move x=>nC os (put T o.dst (ev T x))
  |_,_=>none
def GF(ex:Code->Fr->Option (Ex×Fr))(g:Nat)(args:aeN)(m:M):Option M:=
 match E.cl.get g with
 |some c=>
  bif Nat.ble args.length c.fn.ntmps && (c.fn.results.toList.isEmpty && my c.rest)then
   match nC c.ops.toList (enter args 0)with
   |some T=>match ex c.rest {T:=T,m:={m with low:=m.n}}with
    |some (.exit _,_) |none=>none
    |some (_,fr)=>some {fr.m with low:=min m.low fr.m.low}
   |none=>none
  else none
 |none=>none
def Gp(fn:Func)(m:M)(fr:Fr):Option (aeM×M):=
 match result? E fn fr.T fr.m with
 |none=>none
 |some v=>bif bB v && Nat.ble m.n fr.m.low then some (v,m)else some (v,{fr.m with low:=min m.low fr.m.low})
def zp(ex:Code->Fr->Option (Ex×Fr))(d:Tf)(args:aeN)(m:M):Option (aeM×M):=
 bif Nat.ble args.length d.fn.ntmps then
  match vr ex d.pre {T:=enter args 0,m:={m with low:=m.n}}with
  |some (.ret,fr)=>Gp E d.fn m fr
  |some (.normal,fr)=>
   match d.mf.guard,d.mf.dst,d.mf.op,d.de.guard,d.de.op with
   |none,some td,.makeFunc (.func g) fi ca,none,.defer c=>
    match c.callee with
    |.value (.tmp t)=>
     bif Nat.beq t td && (c.args.toList.isEmpty && fi.toList.isEmpty)then
      match ex d.post {T:=put (put fr.T (some td) (.func (.func g) #[] (ca.toList.map (ev fr.T)).toArray)) d.de.dst undef,m:=fr.m}with
      |some (.exit _,_) |none=>none
      |some (_,H)=>match GF E ex g (ca.toList.map (ev fr.T)) H.m with
       |some m3=>Gp E d.fn m {H with m:=m3}
       |none=>none
     else none
    |_=>none
   |_,_,_,_,_=>none
  |_=>none
 else none
def cA(X:aK):Nat->aK
 |0,_,_,_=>none
 |n+1,.func f,args,m=>
  match X (.func f) args m with
  |some r=>some r
  |none=>
  match E.fn.get f with
  |none=>match E.df.get f with
   |some d=>zp E (bN E (cA X n) n) d args m
   |none=>none
  |some fn=>
   match fn.body with
   |none=>none
   |some body=>
    bif Nat.ble args.length fn.ntmps then
     match bN E (cA X n) n body {T:=enter args 0,m:={m with low:=m.n}}with
     |some (.exit _,_) |none=>none
     |some (_,fr)=>
      match result? E fn fr.T fr.m with
      |none=>none
      |some v=>bif bB v && Nat.ble m.n fr.m.low then some (v,m)else some (v,{fr.m with low:=min m.low fr.m.low})
    else none
 |n+1,.yield l,args,m=>uM (bN E (cA X n) n) E.G l args m
 |_+1,_,_,_=>none
end
end
theorem Tr.get_mem{α:Type}{x:α}:∀(t:Tr α) (i a b:Nat),t.get i=some x->(a*i+b,x)∈t.sC a b
 |.e,_,_,_,h=>by simp[Tr.yV]at h
 |.n v l r,0,a,b,h=>by
  subst h
  unfold Tr.sC
  simp
 |.n v l r,i+1,a,b,h=>by
  simp only[Tr.pG,Tr.jJ]at h
  unfold Tr.sC
  cases h1:Nat.beq (i%2) 0 with
  |true=>
   rw[h1]at h
   have hm:i%2=0:=abn h1
   have:=Tr.get_mem l (i/2) (2*a) (a+b) h
   have e:2*a*(i/2)+(a+b)=a*(i+1)+b:=by
    have H:i=2*(i/2):=by omega
    grind
   grind
  |false=>
   rw[h1]at h
   have hm:i%2≠0:=abY h1
   have:=Tr.get_mem r (i/2) (2*a) (2*a+b) h
   have e:2*a*(i/2)+(2*a+b)=a*(i+1)+b:=by
    have H:i=2*(i/2)+1:=by omega
    grind
   grind
theorem Tr.wG{α:Type}{f:Nat->Option α}(t:Tr α)(h:(t.sC 1 0).map (λp=>f p.1)=(t.sC 1 0).map (λp=>some p.2)){i:Nat}{x:α}(hi:t.get i=some x):f i=some x:=by
 have hm:=Tr.get_mem t i 1 0 hi
 have:=List.map_inj_left.1 h _ hm
 grind
theorem Tr.rT{α:Type}(x:α):∀(f i j:Nat),i<=f->(Tr.single x f i).get j=if j=i then some x else none
 |0,i,j,h=>by
  obtain rfl:i=0:=by omega
  unfold Tr.single
  cases j with
  |zero=>rfl
  |succ j=>simp only[Tr.jJ];cases Nat.beq (j%2) 0 <;>simp[Tr.yV]
 |f+1,0,j,h=>by
  unfold Tr.single
  cases j with
  |zero=>rfl
  |succ j=>simp only[Tr.jJ];cases Nat.beq (j%2) 0 <;>simp[Tr.yV]
 |f+1,i+1,j,h=>by
  unfold Tr.single
  cases h1:Nat.beq (i%2) 0 with
  |true=>
   have hm:i%2=0:=abn h1
   simp only[cond_true]
   cases j with
   |zero=>simp[Tr.pG]
   |succ j=>
    simp only[Tr.jJ]
    cases H:Nat.beq (j%2) 0 with
    |true=>
     have hj:j%2=0:=abn H
     rw[Tr.rT x f (i/2) (j/2) (by omega)]
     grind
    |false=>
     simp only[abm,Tr.yV]
     grind
  |false=>
   have hm:i%2≠0:=abY h1
   simp only[abm]
   cases j with
   |zero=>simp[Tr.pG]
   |succ j=>
    simp only[Tr.jJ]
    cases H:Nat.beq (j%2) 0 with
    |true=>
     simp only[cond_true,Tr.yV]
     grind
    |false=>
     have hj:j%2≠0:=abY H
     rw[Tr.rT x f (i/2) (j/2) (by omega)]
     grind
theorem Tr.bX{α:Type}(x:α):∀(t:Tr α) (i j:Nat),(t.set i x).get j=if j=i then some x else t.get j
 |.e,i,j=>by
  simp only[Tr.Nf,Tr.yf,Tr.yg]
  rw[Tr.rT x i i j (aa4 _)]
  simp[Tr.yV]
 |.n v l r,0,j=>by
  simp only[Tr.Nf,Tr.yf,Tr.yg]
  cases j with
  |zero=>rfl
  |succ j=>simp[Tr.jJ]
 |.n v l r,i+1,j=>by
  simp only[Tr.Nf,Tr.yf,Tr.yg]
  cases h1:Nat.beq (i%2) 0 with
  |true=>
   have hm:i%2=0:=abn h1
   simp only[cond_true]
   cases j with
   |zero=>simp[Tr.pG]
   |succ j=>
    simp only[Tr.jJ]
    cases H:Nat.beq (j%2) 0 with
    |true=>
     have hj:j%2=0:=abn H
     rw[Tr.bX x l (i/2) (j/2)]
     grind
    |false=>
     grind
  |false=>
   have hm:i%2≠0:=abY h1
   simp only[abm]
   cases j with
   |zero=>simp[Tr.pG]
   |succ j=>
    simp only[Tr.jJ]
    cases H:Nat.beq (j%2) 0 with
    |true=>
     grind
    |false=>
     have hj:j%2≠0:=abY H
     rw[Tr.bX x r (i/2) (j/2)]
     grind
theorem Tr.HG{α:Type}{p:Nat->α->Prop}(t:Tr α){l:List (Nat×α)}(h:t.sC 1 0=l)(H:∀x∈l,p x.1 x.2){i:Nat}{x:α}(hi:t.get i=some x):p i x:=by
 have hm:=Tr.get_mem t i 1 0 hi
 grind
section
structure BI where
 cI:Nat
 gr:Option (Nat×Nat×Nat)
abbrev Sg:=Nat->Option BI
inductive bw (σ:Sg):aeM->aeM->Prop where
 |flat (v:aeM) (h:bF v=true):bw σ v v
 |ptr (a:Addr) (i:BI) (h:σ a.block=some i) (hs:a.spot=none):bw σ (.pointer (some a)) (.pointer (some ⟨i.cI,a.off,none⟩))
 |slice (a:Addr) (i:BI) (n c:Nat) (h:σ a.block=some i) (hs:a.spot=none) (hg:i.gr=none):bw σ (.slice (some a) n c) (.slice (some ⟨i.cI,a.off,none⟩) n c)
 |iC (a:Addr) (i:BI) (n c c' k sz N:Nat) (h:σ a.block=some i) (hs:a.spot=none) (hg:i.gr=some (k,sz,N)) (hc:c'=c\/(c<=c'/\a.off+c*k=sz/\a.off+c'*k=N)):bw σ (.slice (some a) n c) (.slice (some ⟨i.cI,a.off,none⟩) n c')
 |empty (a a':Addr) (i:BI) (c' k sz N:Nat) (h:σ a.block=some i) (hg:i.gr=some (k,sz,N)) (ho:a.off=sz):bw σ (.slice (some a) 0 0) (.slice (some a') 0 c')
 |map (r:Nat) (i:BI) (h:σ r=some i):bw σ (.map (some r)) (.map (some i.cI))
 |func (f:FuncId) (a b a' b':Array aeM) (ha:a.size=a'.size) (hb:b.size=b'.size) (h1:∀(j:Nat) u u',a[j]?=some u->a'[j]?=some u'->bw σ u u') (h2:∀(j:Nat) u u',b[j]?=some u->b'[j]?=some u'->bw σ u u'):bw σ (.func (.func f) a b) (.func (.func f) a' b')
 |yield (l:Nat) (i:BI) (h:σ l=some i):bw σ (.func (.yield l) #[] #[]) (.func (.yield i.cI) #[] #[])
 |agg (a a':Array aeM) (ha:a.size=a'.size) (h1:∀(j:Nat) u u',a[j]?=some u->a'[j]?=some u'->bw σ u u'):bw σ (.agg a) (.agg a')
 |tuple (a a':Array aeM) (ha:a.size=a'.size) (h1:∀(j:Nat) u u',a[j]?=some u->a'[j]?=some u'->bw σ u u'):bw σ (.tuple a) (.tuple a')
def bK(σ:Sg)(l H:aeN):Prop:=l.length=H.length/\∀(j:Nat) u u',l[j]?=some u->H[j]?=some u'->bw σ u u'
def Sg.le(σ τ:Sg):Prop:=∀b i,σ b=some i->τ b=some i
theorem bw.mono{σ τ:Sg}(hle:σ.le τ){v v':aeM}(h:bw σ v v'):bw τ v v':=by
 induction h with
 |flat v h=>exact .flat v h
 |ptr a i h hs=>exact .ptr a i (hle _ _ h) hs
 |slice a i n c h hs hg=>exact .slice a i n c (hle _ _ h) hs hg
 |iC a i n c c' k sz N h hs hg hc=>exact .iC a i n c c' k sz N (hle _ _ h) hs hg hc
 |empty a H i c' k sz N h hg ho=>exact .empty a H i c' k sz N (hle _ _ h) hg ho
 |map r i h=>exact .map r i (hle _ _ h)
 |func f a b H b' ha hb _ _ i1 i2=>exact .func f a b H b' ha hb (λj u u' h h'=>i1 j u u' h h') (λj u u' h h'=>i2 j u u' h h')
 |yield l i h=>exact .yield l i (hle _ _ h)
 |agg a H ha _ i1=>exact .agg a H ha (λj u u' h h'=>i1 j u u' h h')
 |tuple a H ha _ i1=>exact .tuple a H ha (λj u u' h h'=>i1 j u u' h h')
theorem bK.mono{σ τ:Sg}(hle:σ.le τ){l H:aeN}(h:bK σ l H):bK τ l H:=⟨h.1,λj u u' a b=>(h.2 j u u' a b).mono hle⟩
theorem bK.nil{σ:Sg}:bK σ [] []:=⟨rfl,by grind⟩
theorem bK.cons{σ:Sg}{v v':aeM}{l H:aeN}(h:bw σ v v')(ht:bK σ l H):bK σ (v::l) (v'::H):=
 ⟨by simp[ht.1],λj u u' a b=>by
  cases j with
  |zero=>simp at a b;subst a;subst b;exact h
  |succ j=>exact ht.2 j u u' (by grind) (by grind)⟩
theorem bK.head{σ:Sg}{v v':aeM}{l H:aeN}(h:bK σ (v::l) (v'::H)):bw σ v v':=h.2 0 v v' rfl rfl
theorem bK.tail{σ:Sg}{v v':aeM}{l H:aeN}(h:bK σ (v::l) (v'::H)):bK σ l H:=
 ⟨by simpa using h.1,λj u u' a b=>h.2 (j+1) u u' (by grind) (by grind)⟩
theorem bK.cases{σ:Sg}{v:aeM}{l x:aeN}(h:bK σ (v::l) x):∃v' H,x=v'::H/\bw σ v v'/\bK σ l H:=by
 cases x with
 |nil=>exact absurd h.1 (by simp)
 |cons v' H=>exact⟨v',H,rfl,h.head,h.tail⟩
theorem bK.nil_eq{σ:Sg}{x:aeN}(h:bK σ [] x):x=[]:=acu h.1.symm
theorem bK.append{σ:Sg}{a H b b':aeN}(h:bK σ a H)(k:bK σ b b'):bK σ (a++b) (H++b'):=
 ⟨by simp[h.1,k.1],λj u u' x y=>by
  by_cases hj:j < a.length
  ·rw[acJ hj]at x
   rw[acJ (by rw[<-h.1];exact hj)]at y
   exact h.2 j u u' x y
  ·rw[acp (by omega)]at x
   rw[acp (by rw[<-h.1];omega)]at y
   rw[<-h.1]at y
   exact k.2 _ u u' x y⟩
theorem bK.take{σ:Sg}{a H:aeN}(h:bK σ a H)(n:Nat):bK σ (a.take n) (H.take n):=
 ⟨by simp[h.1],λj u u' x y=>by
  simp only[ad4]at x y
  by_cases hj:j < n
  ·rw[abe hj]at x y;exact h.2 j u u' x y
  ·grind⟩
theorem bK.drop{σ:Sg}{a H:aeN}(h:bK σ a H)(n:Nat):bK σ (a.drop n) (H.drop n):=
 ⟨by simp[h.1],λj u u' x y=>by
  simp only[acz]at x y
  exact h.2 _ u u' x y⟩
theorem bK.get{σ:Sg}{a a':aeN}(h:bK σ a a'){j:Nat}{u:aeM}(hj:a[j]?=some u):∃u',a'[j]?=some u'/\bw σ u u':=by
 have H:j < a'.length:=by rw[<-h.1];exact(aa9.1 hj).1
 exact⟨a'[j],aa5 H,h.2 j u _ hj (aa5 H)⟩
theorem bK.of_flat{σ:Sg}{l:aeN}(h:l.all bF):bK σ l l:=
 ⟨rfl,λj u H a b=>by
  rw[a]at b;cases b
  exact .flat u (abw.1 h u (abb a))⟩
theorem bK.agg{σ:Sg}{l H:aeN}(h:bK σ l H):bw σ (.agg l.toArray) (.agg H.toArray):=
 .agg _ _ (by simpa using h.1) (λj u u' a b=>h.2 j u u' (by grind) (by grind))
theorem bK.tuple{σ:Sg}{l H:aeN}(h:bK σ l H):bw σ (.tuple l.toArray) (.tuple H.toArray):=
 .tuple _ _ (by simpa using h.1) (λj u u' a b=>h.2 j u u' (by grind) (by grind))
theorem bw.jG{σ:Sg}{v:aeM}(h:dG v):bw σ v v:=by
 cases v with
 |agg cs=>
  have:=bK.agg (σ:=σ) (bK.of_flat (l:=cs.toList) h)
  simp_all
 |_=>exact .flat _ h
theorem bw.undef{σ:Sg}:bw σ undef undef:=.tuple _ _ rfl (by grind)
theorem bw.cells{σ:Sg}{v v':aeM}(h:bw σ v v'):bK σ (cells v) v'.cells.toList:=by
 cases h with
 |agg a H ha h1=>exact⟨by simpa[D.cells,Value.cells]using ha,λj u u' x y=>h1 j u u' (by simpa[D.cells]using x) (by simpa[Value.cells]using y)⟩
 |flat v hv=>
  cases v with
  |agg cs=>simp[bF]at hv
  |_=>exact bK.cons (.flat _ hv) bK.nil
 |ptr a i h hs=>exact bK.cons (.ptr a i h hs) bK.nil
 |slice a i n c h hs hg=>exact bK.cons (.slice a i n c h hs hg) bK.nil
 |iC a i n c c' k sz N h hs hg hc=>exact bK.cons (.iC a i n c c' k sz N h hs hg hc) bK.nil
 |empty a H i c' k sz N h hg ho=>exact bK.cons (.empty a H i c' k sz N h hg ho) bK.nil
 |map r i h=>exact bK.cons (.map r i h) bK.nil
 |func f a b H b' ha hb h1 h2=>exact bK.cons (.func f a b H b' ha hb h1 h2) bK.nil
 |yield l i h=>exact bK.cons (.yield l i h) bK.nil
 |tuple a H ha h1=>exact bK.cons (.tuple a H ha h1) bK.nil
theorem bw.one{σ:Sg}{v v':aeM}(h:bw σ v v')(h1:one v):v'.oneCell':=by
 cases h with
 |flat v H=>cases v <;>first |rfl |simp[D.one]at h1
 |agg=>simp[D.one]at h1
 |tuple=>simp[D.one]at h1
 |_=>rfl
theorem bK.fB{σ:Sg}{l l':aeN}(h:bK σ l l')(h1:l.all one):∀u∈l',u.oneCell':=by
 intro u hu;have⟨j,hj⟩:=ac8.1 hu;have H:j < l.length:=by rw[h.1];exact(aa9.1 hj).1
 exact(h.2 j _ u (aa5 H) hj).one (abw.1 h1 _ (List.getElem_mem H))
theorem bw.bM{σ:Sg}{v v':aeM}(h:bw σ v v')(H:bF v):v'=v:=by
 cases h with
 |flat=>rfl
 |func f a b a' b' ha hb h1 h2=>
  simp[bF]at H
  grind
 |ptr=>simp[bF]at H
 |slice=>simp[bF]at H
 |iC=>simp[bF]at H
 |empty=>simp[bF]at H
 |map=>simp[bF]at H
 |yield=>simp[bF]at H
 |agg=>simp[bF]at H
 |tuple=>simp[bF]at H
def WL(i:BI)(len size:Nat):Option Nat->Prop
 |none=>i.gr=none/\size=len
 |some k=>i.gr=some (k,len,size)/\0 < k/\0 < len
def vt:Ex->Code
 |.normal=> .skip
 |.exit id=> .exit id
 |.ret=> .ret
def Holds(σ:Sg)(i:BI)(w:World):Ob->Prop
 |.dead=>True
 |.cells c e g=>∃c':Array aeM,w.heap[i.cI]?=some (.cells c' e (0,0))/\c.length<=c'.size/\bK σ c (c'.toList.take c.length)/\WL i c.length c'.size g
 |.map es clock=>i.gr=none/\∃a0:Array MapEntry,w.heap[i.cI]?=some (.map a0 clock)/\es.length=a0.size/\
   ∀(j:Nat) e e',es[j]?=some e->a0[j]?=some e'->e'.key=e.key/\e'.born=e.born/\dG e.key=true/\bw σ e.val e'.val
 |.ro c=>i.gr=none/\∃(c':Array aeM) (e':TypeId) (fz:Nat×Nat),w.heap[i.cI]?=some (.cells c' e' fz)/\c.length<=c'.size/\∀(j:Nat) u u',c[j]?=some u->c'[j]?=some u'->one u=true->bw σ u u'
 |.loop r=>i.gr=none/\∃(H:Loop) (nt:Nat),w.heap[i.cI]?=some (.loop H)/\H.state=r.st/\H.pending=r.sY.map vt/\H.params=r.ps/\H.assign=r.assign/\H.body=r.body/\
   H.tmps.size=nt/\(∀t,t < nt->bw σ ((r.T.get t).getD undef) (H.tmps.getD t undef))/\dz nt r.G r.assign=true/\dz nt r.G r.body=true/\(∀p∈r.ps.toList,p < nt)/\r.sY≠some .normal
structure eN(P:Program)(σ:Sg)(m:M)(w:World):Prop where
 sw:∀b i,σ b=some i->b < m.n
 obj:∀b i,σ b=some i->Holds σ i w (m.get b)
 lt:∀b i,σ b=some i->i.cI < w.heap.size
 inj:∀b b' i i',σ b=some i->σ b'=some i'->m.get b≠.dead->m.get b'≠.dead->i.cI=i'.cI->b=b'
 kz:∀g,g < P.globals.size->σ g=some ⟨g,none⟩
structure Ev(P:Program)(σ:Sg)(m:M)(w:World)(σ':Sg)(m':M)(w':World):Prop where
 ext:σ.le σ'
 sH:eN P σ' m' w'
 low:m'.low<=m.low
 LD:m.n<=m'.n
 hle:w.heap.size<=w'.heap.size
 new:∀b i,σ' b=some i->σ b=none->m.n<=b/\(w.heap.size<=i.cI\/∃b0 i0,σ b0=some i0/\i0.cI=i.cI/\m'.low<=b0)
 abs:∀b,b < m'.low->b < m.n->m'.get b=m.get b
 heap:∀B,B < w.heap.size->(∀b i,σ b=some i->i.cI=B->b < m'.low)->w'.heap[B]?=w.heap[B]?
 os:w'.os=w.os
 tape:w'.tape=w.tape
 output:w'.output=w.output
section
variable {P:Program} {σ σ' τ:Sg} {m m' m2:M} {w w' w2:World}
theorem Ev.refl(h:eN P σ m w):Ev P σ m w σ m w:=⟨λ_ _ h=>h,h,aa4 _,aa4 _,aa4 _,λb i h H=>(by grind),λ_ _ _=>rfl,λ_ _ _=>rfl,rfl,rfl,rfl⟩
theorem Ev.trans(h:Ev P σ m w σ' m' w')(k:Ev P σ' m' w' τ m2 w2):Ev P σ m w τ m2 w2:=by
 refine⟨λb i e=>k.ext b i (h.ext b i e),k.sH,acb k.low h.low,acb h.LD k.LD,acb h.hle k.hle,?_,?_,?_,k.os.trans h.os,k.tape.trans h.tape,k.output.trans h.output⟩
 ·intro b i H hn
  have hl:=k.low
  cases hm:σ' b with
  |some i1=>
   have e:=k.ext b i1 hm
   rw[H]at e;cases e
   have⟨h1,h2⟩:=h.new b i hm hn
   grind
  |none=>
   have⟨h1,h2⟩:=k.new b i H hm;have:=h.LD;refine⟨by omega,?_⟩;rcases h2 with h2 |⟨b0,i0,x,y,z⟩;·have:=h.hle;exact .inl (by omega)
   ·cases h0:σ b0 with
    |some i1=>
     have e:=h.ext b0 i1 h0
     grind
    |none=>
     have⟨_,h3⟩:=h.new b0 i0 x h0
     grind
 ·intro b H hn;have hl:=k.low;have:=h.LD;rw[k.abs b H (by omega),h.abs b (by omega) hn]
 ·intro B hB hp
  have hl:=k.low
  have:=h.hle
  rw[k.heap B (by omega) ?_,h.heap B hB (by grind)]
  intro b i x y
  cases hs:σ b with
  |some i1=>
   have e:=h.ext b i1 hs
   grind
  |none=>
   have⟨_,h3⟩:=h.new b i x hs
   grind
end
end
section
theorem kA{a b:Nat}:Nat.blt a b=decide (a < b):=by
 cases h:Nat.blt a b with
 |true=>
  simp_all
 |false=>
  have H:Nat.ble (a+1) b=false:=h
  have:¬(a+1<=b):=λhle=>by rw[abT hle]at H;cases H
  grind
theorem M.fo(m:M)(b:Nat):m.get b=if b < m.n then(m.st.get b).getD .dead else .dead:=by
 unfold M.get
 simp_all
theorem M.iL(m:M)(o:Ob)(b:Nat):(m.push o).get b=if b=m.n then o else m.get b:=by
 rw[M.fo,M.fo]
 simp only[M.push,Tr.bX]
 grind
theorem M.bX(m:M)(b:Nat)(o:Ob)(c:Nat)(H:b < m.n):(m.set b o).get c=if c=b then o else m.get c:=by
 rw[M.fo,M.fo]
 simp only[M.set,Tr.bX]
 grind
theorem M.ll{m:M}{b:Nat}(h:m.get b≠.dead):b < m.n:=by
 rw[M.fo]at h
 grind
section
variable {P:Program} {σ σ' τ:Sg} {m m' m2:M} {w w' w2:World}
theorem Holds.aY{i:BI}{ob:Ob}(h:Holds σ i w ob)(hle:σ.le τ)(hw:w'.heap[i.cI]?=w.heap[i.cI]?):Holds τ i w' ob:=by
 cases ob with
 |dead=>trivial
 |cells c e g=>have⟨c',h1,H,h3,h4⟩:=h;exact⟨c',hw.trans h1,H,h3.mono hle,h4⟩
 |map es clock=>have⟨hg,a0,h1,H,h3⟩:=h;refine⟨hg,a0,hw.trans h1,H,λj e e' x y=>?_⟩;have⟨a,b,c,d⟩:=h3 j e e' x y;exact⟨a,b,c,d.mono hle⟩
 |loop r=>have⟨hg,r',nt,h1,H,h3,h4,h5,h6,h7,h8,h9⟩:=h;exact⟨hg,r',nt,hw.trans h1,H,h3,h4,h5,h6,h7,λt ht=>(h8 t ht).mono hle,h9⟩
 |ro c=>have⟨hg,c',e',fz,h1,H,h3⟩:=h;exact⟨hg,c',e',fz,hw.trans h1,H,λj u u' x y z=>(h3 j u u' x y z).mono hle⟩
def Sg.add(σ:Sg)(b:Nat)(i:BI):Sg:=λc=>if c=b then some i else σ c
theorem Sg.add_same(b:Nat)(i:BI):(σ.add b i) b=some i:=by simp[Sg.add]
theorem Sg.yN{b:Nat}{i:BI}(h:σ b=none):σ.le (σ.add b i):=by
 intro c j H
 unfold Sg.add
 grind
theorem eN.mX(h:eN P σ m w):σ m.n=none:=by
 cases H:σ m.n with
 |none=>rfl
 |some i=>have:=h.sw _ _ H;omega
theorem Ev.uZ{ob:Ob}{o:Obj}{gr:Option (Nat×Nat×Nat)}(h:eN P σ m w)
  (hh:Holds (σ.add m.n ⟨w.heap.size,gr⟩) ⟨w.heap.size,gr⟩ (w.alloc o) ob):Ev P σ m w (σ.add m.n ⟨w.heap.size,gr⟩) (m.push ob) (w.alloc o):=by
 have hn:=h.mX;have hle:=Sg.yN (i:=⟨w.heap.size,gr⟩) hn;have hold:∀B,B < w.heap.size->(w.alloc o).heap[B]?=w.heap[B]?:=λB hB=>heap_alloc_old w o hB;have g0:(m.push ob).n=m.n+1:=rfl;have h0:(w.alloc o).heap.size=w.heap.size+1:=by simp
 have H:∀b i,(σ.add m.n ⟨w.heap.size,gr⟩) b=some i->(b=m.n/\i=⟨w.heap.size,gr⟩)\/(b≠m.n/\σ b=some i):=by
  intro b i hb
  unfold Sg.add at hb
  grind
 refine⟨hle,⟨?_,?_,?_,?_,?_⟩,aa4 _,by omega,by omega,?_,?_,λB hB _=>hold B hB,rfl,rfl,rfl⟩
 ·intro b i hb;rcases H b i hb with⟨rfl,_⟩ |⟨_,hb⟩;·omega
  have:=h.sw b i hb;omega
 ·intro b i hb;rw[M.iL];rcases H b i hb with⟨rfl,rfl⟩ |⟨b0,hb⟩
  ·grind
  rw[abd b0];exact(h.obj b i hb).aY hle (hold _ (h.lt b i hb))
 ·intro b i hb;rcases H b i hb with⟨_,rfl⟩ |⟨_,hb⟩
  ·grind
  have:=h.lt b i hb;omega
 ·intro b b' i i' hb a0 hd d0 he;rw[M.iL]at hd d0;rcases H b i hb with⟨rfl,rfl⟩ |⟨b0,hb⟩ <;>rcases H b' i' a0 with⟨rfl,rfl⟩ |⟨e0,a0⟩
  ·rfl
  ·have:=h.lt b' i' a0;dsimp only at he;omega
  ·have:=h.lt b i hb;dsimp only at he;omega
  rw[abd b0]at hd;rw[abd e0]at d0;exact h.inj b b' i i' hb a0 hd d0 he
 ·intro g hg;exact hle g _ (h.kz g hg)
 ·grind
 intro b _ hb;rw[M.iL,abd (by omega)]
theorem Ev.write{b:Nat}{i:BI}{ob:Ob}(h:eN P σ m w)(hb:σ b=some i)(hd:m.get b≠.dead)(hh:Holds σ i w' ob)
  (hw:∀B,B≠i.cI->w'.heap[B]?=w.heap[B]?) (hs:w'.heap.size=w.heap.size) (ho:w'.os=w.os) (ht:w'.tape=w.tape) (hu:w'.output=w.output):
  Ev P σ m w σ (m.set b ob) w':=by
 have a0:=M.ll hd;have h0:(m.set b ob).low=min m.low b:=rfl;refine⟨λ_ _ x=>x,⟨h.sw,?_,λc j H=>(by rw[hs];exact h.lt c j H),?_,h.kz⟩,by omega,aa4 _,by omega,λc j H hn=>(by grind),?_,?_,ho,ht,hu⟩
 ·intro c j H;rw[M.bX _ _ _ _ a0];by_cases b0:c=b
  ·grind
  rw[abd b0];by_cases d0:m.get c=.dead;·rw[d0];trivial
  exact(h.obj c j H).aY (λ_ _ x=>x) (hw _ (λe=>b0 (h.inj c b j i H hb d0 hd e)))
 ·intro c c' j j' H g0 hl e0 he;rw[M.bX _ _ _ _ a0]at hl e0
  have live:∀x,(if x=b then ob else m.get x)≠.dead->m.get x≠.dead:=by
   grind
  exact h.inj c c' j j' H g0 (live _ hl) (live _ e0) he
 ·intro c H i0;rw[M.bX _ _ _ _ a0,abd (by omega)]
 ·grind
theorem Ev.TH{b:Nat}{i:BI}{ob:Ob}{gr:Option (Nat×Nat×Nat)}(h:eN P σ m w)(hb:σ b=some i)(hd:m.get b≠.dead)
  (hh:Holds (σ.add m.n ⟨i.cI,gr⟩) ⟨i.cI,gr⟩ w' ob)
  (hw:∀B,B≠i.cI->w'.heap[B]?=w.heap[B]?) (hs:w'.heap.size=w.heap.size) (ho:w'.os=w.os) (ht:w'.tape=w.tape) (hu:w'.output=w.output):
  Ev P σ m w (σ.add m.n ⟨i.cI,gr⟩) ((m.set b .dead).push ob) w':=by
 have k0:=M.ll hd;have hn:=h.mX;have hle:=Sg.yN (i:=⟨i.cI,gr⟩) hn;have l0:(m.set b .dead).n=m.n:=rfl;have o0:((m.set b .dead).push ob).n=m.n+1:=rfl;have n0:((m.set b .dead).push ob).low=min m.low b:=rfl
 have g0:∀c,((m.set b .dead).push ob).get c=if c=m.n then ob else if c=b then .dead else m.get c:=by intro c;rw[M.iL,l0,M.bX _ _ _ _ k0]
 have H:∀c j,(σ.add m.n ⟨i.cI,gr⟩) c=some j->(c=m.n/\j=⟨i.cI,gr⟩)\/(c≠m.n/\σ c=some j):=by
  intro c j hc
  unfold Sg.add at hc
  grind
 refine⟨hle,⟨?_,?_,?_,?_,?_⟩,by omega,by omega,by omega,?_,?_,?_,ho,ht,hu⟩
 ·intro c j hc;rcases H c j hc with⟨rfl,_⟩ |⟨_,hc⟩;·omega
  have:=h.sw c j hc;omega
 ·intro c j hc;rw[g0];rcases H c j hc with⟨rfl,rfl⟩ |⟨d0,hc⟩
  ·grind
  rw[abd d0];by_cases a0:c=b;·rw[abe a0];trivial
  rw[abd a0];by_cases i0:m.get c=.dead;·rw[i0];trivial
  exact(h.obj c j hc).aY hle (hw _ (λe=>a0 (h.inj c b j i hc hb i0 hd e)))
 ·intro c j hc;rcases H c j hc with⟨_,rfl⟩ |⟨_,hc⟩;·have:=h.lt b i hb;rw[hs];exact this
  rw[hs];exact h.lt c j hc
 ·intro c c' j j' hc e0 hl b0 he;rw[g0]at hl b0;rcases H c j hc with⟨rfl,rfl⟩ |⟨d0,hc⟩ <;>rcases H c' j' e0 with⟨rfl,rfl⟩ |⟨h0,e0⟩
  ·rfl
  ·rw[abd h0]at b0;by_cases a0:c'=b
   ·grind
   rw[abd a0]at b0;exact absurd (h.inj b c' i j' hb e0 hd b0 he).symm a0
  ·rw[abd d0]at hl;by_cases a0:c=b
   ·grind
   rw[abd a0]at hl;exact absurd (h.inj c b j i hc hb hl hd he) a0
  rw[abd d0]at hl;rw[abd h0]at b0;by_cases a0:c=b
  ·grind
  by_cases j0:c'=b
  ·grind
  rw[abd a0]at hl;rw[abd j0]at b0;exact h.inj c c' j j' hc e0 hl b0 he
 ·intro g hg;exact hle g _ (h.kz g hg)
 ·grind
 ·grind
 ·grind
theorem eN.of_heap(h:eN P σ m w)(he:w'.heap=w.heap):eN P σ m w':=⟨h.sw,λb i H=>(h.obj b i H).aY (λ_ _ x=>x) (by rw[he]),λb i H=>(by rw[he];exact h.lt b i H),h.inj,h.kz⟩
theorem Ev.of_heap(h:eN P σ m w)(he:w'.heap=w.heap)(H:w'.os=w.os)(ht:w'.tape=w.tape)(hu:w'.output=w.output):Ev P σ m w σ m w':=⟨λ_ _ x=>x,h.of_heap he,aa4 _,aa4 _,(by grind),λb i x y=>(by grind),λ_ _ _=>rfl,λ_ _ _=>(by rw[he]),H,ht,hu⟩
end
end
section
section
variable {E:Env} {P:Program}
structure TIF(P:Program)(t:TypeId)(ti:TI)(i:TypeInfo)(u:TypeDesc):Prop where
 info:P.info? t=some i
 fa:P.underlying t=some u
 d:ti.d=ij P u
 size:ti.size=i.size
 bytes:ti.bytes=i.bytes
 zero:ti.zero=i.zero
 es:ti.es=zg P u
 cmp:ti.cmp=IC P t u
theorem Env.OK.lS(hE:E.OK P){t:TypeId}{ti:TI}(h:E.ty.get t=some ti):∃i u,TIF P t ti i u:=by
 have h:=hE.ty t ti h
 unfold Ua at h
 cases hi:P.info? t with
 |none=>rw[hi]at h;simp at h
 |some i=>
  cases hu:P.underlying t with
  |none=>rw[hi,hu]at h;simp at h
  |some u=>rw[hi,hu]at h;simp only[Option.bind_eq_bind,acC,abf]at h;subst h;exact⟨i,u,hi,hu,rfl,rfl,rfl,rfl,rfl,rfl⟩
theorem bw.fD{σ:Sg}{v:aeM}(h:bB v):bw σ v v:=by
 cases v with
 |tuple H=>refine .tuple _ _ rfl λj u u' a b=>?_;rw[a]at b;cases b;exact .jG (abw.1 h u (by grind))
 |_=>exact .jG h
theorem Env.OK.flat(hE:E.OK P){t:TypeId}{ti:TI}{z:aeM}(h:E.ty.get t=some ti)(hz:ti.zero=some z):bB z:=by
 have H:=hE.Fe
 unfold Env.Fe at H
 simp only[abc]at H
 have:=abw.1 H.1 _ (Tr.get_mem E.ty t 1 0 h)
 grind
theorem Env.OK.fld(hE:E.OK P){t:TypeId}{ti:TI}{fs:List Fd}{f:Fd}(h:E.ty.get t=some ti)(hd:ti.d=.struct fs)(hf:f∈fs):∃H,E.ty.get f.ty=some H/\H.size=f.size:=by
 have hc:=hE.Fe
 unfold Env.Fe at hc
 simp only[abc]at hc
 have:=abw.1 hc.1 _ (Tr.get_mem E.ty t 1 0 h)
 simp only[abc,hd]at this
 have h2:=abw.1 this.2 f hf
 cases hg:E.ty.get f.ty with
 |none=>rw[hg]at h2;simp at h2
 |some H=>rw[hg]at h2;exact⟨H,rfl,by simpa using h2⟩
theorem Env.OK.code(hE:E.OK P){f:FuncId}{fn:Func}(h:E.fn.get f=some fn):mw P.globals.size fn:=by
 have H:=hE.Fe
 unfold Env.Fe at H
 simp only[abc]at H
 have:=abw.1 H.2.1 _ (Tr.get_mem E.fn f 1 0 h)
 rw[hE.G]at this
 grind
theorem Env.OK.Yu(hE:E.OK P){f:FuncId}{d:Tf}(h:E.df.get f=some d):mw P.globals.size d.fn:=by
 have H:=hE.Fe
 unfold Env.Fe at H
 simp only[abc]at H
 have:=abw.1 H.2.2.1 _ (Tr.get_mem E.df f 1 0 h)
 rw[hE.G]at this
 grind
theorem Env.OK.Yv(hE:E.OK P){f:FuncId}{d:SA}(h:E.cl.get f=some d):mw P.globals.size d.fn:=by
 have H:=hE.Fe
 unfold Env.Fe at H
 simp only[abc]at H
 have:=abw.1 H.2.2.2 _ (Tr.get_mem E.cl f 1 0 h)
 rw[hE.G]at this
 grind
theorem qy{u:TypeDesc}(h:ij P u=.bool):u=.bool:=by cases u <;>simp[ij]at h⊢
theorem lg{u:TypeDesc}{k:IntKind}(h:ij P u=.int k):u=.int k:=by cases u <;>simp[ij]at h⊢;exact h
theorem iH{u:TypeDesc}(h:ij P u=.str):u=.string:=by cases u <;>simp[ij]at h⊢
theorem dj{u:TypeDesc}{e:Nat}(h:ij P u=.slice e):u=.slice e:=by cases u <;>simp[ij]at h⊢;exact h
theorem jj{u:TypeDesc}{n e:Nat}(h:ij P u=.array n e):u=.array n e:=by cases u <;>simp[ij]at h⊢;exact h
theorem kZ{u:TypeDesc}{k e:Nat}(h:ij P u=.map k e):u=.map k e:=by cases u <;>simp[ij]at h⊢;exact h
theorem vd{u:TypeDesc}(h:ij P u=.func):∃a b c,u=.func a b c:=by cases u <;>simp[ij]at h⊢
def tB(P:Program)(f:Field):Fd:=⟨f.type,f.offset,((P.info? f.type).map (·.size)).getD 0,f.name== "_" ||(P.info? f.type).isNone⟩
theorem DY{u:TypeDesc}{e:Nat}(h:ij P u=.ptr e):u=.pointer e:=by cases u <;>simp[ij]at h⊢;exact h
theorem yG{u:TypeDesc}{b:Bool}(h:ij P u=.iface b):∃ms:Array (String×TypeId),u=.interface ms/\ms.isEmpty=b:=by cases u <;>simp[ij]at h⊢;exact h
theorem fX{u:TypeDesc}{H:List Fd}(h:ij P u=.struct H):∃gs:Array Field,u=.struct gs/\H=gs.toList.map (tB P):=by
 cases u <;>simp[ij]at h
 exact⟨_,rfl,h.symm⟩
theorem tA(u:TypeDesc)(w:World)(t:TypeId)(h:P.underlying t=some u):(isAgg t).run P w=.ok (ij P u).agg w:=by unfold isAgg;rw[abo,abj h,abg];cases u <;>rfl
theorem run_typeInfo{t:TypeId}{i:TypeInfo}(h:P.info? t=some i)(w:World):(typeInfo t).run P w=.ok i w:=by simp[typeInfo,program,Sem.run,h]
theorem run_sizeOf{t:TypeId}{i:TypeInfo}(h:P.info? t=some i)(w:World):(sizeOf t).run P w=.ok i.size w:=by unfold sizeOf;rw[abo,run_typeInfo h];rfl
theorem dC{t:TypeId}{i:TypeInfo}{z:aeM}(h:P.info? t=some i)(H:i.zero=some z)(w:World):(zeroValue t).run P w=.ok z w:=by unfold zeroValue;rw[abo,run_typeInfo h,abg];simp[H]
variable {σ:Sg} {m m':M} {w:World}
theorem eN.cells(h:eN P σ m w){b:Nat}{i:BI}(H:σ b=some i){c:aeN}{e:TypeId}{g:Option Nat}(hg:m.get b=.cells c e g):
  ∃c':Array aeM,w.heap[i.cI]?=some (.cells c' e (0,0))/\c.length<=c'.size/\bK σ c (c'.toList.take c.length)/\WL i c.length c'.size g:=by have:=h.obj b i H;rw[hg]at this;exact this
theorem eN.ro(h:eN P σ m w){b:Nat}{i:BI}(hb:σ b=some i){c:aeN}(hg:m.get b=.ro c):
  ∃(c':Array aeM) (e':TypeId) (fz:Nat×Nat),w.heap[i.cI]?=some (.cells c' e' fz)/\c.length<=c'.size/\∀(j:Nat) u H,c[j]?=some u->c'[j]?=some H->one u->bw σ u H:=by have:=h.obj b i hb;rw[hg]at this;exact this.2
theorem dW(b o n:Nat):(⟨b,o,none⟩:Addr).add n=⟨b,o+n,none⟩:=by unfold Addr.add;split <;>simp_all
theorem gX(hs:eN P σ m w){a:Addr}{i:BI}(ha:σ a.block=some i){n:Nat}{cs:aeN}(h:loadCells m a n=some cs):
  ∃a0:aeN,(Go.loadCells ⟨i.cI,a.off,none⟩ n).run P w=.ok a0.toArray w/\bK σ cs a0/\cs.length=n/\a.spot=none:=by
 unfold loadCells at h;split at h
 ·rename_i c e g hg
  cases H:(a.spot.isNone && Nat.ble (a.off+n) c.length)with
  |false=>rw[H]at h;simp at h
  |true=>
   rw[H]at h
   simp only[cond_true,abf]at h
   subst h
   simp only[abc]at H
   have hle:=abB H.2
   have⟨c',h1,h2,h3,_⟩:=hs.cells ha hg
   have hlen:((c.drop a.off).take n).length=n:=by grind
   refine⟨((c'.toList.take c.length).drop a.off).take n,?_,(h3.drop _).take _,hlen,by simp_all⟩
   have:=run_loadCells_list (P:=P) w ⟨i.cI,a.off,none⟩ (((c'.toList.take c.length).drop a.off).take n) (λj v hj=>by
    rw[dW]
    have b0:j < n:=by
     grind
    simp only[World.cell?,h1]
    grind)
   grind
 ·rename_i c hg
  cases H:(a.spot.isNone && Nat.ble (a.off+n) c.length && ((c.drop a.off).take n).all one)with
  |false=>rw[H]at h;simp at h
  |true=>
   rw[H]at h
   simp only[cond_true,abf]at h
   subst h
   simp only[abc]at H
   have hle:=abB H.1.2
   have⟨c',e',fz,h1,h2,h3⟩:=hs.ro ha hg
   have hlen:((c.drop a.off).take n).length=n:=by grind
   have hr:bK σ ((c.drop a.off).take n) ((c'.toList.drop a.off).take n):=⟨by grind,λj u u' x y=>by
    grind⟩
   refine⟨(c'.toList.drop a.off).take n,?_,hr,hlen,by simp_all⟩
   have:=run_loadCells_list (P:=P) w ⟨i.cI,a.off,none⟩ ((c'.toList.drop a.off).take n) (λj v hj=>by
    rw[dW]
    have b0:j < n:=by
     grind
    simp only[World.cell?,h1]
    grind)
   grind
 cases h
theorem CN(hs:eN P σ m w){a:Addr}{i:BI}(ha:σ a.block=some i){v:aeM}(h:cellAt m a=some v):
  ∃v',w.cell? ⟨i.cI,a.off,none⟩=some v'/\bw σ v v'/\a.spot=none:=by
 unfold cellAt at h;split at h
 ·rename_i c e g hg;by_cases b0:a.spot.isNone=true
  ·rw[abe b0]at h;have⟨c',h1,h2,h3,_⟩:=hs.cells ha hg;have⟨u',hu,hr⟩:=h3.get h;have d0:=(aa9.1 h).1;rw[acy d0]at hu;exact⟨u',by simp only[World.cell?,h1];simpa using hu,hr,by simp_all⟩
  ·grind
 ·rename_i c hg;by_cases b0:a.spot.isNone=true
  ·rw[abe b0]at h
   have⟨c',e',fz,h1,h2,h3⟩:=hs.ro ha hg
   cases hx:c[a.off]? with
   |none=>rw[hx]at h;cases h
   |some u=>
    rw[hx]at h
    dsimp only at h
    cases H:one u with
    |false=>rw[H]at h;cases h
    |true=>
     rw[H]at h;simp only[cond_true,abf]at h;subst h;have d0:=(aa9.1 hx).1;have a0:a.off < c'.size:=by omega
     exact⟨c'[a.off],by simp only[World.cell?,h1];simp[a0],h3 _ _ _ hx (Array.getElem?_eq_getElem a0) H,by simp_all⟩
  ·grind
 cases h
theorem re(hE:E.OK P)(hs:eN P σ m w){t:TypeId}{a:Addr}{i:BI}(ha:σ a.block=some i){v:aeM}(h:loadVar E m t a=some v):
  ∃v',(Go.loadVar t ⟨i.cI,a.off,none⟩).run P w=.ok v' w/\bw σ v v'/\a.spot=none:=by
 unfold loadVar at h;split at h
 ·rename_i ti a0
  have⟨inf,u,f⟩:=hE.lS a0
  unfold Go.loadVar
  rw[abo,tA u w t f.fa,abg,<-f.d]
  cases H:ti.d.agg with
  |true=>rw[H]at h;simp only[cond_true,abq]at h;obtain⟨cs,b0,rfl⟩:=h;have⟨d0,h1,h2,_,h4⟩:=gX hs ha b0;refine⟨.agg d0.toArray,?_,h2.agg,h4⟩;simp only[acU,abo,run_sizeOf f.info,abg];rw[<-f.size,h1];rfl
  |false=>
   rw[H]at h
   simp only[abm]at h
   have⟨v',h1,h2,h3⟩:=CN hs ha h
   simp_all
 cases h
theorem Fv{σ:Sg}{c c' vs H:aeN}{o:Nat}(hl:c.length<=c'.length)(h:bK σ c (c'.take c.length))(hv:bK σ vs H)(ho:o+vs.length<=c.length):
  bK σ (c.take o++(vs++c.drop (o+vs.length))) ((c'.take o++H++c'.drop (o+H.length)).take c.length):=by
 have e:(c'.take o++H++c'.drop (o+H.length)).take c.length=(c'.take c.length).take o++(H++(c'.take c.length).drop (o+H.length)):=by
  have a0:=hv.1
  rw[abL,adM,adM,aep,acr]
  have h1:min o c'.length=o:=by omega
  have h2:List.take c.length (List.take o c')=List.take o c':=by grind
  rw[h1,aby (l:=H) (by omega),aep]
  congr 1
  ·grind
  ·congr 1
   rw[List.take_drop]
   grind
 rw[e,<-hv.1];exact(h.take o).append (hv.append (h.drop _))
theorem gB(hs:eN P σ m w){a:Addr}{i:BI}(ha:σ a.block=some i){vs H:aeN}(hv:bK σ vs H)(h:storeCells m a vs=some m'):
  ∃w',(Go.storeCells ⟨i.cI,a.off,none⟩ H).run P w=.ok () w'/\Ev P σ m w σ m' w'/\a.spot=none/\∀B,B≠i.cI->w'.heap[B]?=w.heap[B]?:=by
 unfold storeCells at h;split at h
 ·rename_i c e g hg
  cases hc:(a.spot.isNone && Nat.ble (a.off+vs.length) c.length && vs.all one)with
  |false=>rw[hc]at h;simp at h
  |true=>
   rw[hc]at h;simp only[cond_true,abf]at h;subst h;simp only[abc]at hc;have hle:=abB hc.1.2;have⟨c',h1,h2,h3,h4⟩:=hs.cells ha hg;have b0:=hv.fB hc.2;have a0:=run_storeCells_at (P:=P) i.cI a.off e H 0 c' w h1 (by rw[<-hv.1];omega) b0;simp only[acY]at a0
   have d0:∀B,B≠i.cI->(w.setRow i.cI (c'.toList.take a.off++H++c'.toList.drop (a.off+H.length)).toArray).heap[B]?=w.heap[B]?:=by
    intro B hB
    simp only[World.setRow,adN]
    grind
   refine⟨_,a0,?_,by simp_all,d0⟩
   have hlen:(c'.toList.take a.off++H++c'.toList.drop (a.off+H.length)).length=c'.size:=by
    have:=hv.1
    grind
   refine Ev.write hs ha (by grind) ?_ ?_ ?_ rfl rfl rfl
   ·have e0:(c.take a.off++(vs++c.drop (a.off+vs.length))).length=c.length:=by grind
    refine⟨_,setRow_heap w i.cI c' _ e _ h1,?_,?_,?_⟩
    ·grind
    ·rw[e0];exact Fv (by grind) h3 hv (by omega)
    ·grind
   ·grind
   ·simp_all
 cases h
theorem oV(hE:E.OK P)(hs:eN P σ m w){t:TypeId}{a:Addr}{i:BI}(ha:σ a.block=some i){v v':aeM}(hv:bw σ v v')(h:storeVar E m t a v=some m'):
  ∃w',(Go.storeVar t ⟨i.cI,a.off,none⟩ v').run P w=.ok () w'/\Ev P σ m w σ m' w'/\a.spot=none/\∀B,B≠i.cI->w'.heap[B]?=w.heap[B]?:=by
 unfold storeVar at h;split at h
 ·rename_i ti a0
  have⟨inf,u,f⟩:=hE.lS a0
  have hc:=hv.cells
  cases H:Nat.beq (cells v).length ti.size with
  |false=>rw[H]at h;simp at h
  |true=>
   rw[H]at h
   simp only[cond_true]at h
   have he:=abn H
   have⟨w',h1,h2,h3⟩:=gB hs ha hc h
   refine⟨w',?_,h2,h3⟩
   unfold Go.storeVar
   rw[abo,run_sizeOf f.info,abg]
   have hl:v'.cells.size=inf.size:=by rw[<-f.size,<-he,hc.1];simp
   grind
 cases h
end
end
section
section
variable {E:Env} {P:Program} {w:World}
theorem gh:∀{H:List Kd} {xs ys:aeN} {b:Bool},cm H xs ys=some b->xs.length=H.length/\ys.length=H.length
 |[],[],[],_,_=>⟨rfl,rfl⟩
 |[],[],_::_,_,h=>by simp[cm]at h
 |[],_::_,_,_,h=>by simp[cm]at h
 |_::_,[],_,_,h=>by simp[cm]at h
 |_::_,_::_,[],_,h=>by simp[cm]at h
 |k::H,a::x,c::y,b,h=>by
  unfold cm at h
  split at h
  ·rename_i h1
   have⟨e1,e2⟩:=gh h1
   grind
  ·cases h
theorem lE:∀{H k2:List Kd} {xs ys:aeN} {b:Bool},cm (H++k2) xs ys=some b->
  ∃b1 b2,cm H (xs.take H.length) (ys.take H.length)=some b1/\cm k2 (xs.drop H.length) (ys.drop H.length)=some b2/\b=(b1 && b2)
 |[],_,_,_,b,h=>⟨true,b,by simp[cm],by grind,by simp⟩
 |k::H,k2,[],_,_,h=>by simp[cm]at h
 |k::H,k2,_::_,[],_,h=>by simp[cm]at h
 |k::H,k2,a::x,c::y,b,h=>by
  simp only[aci,cm]at h
  split at h
  ·rename_i b0 r h0 h1
   have⟨c1,c2,e1,e2,e3⟩:=lE h1
   simp only[abf]at h
   exact⟨b0 && c1,c2,by simp[cm,h0,e1],by grind,by grind⟩
  ·cases h
def valOf(u:TypeDesc)(cs:aeN):aeM:=
 match u with
 |.struct _ |.array _ _=> .agg cs.toArray
 |_=>cs.headD undef
def IT:TypeDesc->Nat->Prop
 |.struct _,_=>True
 |.array _ _,_=>True
 |_,n=>n=1
theorem ru(H:List Kd):∀n:Nat,(nX H n).length=n*H.length
 |0=>by simp[nX]
 |n+1=>by unfold nX;rw[abO,ru H n,acg];omega
theorem sM{t:TypeId}{i:TypeInfo}{u:TypeDesc}(hi:P.info? t=some i)(hu:P.underlying t=some u)(cs:aeN)(off:Nat)(h:off+i.size<=cs.length)
  (h1:IT u i.size):(Go.part t cs.toArray off).run P w=.ok (valOf u ((cs.drop off).take i.size)) w:=by
 have H:cs.toArray.extract off (off+i.size)=((cs.drop off).take i.size).toArray:=by
  grind
 have b0:=tA (P:=P) u w t hu
 unfold Go.part
 rw[abo,b0,abg]
 have basic:(ij P u).agg=false->i.size=1->valOf u ((cs.drop off).take i.size)=cs[off]?.getD undef->
   (if(ij P u).agg=true then do let n<-sizeOf t;pure (Value.agg (cs.toArray.extract off (off+n)))else match cs.toArray[off]? with |some v=>pure v |none=>stuck "part: no such cell" :Sem aeM).run P w=.ok (valOf u ((cs.drop off).take i.size)) w:=by
  intro ha hs hv
  have a0:off < cs.length:=by omega
  simp_all
 have head:i.size=1->((cs.drop off).take i.size).headD undef=cs[off]?.getD undef:=by
  intro hs
  have a0:off < cs.length:=by omega
  rw[hs,ab1 a0,aa5 a0]
  rfl
 cases u with
 |struct fs=>
  have:(ij P (.struct fs)).agg:=rfl
  simp only[this,acU,abo,run_sizeOf hi,abg,abD,H,valOf]
 |array n e=>
  have:(ij P (.array n e)).agg:=rfl
  simp only[this,acU,abo,run_sizeOf hi,abg,abD,H,valOf]
 |_=>exact basic rfl h1 (head h1)
theorem CE{d:Nat}{t:TypeId}{k:Kd}{u:TypeDesc}(hu:P.underlying t=some u)(hk:(u=.bool/\k=.b)\/((∃q,u=.int q)/\k=.i)\/(u=.string/\k=.s)){x y:aeM}{b:Bool}
  (h:It k x y=some b):(Op.equalIn (d+1) t x y).run P w=.ok b w:=by
 rcases hk with⟨rfl,rfl⟩ |⟨⟨q,rfl⟩,rfl⟩ |⟨rfl,rfl⟩
 ·cases x <;>cases y <;>simp[It]at h
  subst h;simp[Op.equalIn,abj hu]
 ·cases x <;>cases y <;>simp[It]at h
  obtain⟨rfl,rfl⟩:=h;simp[Op.equalIn,abj hu]
 cases x <;>cases y <;>simp[It]at h
 subst h;simp[Op.equalIn,abj hu]
theorem rG{t:TypeId}{r:Option (List Kd)}{H:List Kd}(h:sized P t r=some H):∃i,P.info? t=some i/\r=some H/\H.length=i.size:=by
 unfold sized at h
 grind
theorem yY(d:Nat)(xs ys:aeN)
  (ih:∀(t:TypeId) (ks:List Kd) (u:TypeDesc) (x y:aeN) (b:Bool),lI P d t=some ks->P.underlying t=some u->cm ks x y=some b->∀K,d<=K->(Op.equalIn K t (valOf u x) (valOf u y)).run P w=.ok b w)
  (K:Nat) (hK:d<=K):∀(fs:List Field) (off:Nat) (ks:List Kd) (b:Bool),kinds (lI P d) fs off=some ks->cm ks (xs.drop off) (ys.drop off)=some b->
   off+ks.length=xs.length->off+ks.length=ys.length->(Op.eqFields K xs.toArray ys.toArray fs).run P w=.ok b w
 |[],off,ks,b,h,he,_,_=>by
  simp only[kinds,abf]at h
  subst h
  have:=(gh he)
  have e1:xs.drop off=[]:=acu (by grind)
  have e2:ys.drop off=[]:=acu (by grind)
  rw[e1,e2]at he
  simp only[cm,abf]at he
  subst he
  simp[Op.eqFields]
 |f::fs,off,ks,b,h,he,hx,hy=>by
  unfold kinds at h
  by_cases hn:f.name= "_"
  ·grind
  ·rw[abd hn]at h
   by_cases ho:f.offset=off
   ·rw[abe ho]at h
    split at h
    ·rename_i k1 a0
     split at h
     ·rename_i r hr
      cases h
      obtain⟨b1,b2,e1,e2,rfl⟩:=lE he
      cases d with
      |zero=>simp[lI]at a0
      |succ d=>
       have b0:=a0
       unfold lI at a0
       have⟨i,hi,H,hlen⟩:=rG a0
       cases hu:P.underlying f.type with
       |none=>rw[hu]at H;simp at H
       |some u=>
        simp only[abO]at hx hy
        have h1:IT u i.size:=by
         rw[hu]at H
         cases u <;>simp at H <;>first |trivial |(subst H;exact hlen.symm)
        have p1:=sM (w:=w) hi hu xs f.offset (by omega) h1
        have p2:=sM (w:=w) hi hu ys f.offset (by omega) h1
        have q:=ih f.type k1 u _ _ b1 b0 hu (by rw[hlen]at e1;exact e1) K hK
        simp only[ac2]at e2
        unfold Op.eqFields
        rw[abe hn]
        simp only[abo,p1,p2,abg]
        rw[ho,q]
        have rest:=yY (d+1) xs ys ih K hK fs (off+k1.length) r b2 hr e2 (by omega) (by omega)
        cases b1
        ·simp
        ·simp[rest]
     ·cases h
    ·cases h
   ·grind
theorem AQ(d:Nat)(xs ys:aeN)(e:TypeId)(i:TypeInfo)(hi:P.info? e=some i)(u:TypeDesc)(hu:P.underlying e=some u)(H:List Kd)(a0:lI P d e=some H)(hl:H.length=i.size) (h1:IT u i.size) (ih:∀(t:TypeId) (ks:List Kd) (u:TypeDesc) (x y:aeN) (b:Bool),lI P d t=some ks->P.underlying t=some u->cm ks x y=some b->∀K,d<=K->(Op.equalIn K t (valOf u x) (valOf u y)).run P w=.ok b w)
  (K:Nat) (hK:d<=K):∀(n j:Nat) (b:Bool),cm (nX H n) (xs.drop (j*i.size)) (ys.drop (j*i.size))=some b->(j+n)*i.size=xs.length->(j+n)*i.size=ys.length->(Op.eqItems K e i.size xs.toArray ys.toArray (List.range' j n)).run P w=.ok b w
 |0,j,b,he,hx,hy=>by
  simp only[acY]at hx hy
  rw[hx,adK,<-hx,hy,adK]at he
  simp only[nX,cm,abf]at he
  subst he
  simp[Op.eqItems]
 |n+1,j,b,he,hx,hy=>by
  unfold nX at he
  obtain⟨b1,b2,e1,e2,rfl⟩:=lE he
  have hmul:(j+(n+1))*i.size=j*i.size+i.size+n*i.size:=by
   grind
  have p1:=sM (w:=w) hi hu xs (j*i.size) (by omega) h1
  have p2:=sM (w:=w) hi hu ys (j*i.size) (by omega) h1
  have q:=ih e H u _ _ b1 a0 hu (by rw[hl]at e1;exact e1) K hK
  rw[ac2,ac2,hl]at e2
  have hj:j*i.size+i.size=(j+1)*i.size:=by grind
  rw[hj]at e2
  have rest:=AQ d xs ys e i hi u hu H a0 hl h1 ih K hK n (j+1) b2 e2 (by grind) (by grind)
  rw[List.range'_succ]
  unfold Op.eqItems
  simp only[abo,p1,p2,abg,q]
  cases b1
  ·simp
  ·grind
theorem CM:∀(d:Nat) (t:TypeId) (ks:List Kd) (u:TypeDesc) (xs ys:aeN) (b:Bool),lI P d t=some ks->P.underlying t=some u->cm ks xs ys=some b->
  ∀K,d<=K->(Op.equalIn K t (valOf u xs) (valOf u ys)).run P w=.ok b w
 |0,_,_,_,_,_,_,h,_,_,_,_=>by simp[lI]at h
 |d+1,t,ks,u,xs,ys,b,h,hu,he,K,hK=>by
  obtain⟨K,rfl⟩:∃K',K=K'+1:=⟨K-1,by omega⟩
  unfold lI at h
  have⟨i,hi,H,hlen⟩:=rG h
  rw[hu]at H
  have one:∀k,ks=[k]->∃x y,xs=[x]/\ys=[y]/\It k x y=some b:=by
   intro k hk
   subst hk
   have:=gh he
   match xs,ys,this,he with
   |[x],[y],_,he=>
    refine⟨x,y,rfl,rfl,?_⟩
    simp only[cm]at he
    grind
  cases u with
  |bool=>
   simp only[abf]at H
   obtain⟨x,y,rfl,rfl,hk⟩:=one _ H.symm
   exact CE hu (.inl ⟨rfl,rfl⟩) hk
  |int q=>
   simp only[abf]at H
   obtain⟨x,y,rfl,rfl,hk⟩:=one _ H.symm
   exact CE hu (.inr (.inl ⟨⟨q,rfl⟩,rfl⟩)) hk
  |string=>
   simp only[abf]at H
   obtain⟨x,y,rfl,rfl,hk⟩:=one _ H.symm
   exact CE hu (.inr (.inr ⟨rfl,rfl⟩)) hk
  |struct fs=>
   simp only at H
   by_cases i0:P.stoodInHeld t=true
   ·grind
   ·rw[abd i0]at H
    have j0:P.fieldsOf t=fs:=by unfold Program.fieldsOf;rw[hu]
    have k0:=gh he
    have:=run_equalIn_struct (P:=P) w K t xs.toArray ys.toArray (by grind) (by grind)
    rw[j0]at this
    show(Op.equalIn (K+1) t (.agg xs.toArray) (.agg ys.toArray)).run P w=_
    rw[this]
    exact yY d xs ys (λt ks u x y b=>CM d t ks u x y b) K (by omega) fs.toList 0 ks b H (by grind) (by omega) (by omega)
  |array n e=>
   simp only at H
   split at H
   ·rename_i k1 d0
    by_cases hn:n*k1.length<=64
    ·rw[abe hn]at H
     cases H
     have k0:=gh he
     cases d with
     |zero=>simp[lI]at d0
     |succ d=>
      have h0:=d0
      unfold lI at d0
      have⟨ie,e0,b0,a0⟩:=rG d0
      cases g0:P.underlying e with
      |none=>rw[g0]at b0;simp at b0
      |some ue=>
       have h1:IT ue ie.size:=by
        rw[g0]at b0
        cases ue <;>simp at b0 <;>first |trivial |(subst b0;exact a0.symm)
       have n0:(nX k1 n).length=n*ie.size:=by rw[<-a0];exact ru k1 n
       have l0:P.cellsOf e=ie.size:=by unfold Program.cellsOf;rw[e0];rfl
       have:=run_equalIn_array (P:=P) w K xs.toArray ys.toArray hu e0
       rw[l0]at this
       show(Op.equalIn (K+1) t (.agg xs.toArray) (.agg ys.toArray)).run P w=_
       rw[this,aes]
       exact AQ (d+1) xs ys e ie e0 ue g0 k1 h0 a0 h1 (λt ks u x y b=>CM (d+1) t ks u x y b) K (by omega) n 0 b (by grind) (by grind) (by grind)
    ·grind
   ·cases H
  |_=>simp at H
end
end
section
section
variable {E:Env} {P:Program} {σ:Sg} {m m':M} {w:World}
theorem bw.int{k:IntKind}{n:Int}{v':aeM}(h:bw σ (.int k n) v'):v'=.int k n:=h.bM rfl
theorem bw.bool{b:Bool}{v':aeM}(h:bw σ (.bool b) v'):v'=.bool b:=h.bM rfl
theorem bw.string{s:ByteArray}{v':aeM}(h:bw σ (.string s) v'):v'=.string s:=h.bM rfl
theorem bw.gW{a:Addr}{v':aeM}(h:bw σ (.pointer (some a)) v'):∃i,σ a.block=some i/\a.spot=none/\v'=aeK i.cI a.off:=by
 cases h with
 |flat _ h=>simp[bF]at h
 |ptr _ i h H=>exact⟨i,h,H,rfl⟩
theorem bw.dL{a:Addr}{n c:Nat}{v':aeM}(h:bw σ (.slice (some a) n c) v'):∃(i:BI) (a':Addr) (c':Nat),σ a.block=some i/\v'=.slice (some a') n c'/\
  ((a.spot=none/\a'=⟨i.cI,a.off,none⟩/\((i.gr=none/\c'=c)\/∃k sz N,i.gr=some (k,sz,N)/\(c'=c\/(c<=c'/\a.off+c*k=sz/\a.off+c'*k=N))))\/(n=0/\c=0/\∃k sz N,i.gr=some (k,sz,N)/\a.off=sz)):=by
 cases h with
 |flat _ h=>simp[bF]at h
 |slice _ i _ _ h hs H=>exact⟨i,_,_,h,rfl,.inl ⟨hs,rfl,.inl ⟨H,rfl⟩⟩⟩
 |iC _ i _ _ c' k sz N h hs H hc=>exact⟨i,_,_,h,rfl,.inl ⟨hs,rfl,.inr ⟨k,sz,N,H,hc⟩⟩⟩
 |empty _ a' i c' k sz N h H ho=>exact⟨i,a',c',h,rfl,.inr ⟨rfl,rfl,k,sz,N,H,ho⟩⟩
theorem bw.eS{n c:Nat}{v':aeM}(h:bw σ (.slice none n c) v'):n=0/\c=0/\v'=aeQ:=by
 cases h with
 |flat _ h=>
  unfold bF at h
  grind
theorem bw.nL{r:Nat}{v':aeM}(h:bw σ (.map (some r)) v'):∃i,σ r=some i/\v'=.map (some i.cI):=by
 cases h with
 |flat _ h=>simp[bF]at h
 |map _ i h=>exact⟨i,h,rfl⟩
theorem bw.uH{b:Option Addr}{n c:Nat}{v':aeM}(h:bw σ (.slice b n c) v'):∃H c',v'=.slice H n c'/\H.isNone=b.isNone:=by
 cases b with
 |none=>obtain⟨rfl,rfl,rfl⟩:=h.eS;exact⟨_,_,rfl,rfl⟩
 |some a=>obtain⟨_,a',c',_,rfl,_⟩:=h.dL;exact⟨_,_,rfl,rfl⟩
theorem bw.Rj{b:Option Nat}{v':aeM}(h:bw σ (.map b) v'):∃H,v'=.map H/\H.isNone=b.isNone:=by
 cases b with
 |none=>exact⟨_,h.bM rfl,rfl⟩
 |some r=>
  cases h with
  |flat _ h=>simp[bF]at h
  |map _ i h=>exact⟨_,rfl,rfl⟩
theorem bw.HA{b:Option Addr}{v':aeM}(h:bw σ (.pointer b) v'):∃H,v'=.pointer H/\H.isNone=b.isNone:=by
 cases b with
 |none=>exact⟨_,h.bM rfl,rfl⟩
 |some r=>obtain⟨_,_,_,rfl⟩:=h.gW;exact⟨_,rfl,rfl⟩
theorem bw.map_nil{v':aeM}(h:bw σ (.map none) v'):v'=.map none:=h.bM rfl
theorem bw.kC{a:Array aeM}{v':aeM}(h:bw σ (.agg a) v'):∃H:Array aeM,v'=.agg H/\bK σ a.toList H.toList:=by
 cases h with
 |flat _ h=>simp[bF]at h
 |agg _ H ha h1=>exact⟨H,rfl,by grind,λj u u' x y=>h1 j u u' (by grind) (by grind)⟩
theorem bw.uD{a:Array aeM}{v':aeM}(h:bw σ (.tuple a) v'):∃H:Array aeM,v'=.tuple H/\bK σ a.toList H.toList:=by
 cases h with
 |flat _ h=>simp[bF]at h
 |tuple _ H ha h1=>exact⟨H,rfl,by grind,λj u u' x y=>h1 j u u' (by grind) (by grind)⟩
theorem bw.yX{f:FuncId}{a b:Array aeM}{v':aeM}(h:bw σ (.func (.func f) a b) v'):∃H b':Array aeM,v'=.func (.func f) H b'/\bK σ a.toList H.toList/\bK σ b.toList b'.toList:=by
 cases h with
 |flat _ h=>simp[bF]at h;obtain⟨rfl,rfl⟩:=h;exact⟨_,_,rfl,bK.nil,bK.nil⟩
 |func _ _ _ H b' ha hb h1 h2=>exact⟨H,b',rfl,⟨by grind,λj u u' x y=>h1 j u u' (by grind) (by grind)⟩,⟨by grind,λj u u' x y=>h2 j u u' (by grind) (by grind)⟩⟩
theorem PF{k:Kd}{x y x' y':aeM}{b:Bool}(h:It k x y=some b)(H:bw σ x x')(hy:bw σ y y'):x'=x/\y'=y:=by
 unfold It at h;split at h;·exact⟨H.bool,hy.bool⟩
 ·exact⟨H.int,hy.int⟩
 ·exact⟨H.string,hy.string⟩
 cases h
theorem tU:∀{ks:List Kd} {x y H y':aeN} {b:Bool},cm ks x y=some b->bK σ x H->bK σ y y'->H=x/\y'=y
 |[],[],[],_,_,_,_,hx,hy=>⟨hx.nil_eq,hy.nil_eq⟩
 |[],[],_::_,_,_,_,h,_,_=>by simp[cm]at h
 |[],_::_,_,_,_,_,h,_,_=>by simp[cm]at h
 |_::_,[],_,_,_,_,h,_,_=>by simp[cm]at h
 |_::_,_::_,[],_,_,_,h,_,_=>by simp[cm]at h
 |k::ks,a::x,c::y,H,y',b,h,hx,hy=>by
  obtain⟨a',x1,rfl,ha,a0⟩:=hx.cases
  obtain⟨c',y1,rfl,hc,b0⟩:=hy.cases
  unfold cm at h
  split at h
  ·rename_i h1 h2
   have⟨q1,q2⟩:=PF h1 ha hc
   have⟨q3,q4⟩:=tU h2 a0 b0
   grind
  ·cases h
theorem Gq(hE:E.OK P){t:TypeId}{x y x' y':aeM}{b:Bool}(h:eq? E t x y=some b)(hx:bw σ x x')(hy:bw σ y y'){d:Nat}(H:12<=d+1):
  (Op.equalIn (d+1) t x' y').run P w=.ok b w:=by
 unfold eq? at h;split at h;·cases h
 rename_i ti d0;have⟨inf,u,f⟩:=hE.lS d0;rw[f.d]at h
 have b0:∀(xs ys:Array aeM) (ks:List Kd),x=.agg xs->y=.agg ys->ti.cmp=some ks->cm ks xs.toList ys.toList=some b->(∀cs,valOf u cs=.agg cs.toArray)->(Op.equalIn (d+1) t x' y').run P w=.ok b w:=by
  intro xs ys ks e1 e2 a0 he hv
  subst e1;subst e2
  obtain⟨a',rfl,ha⟩:=hx.kC
  obtain⟨c',rfl,hc⟩:=hy.kC
  have⟨q1,q2⟩:=tU he ha hc
  have e0:lI P 12 t=some ks:=by
   rw[f.cmp]at a0
   unfold IC at a0
   grind
  have:=CM (w:=w) 12 t ks u _ _ b e0 f.fa he (d+1) H
  simp_all
 split at h
 ·rename_i H;cases h;rw[hx.bool,hy.bool];simp[Op.equalIn,abj (f.fa.trans (by rw[qy H]))]
 ·rename_i H;split at h
  ·rename_i hk;subst hk;cases h;rw[hx.int,hy.int];simp[Op.equalIn,abj (f.fa.trans (by rw[lg H]))]
  cases h
 ·rename_i H;cases h;rw[hx.string,hy.string];simp[Op.equalIn,abj (f.fa.trans (by rw[iH H]))]
 ·rename_i H;obtain⟨gs,rfl,_⟩:=fX H;split at h
  ·rename_i ks a0;exact b0 _ _ ks rfl rfl a0 h (λ_=>rfl)
  cases h
 ·rename_i H;obtain rfl:=jj H;split at h
  ·rename_i ks a0;exact b0 _ _ ks rfl rfl a0 h (λ_=>rfl)
  cases h
 ·rename_i H;cases h;obtain⟨rfl,rfl,rfl⟩:=hx.eS;have hu:=f.fa.trans (by rw[dj H]);obtain⟨b',c',rfl,hb⟩:=hy.uH;rw[<-hb];simp[Op.equalIn,abj hu]
 ·rename_i H;cases h;obtain⟨rfl,rfl,rfl⟩:=hy.eS;obtain⟨_,a',c',_,rfl,_⟩:=hx.dL;have hu:=f.fa.trans (by rw[dj H]);simp[Op.equalIn,abj hu]
 ·rename_i H;cases h;rw[hx.map_nil];have hu:=f.fa.trans (by rw[kZ H]);obtain⟨b',rfl,hb⟩:=hy.Rj;rw[<-hb];simp[Op.equalIn,abj hu]
 ·rename_i H;cases h;rw[hy.map_nil];obtain⟨_,_,rfl⟩:=hx.nL;have hu:=f.fa.trans (by rw[kZ H]);simp[Op.equalIn,abj hu]
 ·rename_i H;cases h;obtain⟨a,c,e,rfl⟩:=vd H;rw[hx.bM rfl,hy.bM rfl];simp[Op.equalIn,abj f.fa]
 ·rename_i H;cases h;obtain⟨a,c,e,rfl⟩:=vd H;rw[hx.bM rfl];cases hy <;>simp[Op.equalIn,abj f.fa]
 ·rename_i H;cases h;obtain⟨a,c,e,rfl⟩:=vd H;rw[hy.bM rfl];cases hx <;>simp[Op.equalIn,abj f.fa]
 ·rename_i H;cases h;have hu:=f.fa.trans (by rw[DY H]);rw[hx.bM rfl];obtain⟨b',rfl,hb⟩:=hy.HA;rw[<-hb];simp[Op.equalIn,abj hu]
 ·rename_i H;cases h;have hu:=f.fa.trans (by rw[DY H]);rw[hy.bM rfl];obtain⟨_,_,_,rfl⟩:=hx.gW;simp[Op.equalIn,abj hu]
 ·rename_i H;cases h;obtain⟨ms,rfl,_⟩:=yG H;rw[hx.bM rfl,hy.bM rfl];simp[Op.equalIn,abj f.fa]
 cases h
theorem pS(hE:E.OK P){t:TypeId}{x y H y':aeM}{b:Bool}(h:eq? E t x y=some b)(hx:bw σ x H)(hy:bw σ y y'):(Op.equal t H y').run P w=.ok b w:=
 Gq hE h hx hy (d:=9999) (by omega)
theorem wi(hE:E.OK P){t:TypeId}{x y x' y':aeM}{b:Bool}(h:eq? E t x y=some b)(H:bw σ x x')(hy:bw σ y y')(op:BinOp)(xo yo:Operand):(eqGuard op t xo yo x' y').run P w=.ok () w:=by
 unfold eq? at h
 split at h
 ·cases h
 ·rename_i ti b0
  have⟨inf,u,f⟩:=hE.lS b0
  have calm:∀ks,ti.cmp=some ks->P.eqGuardType P.depth t=false:=by
   intro ks a0
   rw[f.cmp]at a0
   unfold IC at a0
   grind
  split at h
  ·rw[H.bool];rw[eqGuard_at_bool];rfl
  ·rw[H.int];rw[eqGuard_at_int];rfl
  ·rw[H.string];rw[eqGuard_at_string];rfl
  ·split at h
   ·rename_i ks a0
    obtain⟨a',rfl,ha⟩:=H.kC
    obtain⟨c',rfl,hc⟩:=hy.kC
    exact run_eqGuard_agg w op t xo yo a' c' (calm ks a0)
   ·cases h
  ·split at h
   ·rename_i ks a0
    obtain⟨a',rfl,ha⟩:=H.kC
    obtain⟨c',rfl,hc⟩:=hy.kC
    exact run_eqGuard_agg w op t xo yo a' c' (calm ks a0)
   ·cases h
  ·obtain⟨rfl,rfl,rfl⟩:=H.eS
   rw[eqGuard_at_slice];rfl
  ·obtain⟨_,a',c',_,rfl,_⟩:=H.dL
   rw[eqGuard_at_slice];rfl
  ·rw[H.map_nil,eqGuard_at_map];rfl
  ·obtain⟨_,_,rfl⟩:=H.nL
   rw[eqGuard_at_map];rfl
  ·rw[H.bM rfl,eqGuard_at_nilFunc];rfl
  ·rw[H.bM rfl,eqGuard_at_nilFunc];rfl
  ·cases H <;>(rw[eqGuard_at_func];rfl)
  ·rw[H.bM rfl]
   obtain⟨b',rfl,_⟩:=hy.HA
   unfold eqGuard;split <;>rfl
  ·obtain⟨_,_,_,rfl⟩:=H.gW
   unfold eqGuard;split <;>rfl
  ·rename_i hd
   rw[f.d]at hd
   obtain⟨ms,rfl,he⟩:=yG hd
   rw[H.bM rfl,hy.bM rfl]
   have hg:(Op.eqGuardIn (9999+1) t .nilIface .nilIface).run P w=.ok false w:=by
    unfold Op.eqGuardIn
    rw[abo,abj f.fa]
    simp_all
   have hg:(Op.eqGuardIn Op.maxDepth t .nilIface .nilIface).run P w=.ok false w:=hg
   generalize hG:Op.eqGuardIn Op.maxDepth t .nilIface .nilIface=G at hg
   have key:(do if<-G then unsupported (.noEntry "binop/eql: two nil values of an interface type with methods, neither of them the literal nil"):Sem Unit).run P w=.ok () w:=by
    simp_all
   unfold eqGuard
   simp_all
  ·cases h
end
end
section
section
variable {E:Env} {P:Program} {σ:Sg} {m m':M} {w:World}
def mz:aeM->Bool
 |.int _ _ |.float _ _ |.complex _ _ _ |.string _=>false
 |_=>true
theorem bw.mz{x H:aeM}(h:bw σ x H):mz H=mz x:=by cases h <;>rfl
theorem EG{t:TypeId}{x y:aeM}{b:Bool}(h:eq? E t x y=some b)(hi:∀k a k' b,x=.int k a->y=.int k' b->False)(hs:∀a b,x=.string a->y=.string b->False):mz x:=by
 unfold eq? at h
 cases H:E.ty.get t with
 |none=>rw[H]at h;simp at h
 |some ti=>
  rw[H]at h
  have⟨d,_,_,_,_,_⟩:=ti
  cases x with
  |int k a=>cases d <;>cases y <;>first |(simp at h;done) |exact(hi _ _ _ _ rfl rfl).elim
  |string a=>cases d <;>cases y <;>first |(simp at h;done) |exact(hs _ _ rfl rfl).elim
  |float k a=>cases d <;>simp at h
  |complex k a b=>cases d <;>simp at h
  |_=>rfl
theorem zA{t:TypeId}{x y:aeM}(h:mz x):binOp .eql t x y=(do pure (.bool (<-Op.equal t x y))):=by cases x <;>simp[mz]at h <;>cases y <;>rfl
theorem zz{t:TypeId}{x y:aeM}(h:mz x):binOp .neq t x y=(do pure (.bool (!(<-Op.equal t x y)))):=by cases x <;>simp[mz]at h <;>cases y <;>rfl
theorem GV{op:BinOp}{t:TypeId}{k:IntKind}{a b:Int}{v:aeM}(h:iR op k a b=some v):(binOp op t (.int k a) (.int k b)).run P w=.ok v w/\bF v:=by
 unfold iR at h;cases op <;>simp only[abf,reduceCtorEq]at h
 case quo=>
  split at h;·cases h
  cases h;rename_i H;exact⟨by simp[binOp,Op.intDiv,H],rfl⟩
 case rem=>
  split at h;·cases h
  cases h;rename_i H;exact⟨by simp[binOp,Op.intDiv,H],rfl⟩
 all_goals
  subst h
  exact⟨by simp[binOp,Op.intArith,Op.intBits,Op.intCmp],rfl⟩
theorem GS{op:BinOp}{t:TypeId}{a b:ByteArray}{v:aeM}(h:GU op a b=some v):(binOp op t (.string a) (.string b)).run P w=.ok v w/\bF v:=by
 unfold GU at h;cases op <;>simp only[abf,reduceCtorEq]at h
 case add=>
  split at h;·cases h
  cases h;rename_i H;exact⟨by simp only[binOp,Op.stringOp,abd H];rfl,rfl⟩
 all_goals
  subst h
  exact⟨by simp[binOp,Op.stringOp],rfl⟩
theorem Bo(hE:E.OK P){op:BinOp}{t:TypeId}{x y x' y' v:aeM}(h:az E op t x y=some v)(hx:bw σ x x')(hy:bw σ y y')(xo yo:Operand):
  (eqGuard op t xo yo x' y' >>=λ_=>binOp op t x' y').run P w=.ok v w/\bF v:=by
 unfold az at h;split at h
 ·rw[hx.int,hy.int];split at h;·cases h
  cases h;rename_i hb;exact⟨by rw[eqGuard_shl];simp[binOp,Op.shift,hb],rfl⟩
 ·rw[hx.int,hy.int];split at h;·cases h
  cases h;rename_i hb;exact⟨by rw[eqGuard_shr];simp[binOp,Op.shift,hb],rfl⟩
 ·rw[hx.int,hy.int];split at h
  ·rename_i hk;subst hk;have⟨h1,h2⟩:=GV (P:=P) (w:=w) (t:=t) h;exact⟨by rw[eqGuard_at_int];simpa using h1,h2⟩
  cases h
 ·rw[hx.string,hy.string];have⟨h1,h2⟩:=GS (P:=P) (w:=w) (t:=t) h;exact⟨by rw[eqGuard_at_string];simpa using h1,h2⟩
 ·rename_i hi hs
  cases H:eq? E t x y with
  |none=>rw[H]at h;simp at h
  |some b=>rw[H]at h;simp only[abi,abf]at h;subst h;have hh:=EG H (λk a k' b e1 e2=>hi _ _ _ _ e1 e2) (λa b e1 e2=>hs _ _ e1 e2);have hg:=wi (w:=w) hE H hx hy .eql xo yo;have he:=pS (w:=w) hE H hx hy;refine⟨?_,rfl⟩;rw[zA (by rw[hx.mz];exact hh),abo,hg,abg,abo,he];rfl
 ·rename_i hi hs
  cases H:eq? E t x y with
  |none=>rw[H]at h;simp at h
  |some b=>rw[H]at h;simp only[abi,abf]at h;subst h;have hh:=EG H (λk a k' b e1 e2=>hi _ _ _ _ e1 e2) (λa b e1 e2=>hs _ _ e1 e2);have hg:=wi (w:=w) hE H hx hy .neq xo yo;have he:=pS (w:=w) hE H hx hy;refine⟨?_,rfl⟩;rw[zz (by rw[hx.mz];exact hh),abo,hg,abg,abo,he];rfl
 cases h
theorem Dq{op:UnOp}{x H v:aeM}(h:cZ op x=some v)(hx:bw σ x H):(Op.unary op H).run P w=.ok v w/\bF v:=by
 unfold cZ at h;split at h;·cases h;rw[hx.int];exact⟨by simp[Op.unary,Op.intArith],rfl⟩
 ·cases h;rw[hx.bool];exact⟨by simp[Op.unary],rfl⟩
 cases h
theorem Gy(hE:E.OK P){s d:TypeId}{x x' v:aeM}(h:PL E s d x=some v)(hx:bw σ x x'):(convert s d x').run P w=.ok v w/\bF v:=by
 unfold PL at h;split at h
 ·rename_i si ti k n hs ht;have⟨_,us,fs⟩:=hE.lS hs;have⟨_,ut,H⟩:=hE.lS ht;split at h
  ·rename_i hd;cases h;rw[H.d]at hd;rw[hx.int];have hu:=H.fa.trans (by rw[lg hd]);refine⟨?_,rfl⟩;simp[convert,abj fs.fa,abj hu,Conv.intToInt]
  cases h
 ·rename_i si ti b hs ht;have⟨_,us,fs⟩:=hE.lS hs;have⟨_,ut,H⟩:=hE.lS ht;split at h
  ·rename_i hd;cases h;rw[H.d]at hd;rw[hx.string];have hu:=H.fa.trans (by rw[iH hd]);refine⟨?_,rfl⟩;simp[convert,abj fs.fa,abj hu]
  cases h
 cases h
theorem yy(hE:E.OK P){t:TypeId}{cs H:aeN}{off:Nat}{v:aeM}(h:part E t cs off=some v)(hc:bK σ cs H):
  ∃v',(Go.part t H.toArray off).run P w=.ok v' w/\bw σ v v':=by
 unfold part at h;split at h
 ·rename_i ti d0
  have⟨i,u,f⟩:=hE.lS d0
  have a0:=tA (P:=P) u w t f.fa
  rw[<-f.d]at a0
  unfold Go.part
  rw[abo,a0,abg]
  cases ha:ti.d.agg with
  |true=>
   rw[ha]at h
   simp only[cond_true]at h
   cases hb:Nat.ble (off+ti.size) cs.length with
   |false=>rw[hb]at h;simp at h
   |true=>
    rw[hb]at h;simp only[cond_true,abf]at h;subst h;refine⟨.agg ((H.drop off).take ti.size).toArray,?_,((hc.drop off).take ti.size).agg⟩
    have b0:H.toArray.extract off (off+i.size)=((H.drop off).take ti.size).toArray:=by
     apply ac0
     rw[Array.toList_extract,List.extract_eq_take_drop,f.size]
     grind
    simp only[acU,abo,run_sizeOf f.info,abg,abD,b0]
  |false=>
   rw[ha]at h
   simp only[abm]at h
   have⟨u',hu,hr⟩:=hc.get h
   simp_all
 cases h
theorem wk(hE:E.OK P){t:TypeId}{x x' v:aeM}{n:Nat}(h:CB E t x n=some v)(hx:bw σ x x'):∃v',(Instr.field t x' n).run P w=.ok v' w/\bw σ v v':=by
 unfold CB at h;split at h
 ·rename_i ti cs a0;have⟨i,u,f⟩:=hE.lS a0;split at h
  ·rename_i fs hd;rw[f.d]at hd;obtain⟨gs,rfl,rfl⟩:=fX hd;split at h
   ·rename_i fd H;simp only[ack,abq]at H;obtain⟨g,hg,rfl⟩:=H;obtain⟨d0,rfl,hc⟩:=hx.kC;have⟨v',h1,h2⟩:=yy (w:=w) hE h hc;refine⟨v',?_,h2⟩;have b0:gs[n]?=some g:=by grind
    simp only[Instr.field,abo,abj f.fa,abg,b0,asAgg,abD];simpa[tB]using h1
   cases h
  cases h
 cases h
theorem oz(hE:E.OK P){t:TypeId}{x x' v:aeM}{n:Nat}(h:af E t x n=some v)(hx:bw σ x x'):∃v',(Instr.fieldAt t x' n).run P w=.ok v' w/\bw σ v v':=by
 unfold af at h;split at h
 ·rename_i ti a d0;have⟨i,u,f⟩:=hE.lS d0;split at h
  ·rename_i fs hd;rw[f.d]at hd;obtain⟨gs,rfl,rfl⟩:=fX hd;split at h
   ·rename_i fd H
    simp only[ack,abq]at H
    obtain⟨g,hg,rfl⟩:=H
    obtain⟨bi,hb,a0,rfl⟩:=hx.gW
    cases hz:Nat.beq (tB P g).size 0 with
    |true=>rw[hz]at h;simp at h
    |false=>
     rw[hz]at h
     simp only[abm,abf]at h
     subst h
     have b0:=abY hz
     cases hi:P.info? g.type with
     |none=>simp[tB,hi]at b0
     |some gi=>
      have e0:gi.size≠0:=by simpa[tB,hi]using b0
      have g0:gs[n]?=some g:=by grind
      have⟨bl,o,sp⟩:=a;simp only at a0 hb;subst a0;refine⟨aeK bi.cI (o+g.offset),?_,?_⟩;·simp only[Instr.fieldAt,abo,abj f.fa,abg,g0,Instr.sureAddr,abD,fieldPlace,run_sizeOf hi,abd e0,dW]
      have:((tB P g).off)=g.offset:=rfl;rw[this,dW];exact .ptr ⟨bl,o+g.offset,none⟩ bi hb rfl
   cases h
  cases h
 cases h
theorem pR{u:TypeDesc}{e:Nat}(hu:zg P u=0->False)(he:u=.slice e\/∃n,u=.array n e):∃H,P.info? e=some H/\zg P u=H.size:=by
 rcases he with rfl |⟨n,rfl⟩
 ·cases hi:P.info? e with
  |none=>simp[zg,hi]at hu
  |some H=>exact⟨H,rfl,by simp[zg,hi]⟩
 ·cases hi:P.info? e with
  |none=>simp[zg,hi]at hu
  |some H=>exact⟨H,rfl,by simp[zg,hi]⟩
theorem oo(hE:E.OK P){t:TypeId}{x x' y y' v:aeM}(h:an E t x y=some v)(hx:bw σ x x')(hy:bw σ y y'):∃v',(Instr.indexAt t x' y').run P w=.ok v' w/\bw σ v v':=by
 unfold an at h;split at h;·cases h
 rename_i ti e0;have⟨i,u,f⟩:=hE.lS e0;split at h
 ·rename_i e a n c k j hd;rw[f.d]at hd;obtain rfl:=dj hd;split at h
  ·rename_i hc;cases h;obtain⟨ei,H,a0⟩:=pR (P:=P) (u:=.slice e) (by rw[<-f.es];omega) (.inl rfl);rw[hy.int];obtain⟨bi,a',c',hb,rfl,b0⟩:=hx.dL;rcases b0 with⟨d0,rfl,_⟩ |⟨rfl,rfl,_⟩
   ·have⟨bl,o,sp⟩:=a;subst d0;refine⟨aeK bi.cI (o+j.toNat*ei.size),?_,?_⟩
    ·have h2:0<=j/\j < (n:Int):=⟨hc.1,hc.2.1⟩
     simp only[Instr.indexAt,abo,asIntOf,abD,abg,abj f.fa,abe h2,run_sizeOf H,dW]
    rw[f.es,a0,dW];exact .ptr ⟨bl,o+j.toNat*ei.size,none⟩ bi hb rfl
   ·grind
  cases h
 ·rename_i n e a k j hd;rw[f.d]at hd;obtain rfl:=jj hd;split at h
  ·rename_i hc;cases h;obtain⟨ei,H,a0⟩:=pR (P:=P) (u:=.array n e) (by rw[<-f.es];omega) (.inr ⟨n,rfl⟩);rw[hy.int];obtain⟨bi,hb,d0,rfl⟩:=hx.gW;have⟨bl,o,sp⟩:=a;subst d0;refine⟨aeK bi.cI (o+j.toNat*ei.size),?_,?_⟩
   ·have h2:0<=j/\j < (n:Int):=⟨hc.1,hc.2.1⟩
    simp only[Instr.indexAt,abo,asIntOf,abD,abg,abj f.fa,Instr.sureAddr,abe h2,run_sizeOf H,dW]
   rw[f.es,a0,dW];exact .ptr ⟨bl,o+j.toNat*ei.size,none⟩ bi hb rfl
  cases h
 cases h
theorem wg(hE:E.OK P){t:TypeId}{x x' y y' v:aeM}(h:index? E t x y=some v)(hx:bw σ x x')(hy:bw σ y y'):∃v',(Instr.index t x' y').run P w=.ok v' w/\bw σ v v':=by
 unfold index? at h;split at h;·cases h
 rename_i ti a0;have⟨i,u,f⟩:=hE.lS a0;split at h
 ·rename_i n e cs k j H;rw[f.d]at H;obtain rfl:=jj H;split at h
  ·rename_i hc;rw[hy.int];obtain⟨e0,rfl,b0⟩:=hx.kC;have⟨v',h1,h2⟩:=yy (w:=w) hE h b0;refine⟨v',?_,h2⟩;have hp:=h;unfold part at hp;split at hp
   ·rename_i ei d0
    have⟨ie,ue,fe⟩:=hE.lS d0
    have g0:ti.es=ie.size:=by rw[f.es];simp[zg,fe.info]
    have h3:(0:Int)<=j/\j < (n:Int):=hc
    simp only[Instr.index,abo,asIntOf,abD,abg,abj f.fa,abe h3,run_sizeOf fe.info]
    simp_all
   cases hp
  cases h
 ·rename_i s k j H;rw[f.d]at H;obtain rfl:=iH H;split at h
  ·rename_i hc;simp only[abq]at h;obtain⟨b,hb,rfl⟩:=h;rw[hy.int,hx.string];refine⟨.int .u8 b.toNat,?_,.flat _ rfl⟩;simp only[Instr.index,abo,asIntOf,abD,abg,abj f.fa,abe hc,hb]
  cases h
 cases h
end
end
section
def Ah(P:Program)(σ:Sg)(m:M)(w:World)(s:Sem aeM)(v:aeM)(m':M):Prop:=
 ∃σ' w' H,s.run P w=.ok H w'/\bw σ' v H/\Ev P σ m w σ' m' w'
section
variable {E:Env} {P:Program} {σ:Sg} {m m':M} {w:World}
theorem Ah.pure(H:eN P σ m w){s:Sem aeM}{v v':aeM}(h:s.run P w=.ok v' w)(hv:bw σ v v'):Ah P σ m w s v m:=⟨σ,w,v',h,hv,Ev.refl H⟩
def Uj(len size:Nat):Option Nat->Option (Nat×Nat×Nat)
 |none=>none
 |some k=>some (k,len,size)
theorem HM(H:eN P σ m w){c:aeN}{c':Array aeM}{e:TypeId}{g:Option Nat}(hl:c.length<=c'.size)(h:bK σ c (c'.toList.take c.length))
  (hg:WL ⟨w.heap.size,Uj c.length c'.size g⟩ c.length c'.size g):
  Ev P σ m w (σ.add m.n ⟨w.heap.size,Uj c.length c'.size g⟩) (m.push (.cells c e g)) (w.alloc (.cells c' e)):=by refine Ev.uZ H ⟨c',?_,hl,h.mono (Sg.yN H.mX),hg⟩;exact heap_alloc_new w _
theorem qw(H:eN P σ m w){c:aeN}{c':Array aeM}{e:TypeId}(h:bK σ c c'.toList):
  Ev P σ m w (σ.add m.n ⟨w.heap.size,none⟩) (m.push (.cells c e none)) (w.alloc (.cells c' e)):=by
 have hl:c.length=c'.size:=by simpa using h.1
 refine HM (g:=none) H (by omega) ?_ ⟨rfl,hl.symm⟩;rw[aby (by grind)];exact h
theorem Lk(H:eN P σ m w){t:TypeId}{v v':aeM}(hv:bw σ v v'):Ah P σ m w (Instr.box t v') (newVar m t v).1 (newVar m t v).2:=by
 refine⟨_,_,aeK w.heap.size 0,?_,?_,qw H hv.cells (e:=t)⟩;·simp[Instr.box,Go.newVar,newRow]
 exact .ptr ⟨m.n,0,none⟩ _ (Sg.add_same _ _) rfl
theorem EZ(hE:E.OK P)(hs:eN P σ m w){t:TypeId}{z:aeM}(H:iZ E t=some z):Ah P σ m w (Instr.alloc t true (.tuple #[])) (newVar m t z).1 (newVar m t z).2:=by
 unfold iZ at H
 cases ht:E.ty.get t with
 |none=>rw[ht]at H;simp at H
 |some ti=>
  rw[ht]at H;have⟨i,u,f⟩:=hE.lS ht;have hr:=dC (w:=w) f.info (by rw[<-f.zero];exact H);refine⟨_,_,aeK w.heap.size 0,?_,?_,qw hs (bw.fD (hE.flat ht H)).cells (e:=t)⟩;·simp[Instr.alloc,hr,Go.newVar,newRow]
  exact .ptr ⟨m.n,0,none⟩ _ (Sg.add_same _ _) rfl
theorem tL(off:Nat):∀(l:aeN) (k:Nat) (cs:Array aeM),off+k+l.length<=cs.size->(l.zipIdx k).foldl (λcs p=>cs.setIfInBounds (off+p.2) p.1) cs=(cs.toList.take (off+k)++(l++cs.toList.drop (off+k+l.length))).toArray
 |[],k,cs,_=>by simp
 |v::l,k,cs,h=>by
  simp only[abr]at h
  simp only[List.zipIdx_cons,ac6]
  rw[tL off l (k+1) (cs.setIfInBounds (off+k) v) (by grind)]
  have e:=list_seg_step cs.toList (off+k) v l (by grind)
  simp only[Array.toList_setIfInBounds,abr]
  grind
theorem nS{place place':Nat->Option (Nat×Nat)}(hp:∀i o,place i=some o->place' i=some o){T:Operand->aeM}{A:Operand->aeM}:
  ∀(ps:List (Nat×Operand)) (cs:aeN) (H:Array aeM) (out:aeN),(∀p∈ps,bw σ (T p.2) (A p.2))->bK σ cs H.toList->
   fill place cs (ps.map λp=>(p.1,T p.2))=some out->∃a0:Array aeM,Instr.fill place' H (ps.map λp=>(p.1,A p.2))=some a0/\bK σ out a0.toList
 |[],cs,H,out,_,hc,h=>by
  simp only[adp,fill,abf]at h
  subst h
  exact⟨H,rfl,hc⟩
 |p::ps,cs,H,out,hv,hc,h=>by
  simp only[acN,fill]at h
  split at h
  ·cases h
  ·rename_i off size ho
   have hx:=hv p abN
   have b0:=hx.cells
   cases hb:(Nat.beq (cells (T p.2)).length size && Nat.ble (off+size) cs.length)with
   |false=>rw[hb]at h;simp at h
   |true=>
    rw[hb]at h
    simp only[cond_true]at h
    simp only[abc]at hb
    have h1:=abn hb.1
    have h2:=abB hb.2
    have e0:=b0.1
    have g0:=hc.1
    simp only[ach]at e0 g0
    have d0:=tL off (A p.2).cells.toList 0 H (by grind)
    simp only[acY]at d0
    have h0:((A p.2).cells.zipIdx.foldl (λcs (x:aeM×Nat)=>cs.setIfInBounds (off+x.2) x.1) H)=(H.toList.take off++((A p.2).cells.toList++H.toList.drop (off+(A p.2).cells.toList.length))).toArray:=by
     rw[<-d0,<-adz]
     simp
    have i0:bK σ (cs.take off++(cells (T p.2)++cs.drop (off+size))) (H.toList.take off++((A p.2).cells.toList++H.toList.drop (off+(A p.2).cells.toList.length))):=by
     have:(A p.2).cells.toList.length=size:=by grind
     rw[this]
     exact(hc.take off).append (b0.append (hc.drop _))
    obtain⟨a0,e1,e2⟩:=nS hp ps _ (H.toList.take off++((A p.2).cells.toList++H.toList.drop (off+(A p.2).cells.toList.length))).toArray out (λq hq=>hv q (abS _ hq)) (by grind) h
    refine⟨a0,?_,e2⟩
    simp only[acN,Instr.fill,hp _ _ ho]
    grind
theorem wA(hE:E.OK P){T A:Operand->aeM}{t:TypeId}{ps:Array (Nat×Operand)}{v:aeM}(hv:∀p∈ps.toList,bw σ (T p.2) (A p.2))
  (h:aJ E t (ps.toList.map λp=>(p.1,T p.2))=some v):∃v',(Instr.build t (ps.map λp=>(p.1,A p.2))).run P w=.ok v' w/\bw σ v v':=by
 unfold aJ at h;split at h;·cases h
 rename_i ti d0;have⟨i,u,f⟩:=hE.lS d0;split at h
 ·rename_i z fs hz hd;have H:=hE.flat d0 hz;have h0:=hd;rw[f.d]at hd;obtain⟨gs,rfl,rfl⟩:=fX hd;simp only[abq]at h;obtain⟨cs,e0,rfl⟩:=h;have hr:=dC (w:=w) f.info (by rw[<-f.zero];exact hz)
  have a0:(gs.mapM (m:=Sem) λf=>do pure (f.offset,<-sizeOf f.type)).run P w=.ok (gs.map λg=>(g.offset,(tB P g).size)) w:=by
   have key:∀(l:List Field),(∀g∈l,∃gi,P.info? g.type=some gi)->(l.mapM (m:=Sem) λf=>do pure (f.offset,<-sizeOf f.type)).run P w=.ok (l.map λg=>(g.offset,(tB P g).size)) w:=by
    intro l
    induction l with
    |nil=>intro _;rfl
    |cons g l ih=>intro hl;have⟨gi,g0⟩:=hl g abN;have h2:=ih (λg hg=>hl g (abS _ hg));rw[List.mapM_cons];simp only[abo,run_sizeOf g0,abg,abD,h2,acN];simp[tB,g0]
   have:=key gs.toList (λg hg=>by have⟨fi,h1,_⟩:=hE.fld d0 h0 (acP (f:=tB P) hg);have⟨gi,gu,gf⟩:=hE.lS h1;exact⟨gi,gf.info⟩)
   rw[ad8,Sem.run_map,this]
   simp only[abg]
   congr 1
   grind
  obtain⟨b0,e1,e2⟩:=nS (σ:=σ) (place':=((gs.map λg=>(g.offset,(tB P g).size))[·]?)) (by
   intro j o ho;simp only[ack,Option.map_map,abq]at ho;obtain⟨g,hg,rfl⟩:=ho;have:gs[j]?=some g:=by grind
   simp[this,tB]) ps.toList (cells z) z.cells cs hv (bw.fD H).cells e0
  refine⟨.agg b0,?_,?_⟩
  ·simp only[Instr.build,abo,hr,abg,abj f.fa,a0]
   simp_all
  have:=e2.agg;simpa using this
 ·rename_i z n e hz hd
  have H:=hE.flat d0 hz
  rw[f.d]at hd
  obtain rfl:=jj hd
  cases hb:Nat.beq ti.es 0 with
  |true=>rw[hb]at h;simp at h
  |false=>
   rw[hb]at h;have i0:=abY hb;simp only[abm,abq]at h;obtain⟨cs,e0,rfl⟩:=h;have hr:=dC (w:=w) f.info (by rw[<-f.zero];exact hz);obtain⟨ei,j0,k0⟩:=pR (P:=P) (u:=.array n e) (by rw[<-f.es];exact i0) (.inr ⟨n,rfl⟩)
   obtain⟨b0,e1,e2⟩:=nS (σ:=σ) (place':=λj=>some (j*ei.size,ei.size)) (by intro j o ho;rw[f.es,k0]at ho;exact ho) ps.toList (cells z) z.cells cs hv (bw.fD H).cells e0
   refine⟨.agg b0,?_,?_⟩
   ·simp only[Instr.build,abo,hr,abg,abj f.fa,run_sizeOf j0]
    simp_all
   have:=e2.agg;simpa using this
 cases h
end
end
section
section
variable {E:Env} {P:Program} {σ:Sg} {m m':M} {w:World}
theorem nq(z:aeN):∀n:Nat,(iA z n).length=n*z.length
 |0=>by simp[iA]
 |n+1=>by unfold iA;rw[abO,nq z n,acg];omega
theorem Aj(z:aeN):∀(n i:Nat),i < n*z.length->(iA z n)[i]?=z[i%z.length]?
 |0,i,h=>by grind
 |n+1,i,h=>by
  unfold iA
  by_cases hi:i < z.length
  ·rw[acJ hi,acM hi]
  ·rw[acp (by omega),Aj z n _ (by grind)]
   congr 1
   rw[<-aeF (by omega)]
theorem qi{z H:aeN}(h:bK σ z H):∀n:Nat,bK σ (iA z n) (iA H n)
 |0=>bK.nil
 |n+1=>h.append (qi h n)
theorem pk(z:Array aeM)(n:Nat):((Array.range (n*z.size)).map λi=>z[i%z.size]!)=(iA z.toList n).toArray:=by
 apply ac0
 apply aco
 intro i
 simp only[Array.toList_map,ack,Array.toList_range]
 by_cases hi:i < n*z.size
 ·rw[adY hi,Aj z.toList n i (by grind)]
  have H:0 < z.size:=by
   grind
  have hm:i%z.size < z.size:=acQ _ H
  grind
 ·rw[ace (by grind),ace (by rw[nq];simpa using hi)]
  rfl
theorem range_zero':Array.range 0= #[]:=rfl
theorem vI(hE:E.OK P)(hs:eN P σ m w){T A:Operand->aeM}{t:TypeId}{n:Nat}{ps:Array (Nat×Operand)}{v:aeM}(hv:∀p∈ps.toList,bw σ (T p.2) (A p.2))
  (h:aG E m t n (ps.toList.map λp=>(p.1,T p.2))=some (v,m')):Ah P σ m w (Instr.buildSlice t n (ps.map λp=>(p.1,A p.2))) v m':=by
 unfold aG at h;split at h;·cases h
 rename_i ti e0;have⟨i,u,f⟩:=hE.lS e0;split at h
 ·rename_i e hd;rw[f.d]at hd;obtain rfl:=dj hd;split at h;·cases h
  ·rename_i z hz
   unfold iZ at hz
   cases he:E.ty.get e with
   |none=>rw[he]at hz;simp at hz
   |some ei=>
    rw[he]at hz
    have⟨ie,ue,fe⟩:=hE.lS he
    have j0:ti.es=ie.size:=by rw[f.es];simp[zg,fe.info]
    cases hb:(Nat.beq (cells z).length ti.es && Nat.ble (n*ti.es) 1048576)with
    |false=>rw[hb]at h;simp at h
    |true=>
     rw[hb]at h;simp only[cond_true,abq,abP]at h;obtain⟨cs,g0,rfl,rfl⟩:=h;simp only[abc]at hb;have h1:=abn hb.1;have h2:=abB hb.2;have d0:=(bw.fD (σ:=σ) (hE.flat he hz)).cells;have i0:z.cells.size=ie.size:=by have:=d0.1;simp at this;omega
     have hr:=dC (w:=w) fe.info (by rw[<-fe.zero];exact hz)
     obtain⟨a0,e1,e2⟩:=nS (σ:=σ) (place':=λj=>some (j*ie.size,ie.size)) (by
      grind) ps.toList (iA (cells z) n) (iA z.cells.toList n).toArray cs hv (by simpa using qi d0 n) g0
     refine⟨_,_,aeL w.heap.size 0 n n,?_,?_,qw hs e2 (e:=e)⟩
     ·have b0:Instr.fill (λi=>some (i*ie.size,ie.size)) ((Array.range (n*ie.size)).map (z.cells[·%z.cells.size]!)) (ps.map λp=>(p.1,A p.2)).toList=some a0:=by
       have:=pk z.cells n
       simp_all
      by_cases h0:n*ie.size=0
      ·have k0:(iA z.cells.toList n).toArray= #[]:=by apply ac0;exact acu (by rw[nq];simp only[ach];rw[i0];exact h0)
       have H:Instr.fill (λi=>some (i*ie.size,ie.size)) ((Array.range (n*ie.size)).map ((#[]:Array aeM)[·%(#[]:Array aeM).size]!)) (ps.map λp=>(p.1,A p.2)).toList=some a0:=by
        grind
       simp only[Instr.buildSlice,abo,abj f.fa,abg,run_sizeOf fe.info,aeJ];simp only[abD,abg,h0,acU];rw[h0]at H;rw[H];simp[newRow]
      simp only[Instr.buildSlice,abo,abj f.fa,abg,run_sizeOf fe.info,aeJ];rw[abd (by grind)];simp only[abD,abg,h0,if_false,hr];rw[b0];simp[newRow]
     exact .slice ⟨m.n,0,none⟩ _ n n (Sg.add_same _ _) rfl rfl
 cases h
theorem wL(hE:E.OK P)(hs:eN P σ m w){t:TypeId}{l l' c c' v:aeM}(hl:bw σ l l')(hc:bw σ c c')(h:fj E m t l c=some (v,m')):
  Ah P σ m w (Instr.makeSlice t l' c') v m':=by
 unfold fj at h;split at h;·cases h
 rename_i ti e0;have⟨i,u,f⟩:=hE.lS e0;split at h
 ·rename_i e k l k' c hd;rw[f.d]at hd;obtain rfl:=dj hd;split at h;·cases h
  rename_i ei he;have⟨ie,ue,fe⟩:=hE.lS he;split at h;·cases h
  rename_i z hz;split at h
  ·rename_i H;have⟨h1,h2,h3,h4,h5⟩:=H;cases h;rw[hl.int,hc.int];have a0:=(bw.fD (σ:=σ) (hE.flat he hz)).cells;have b0:z.cells.size=ie.size:=by have:=a0.1;have:=fe.size;simp at*;omega
   have hr:=dC (w:=w) fe.info (by rw[<-fe.zero];exact hz)
   have hb:(ie.bytes:Int)*c<=68719476736:=by
    have:(ie.bytes:Int)<=65536:=by have:=fe.bytes;omega
    calc (ie.bytes:Int)*c<=65536*1048576:=Int.mul_le_mul this h3 (by omega) (by omega)
     _=68719476736:=by decide
   have g0:IntKind.i64.wrap l=l:=by rw[IntKind.wrap_i64];omega
   have i0:IntKind.i64.wrap c=c:=by rw[IntKind.wrap_i64];omega
   refine⟨_,_,aeL w.heap.size 0 l.toNat c.toNat,?_,?_,qw hs (c':=(iA z.cells.toList c.toNat).toArray) (by simpa using qi a0 c.toNat) (e:=e)⟩
   ·have d0:=pk z.cells c.toNat;rw[b0]at d0;simp only[Instr.makeSlice,abo,abj f.fa,abg,asInt,asIntOf,abD,run_typeInfo fe.info,g0,i0,aeJ]
    have ht:¬((decide (c < 0) ||decide ((ie.bytes:Int)*c >2 ^ 48))\/l < 0\/l >c):=by
     grind
    rw[abd (by grind)];simp only[abg,run_askRoom,run_sizeOf fe.info];by_cases h0:c.toNat*ie.size=0
    ·have j0:(iA z.cells.toList c.toNat).toArray= #[]:=by
      grind
     rw[j0];simp[h0,newRow,range_zero']
    simp only[abd h0,hr,abg];rw[b0,d0];simp[newRow]
   exact .slice ⟨m.n,0,none⟩ _ _ _ (Sg.add_same _ _) rfl rfl
  cases h
 cases h
end
end
section
section
variable {E:Env} {P:Program} {σ:Sg} {m m':M} {w:World}
theorem jM{x x':aeM}{y n:Nat}(h:sq x y=some n)(hx:bw σ x x')(H:Nat)(hy:y<=H)(c:BoundsCode):(Instr.sliceBound x' H c).run P w=.ok n w/\n<=y:=by
 unfold sq at h;split at h
 ·rename_i k i;split at h
  ·rename_i hc;cases h;rw[hx.int];refine⟨?_,by omega⟩;have h2:0<=i/\i<=(H:Int):=by omega
   simp only[Instr.sliceBound,abo,asIntOf,abD,abg,abe h2]
  cases h
 cases h
def zH(σ:Sg)(x H:Option aeM):Prop:=match x,H with
 |none,none=>True
 |some v,some v'=>bw σ v v'
 |_,_=>False
theorem fw{len cap:Nat}{lo hi mx a0 b0 mx':Option aeM}{l h k:Nat}(e:fO len cap lo hi mx=some (l,h,k))(h1:zH σ lo a0)(h2:zH σ hi b0)(h3:zH σ mx mx')
  (d0:len<=cap) (b:Bool) (H:Nat) (hc:cap<=H):
  (Instr.sliceBounds b len H a0 b0 mx').run P w=.ok (l,h,if mx.isNone then H else k) w/\l<=h/\h<=k/\k<=cap/\(mx=none->k=cap):=by
 unfold fO at e;split at e;·cases e
 rename_i m hm;split at e;·cases e
 rename_i h' hh;split at e;·cases e
 ·rename_i l' hl
  cases e
  cases mx with
  |some vm=>
   cases mx' with
   |none=>exact h3.elim
   |some j0=>
    have⟨r1,r2⟩:=jM (P:=P) (w:=w) hm h3 H hc (if b then .slice3Acap else .slice3Alen)
    cases hi with
    |none=>simp at hh
    |some vh=>
     cases b0 with
     |none=>exact h2.elim
     |some e0=>
      obtain⟨s1,s2⟩:=jM (P:=P) (w:=w) hh h2 k (aa4 _) .slice3B
      cases lo with
      |none=>
       cases a0 with
       |some _=>exact h1.elim
       |none=>simp only[abf]at hl;subst hl;refine⟨?_,by omega,s2,r2,by simp⟩;simp only[Instr.sliceBounds,abo,r1,s1,abD,abg];rfl
      |some vl=>
       cases a0 with
       |none=>exact h1.elim
       |some g0=>obtain⟨t1,t2⟩:=jM (P:=P) (w:=w) hl h1 h (aa4 _) .slice3C;refine⟨?_,t2,s2,r2,by simp⟩;simp[Instr.sliceBounds,abo,r1,s1,t1]
  |none=>
   cases mx' with
   |some _=>exact h3.elim
   |none=>
    simp only[abf]at hm;subst hm
    have h0:(match b0 with |some v=>Instr.sliceBound v H (if b then .sliceAcap else .sliceAlen) |none=>pure len:Sem Nat).run P w=.ok h w/\h<=cap:=by
     cases hi with
     |none=>
      cases b0 with
      |some _=>exact h2.elim
      |none=>simp only[abf]at hh;subst hh;exact⟨rfl,d0⟩
     |some vh=>
      cases b0 with
      |none=>exact h2.elim
      |some e0=>exact jM (P:=P) (w:=w) hh h2 H hc _
    have i0:(match a0 with |some v=>Instr.sliceBound v h .sliceB |none=>pure 0:Sem Nat).run P w=.ok l w/\l<=h:=by
     cases lo with
     |none=>
      cases a0 with
      |some _=>exact h1.elim
      |none=>simp only[abf]at hl;subst hl;exact⟨rfl,by omega⟩
     |some vl=>
      cases a0 with
      |none=>exact h1.elim
      |some g0=>exact jM (P:=P) (w:=w) hl h1 h (aa4 _) _
    refine⟨?_,i0.2,h0.2,aa4 _,λ_=>rfl⟩;simp only[Instr.sliceBounds,abo,abD,abg];cases b0 <;>cases a0 <;>simp_all
theorem aV{a:Addr}(H:a.spot=none)(n:Nat):a.add n=⟨a.block,a.off+n,none⟩:=by have⟨b,o,s⟩:=a;subst H;rw[dW]
theorem qe(a:Addr)(n:Nat):(a.add n).block=a.block/\(a.add n).off=a.off+n:=by
 unfold Addr.add
 grind
theorem fy{t e:TypeId}{H:TypeInfo}{a:Option Addr}{n c l h k:Nat}{lo hi mx:Option aeM}(hu:P.underlying t=some (.slice e))(he:P.info? e=some H)
  (hb:(Instr.sliceBounds true n c lo hi mx).run P w=.ok (l,h,k) w):(Instr.sliceAt t (.slice a n c) lo hi mx).run P w=.ok (.slice (if k=l then a else a.map (·.add (l*H.size))) (h-l) (k-l)) w:=by simp only[Instr.sliceAt,Instr.slice,abo,abj hu,abg,hb,run_sizeOf he,abD]
theorem Dy(hE:E.OK P)(hs:eN P σ m w){t:TypeId}{x x' v:aeM}{lo hi mx n0 o0 mx':Option aeM}(h:slice? E m t x lo hi mx=some v)(hx:bw σ x x')(h1:zH σ lo n0)(h2:zH σ hi o0)(h3:zH σ mx mx'):
  ∃v',(Instr.sliceAt t x' n0 o0 mx').run P w=.ok v' w/\bw σ v v':=by
 unfold slice? at h;split at h;·cases h
 rename_i ti C0;have⟨i,u,f⟩:=hE.lS C0;split at h
 ·rename_i s hd;rw[f.d]at hd;obtain rfl:=iH hd;rw[hx.string];split at h
  ·rename_i l hh _ hb
   cases h
   cases mx' with
   |some _=>exact h3.elim
   |none=>obtain⟨r,_⟩:=fw (P:=P) (w:=w) hb h1 h2 (mx':=none) trivial (aa4 _) false s.size (aa4 _);refine⟨.string (s.extract l hh),?_,.flat _ rfl⟩;simp[Instr.sliceAt,Instr.slice,abj f.fa,r]
  cases h
 ·rename_i e hd;rw[f.d]at hd;obtain rfl:=dj hd;rw[hx.bM rfl];split at h
  ·rename_i p hb
   have⟨l,hh,k⟩:=p
   cases hz:Nat.beq ti.es 0 with
   |true=>rw[hz]at h;simp at h
   |false=>
    rw[hz]at h;simp only[abm,abf]at h;subst h;obtain⟨ei,g0,p0⟩:=pR (P:=P) (u:=.slice e) (by rw[<-f.es];exact abY hz) (.inl rfl);obtain⟨r,q1,q2,q3,_⟩:=fw (P:=P) (w:=w) hb h1 h2 h3 (aa4 _) true 0 (aa4 _);obtain rfl:k=0:=by omega
    obtain rfl:hh=0:=by omega
    obtain rfl:l=0:=by omega
    have r':(Instr.sliceBounds true 0 0 n0 o0 mx').run P w=.ok (0,0,0) w:=by simpa using r
    refine⟨aeQ,?_,.flat _ rfl⟩;rw[fy f.fa g0 r'];rfl
  cases h
 ·rename_i e a n c hd;rw[f.d]at hd;obtain rfl:=dj hd;split at h
  ·rename_i l hh k cs te g hb hg
   cases hz:(Nat.beq ti.es 0 || !(Nat.ble n c))with
   |true=>rw[hz]at h;simp at h
   |false=>
    rw[hz]at h
    simp only[acB,abu]at hz
    have q0:=abB hz.2
    have r0:=abY hz.1
    obtain⟨ei,g0,p0⟩:=pR (P:=P) (u:=.slice e) (by rw[<-f.es];exact r0) (.inl rfl)
    have j0:ti.es=ei.size:=by rw[f.es,p0]
    simp only[abm]at h
    obtain⟨bi,a',c',b0,rfl,i0⟩:=hx.dL
    have⟨row,H0,hlen,_,v0⟩:=hs.cells b0 hg
    cases g with
    |none=>
     have⟨a0,I0⟩:=v0;simp only[abf]at h;subst h;rcases i0 with⟨d0,rfl,s0⟩ |⟨_,_,k0,sz,N,y0,_⟩
     ·rcases s0 with⟨_,rfl⟩ |⟨k0,sz,N,y0,_⟩
      ·obtain⟨r,q1,q2,q3,q4⟩:=fw (P:=P) (w:=w) hb h1 h2 h3 q0 true c' (aa4 _)
       have r':(Instr.sliceBounds true n c' n0 o0 mx').run P w=.ok (l,hh,k) w:=by
        rw[r];cases mx with
        |none=>simp[q4 rfl]
        |some _=>simp
       refine⟨_,fy f.fa g0 r',?_⟩;by_cases H:k=l
       ·subst H;simp only[acq,cond_true,acU];exact .slice a bi _ _ b0 d0 a0
       have:Nat.beq k l=false:=by
        cases hq:Nat.beq k l with
        |true=>exact absurd (abn hq) H
        |false=>rfl
       rw[this,abd H];simp only[abm,abi,dW,aV d0];rw[j0];exact .slice ⟨a.block,a.off+l*ei.size,none⟩ bi _ _ b0 rfl a0
      ·grind
     ·grind
    |some k0=>
     have⟨a0,y0,J0⟩:=v0
     dsimp only at h
     cases hq:Nat.beq k0 ti.es with
     |false=>rw[hq]at h;simp at h
     |true=>
      rw[hq]at h;have A0:=abn hq;simp only[cond_true,abf]at h;subst h
      have hD:∀A:Addr,(if k=l/\¬(mx=none/\a.off+c*ti.es=cs.length)then a else a.add (l*ti.es))=A->
        (bif Nat.beq k l && !(mx.isNone && Nat.beq (a.off+c*ti.es) cs.length)then a else a.add (l*ti.es))=A:=by
       rintro A rfl
       by_cases c1:k=l
       ·by_cases c2:mx=none
        ·simp_all
        ·cases mx with
         |none=>exact absurd rfl c2
         |some _=>simp[c1]
       ·have:Nat.beq k l=false:=by
         cases D0:Nat.beq k l with
         |true=>exact absurd (abn D0) c1
         |false=>rfl
        simp[c1,this]
      rw[hD _ rfl];rcases i0 with⟨d0,rfl,s0⟩ |⟨rfl,rfl,k1,sz,N,u0,K0⟩
      ·rcases s0 with⟨L0,_⟩ |⟨k1,sz,N,u0,E0⟩
       ·grind
       rw[a0]at u0;obtain⟨rfl,rfl,rfl⟩:=u0
       have B0:c<=c':=by
        grind
       have⟨r,q1,q2,q3,q4⟩:=fw (P:=P) (w:=w) hb h1 h2 h3 q0 true c' B0;refine⟨_,fy f.fa g0 r,?_⟩;have F0:mx=none\/∃y,mx=some y:=by cases mx <;>simp
       rcases F0 with rfl |⟨y,rfl⟩
       ·obtain rfl:=q4 rfl;simp only[aeA,acU,true_and];by_cases l0:a.off+k*ti.es=cs.length
        ·rw[abd (by simp[l0])];by_cases H:k=l
         ·subst H;obtain rfl:hh=k:=by omega
          simp only[aea];have⟨b1,b2⟩:=qe a (hh*ti.es);by_cases z0:c'=hh
          ·rw[abe z0];exact .empty _ _ bi _ k0 _ _ (by rw[b1];exact b0) a0 (by rw[b2];exact l0)
          rw[abd z0];exact .empty _ _ bi _ k0 _ _ (by rw[b1];exact b0) a0 (by rw[b2];exact l0)
         rw[abd (by omega),aV d0,<-j0];simp only[abi,dW];refine .iC ⟨a.block,a.off+l*ti.es,none⟩ bi _ _ _ k0 _ _ b0 rfl a0 ?_;rcases E0 with rfl |⟨e0,e1,e2⟩;·exact .inl rfl
         refine .inr ⟨by omega,?_,?_⟩
         ·dsimp only;rw[<-A0,aeI,Nat.add_assoc,aez (ab4 _ (by omega))];exact e1
         dsimp only;rw[<-A0,aeI,Nat.add_assoc,aez (ab4 _ (by omega))];exact e2
        have z0:c'=k:=by
         grind
        subst z0;simp only[l0,not_false_eq_true,and_true];by_cases H:c'=l
        ·rw[abe H,abe H];exact .iC a bi _ _ _ k0 _ _ b0 d0 a0 (.inl rfl)
        rw[abd H,abd H,aV d0,<-j0];simp only[abi,dW];exact .iC ⟨a.block,a.off+l*ti.es,none⟩ bi _ _ _ k0 _ _ b0 rfl a0 (.inl rfl)
       simp only[ad3,ac5,if_false,reduceCtorEq,false_and,not_false_eq_true,and_true];by_cases H:k=l
       ·rw[abe H,abe H];exact .iC a bi _ _ _ k0 _ _ b0 d0 a0 (.inl rfl)
       rw[abd H,abd H,aV d0,<-j0];simp only[abi,dW];exact .iC ⟨a.block,a.off+l*ti.es,none⟩ bi _ _ _ k0 _ _ b0 rfl a0 (.inl rfl)
      rw[a0]at u0;obtain⟨rfl,rfl,rfl⟩:=u0;obtain⟨r,q1,q2,q3,q4⟩:=fw (P:=P) (w:=w) hb h1 h2 h3 q0 true c' (abh _);obtain rfl:k=0:=by omega
      obtain rfl:hh=0:=by omega
      obtain rfl:l=0:=by omega
      refine⟨_,fy f.fa g0 r,?_⟩;have⟨b1,b2⟩:=qe a (0*ti.es)
      have hA:σ (if 0=0/\¬(mx=none/\a.off+0*ti.es=cs.length)then a else a.add (0*ti.es)).block=some bi/\(if 0=0/\¬(mx=none/\a.off+0*ti.es=cs.length)then a else a.add (0*ti.es)).off=cs.length:=by
       grind
      have hR:∃a2,(if(if mx.isNone then c' else 0)=0 then some a' else(some a').map (·.add (0*ei.size)))=some a2:=by
       grind
      have⟨a2,G0⟩:=hR;rw[G0];exact .empty _ _ bi _ k0 _ _ hA.1 a0 hA.2
  ·rename_i l hh k cs hb hg
   cases hz:(Nat.beq ti.es 0 || !(Nat.ble n c))with
   |true=>rw[hz]at h;simp at h
   |false=>
    rw[hz]at h;simp only[acB,abu]at hz;have q0:=abB hz.2;have r0:=abY hz.1;obtain⟨ei,g0,p0⟩:=pR (P:=P) (u:=.slice e) (by rw[<-f.es];exact r0) (.inl rfl);have j0:ti.es=ei.size:=by rw[f.es,p0]
    simp only[abm,abf]at h;subst h;obtain⟨bi,a',c',b0,rfl,i0⟩:=hx.dL
    have a0:bi.gr=none:=by have:=hs.obj _ _ b0;rw[hg]at this;exact this.1
    rcases i0 with⟨d0,rfl,s0⟩ |⟨_,_,k0,sz,N,y0,_⟩
    ·rcases s0 with⟨_,rfl⟩ |⟨k0,sz,N,y0,_⟩
     ·obtain⟨r,q1,q2,q3,q4⟩:=fw (P:=P) (w:=w) hb h1 h2 h3 q0 true c' (aa4 _)
      have r':(Instr.sliceBounds true n c' n0 o0 mx').run P w=.ok (l,hh,k) w:=by
       rw[r];cases mx with
       |none=>simp[q4 rfl]
       |some _=>simp
      refine⟨_,fy f.fa g0 r',?_⟩;by_cases H:k=l
      ·subst H;simp only[acq,cond_true,acU];exact .slice a bi _ _ b0 d0 a0
      have:Nat.beq k l=false:=by
       cases hq:Nat.beq k l with
       |true=>exact absurd (abn hq) H
       |false=>rfl
      rw[this,abd H];simp only[abm,abi,dW,aV d0];rw[j0];exact .slice ⟨a.block,a.off+l*ei.size,none⟩ bi _ _ b0 rfl a0
     ·grind
    ·grind
  cases h
 ·rename_i n e a hd;rw[f.d]at hd;obtain rfl:=jj hd;split at h
  ·rename_i l hh k hb
   cases hz:(oY m a ||Nat.beq ti.es 0)with
   |true=>rw[hz]at h;simp at h
   |false=>
    rw[hz]at h;simp only[abm,abf]at h;subst h;simp only[acB]at hz;obtain⟨ei,g0,p0⟩:=pR (P:=P) (u:=.array n e) (by rw[<-f.es];exact abY hz.2) (.inr ⟨n,rfl⟩);have j0:ti.es=ei.size:=by rw[f.es,p0]
    obtain⟨bi,b0,d0,rfl⟩:=hx.gW
    have a0:bi.gr=none:=by
     have h0:=hz.1;unfold oY at h0;split at h0
     ·rename_i cs te hg;have⟨_,_,_,_,v0⟩:=hs.cells b0 hg;exact v0.1
     cases h0
    obtain⟨r,q1,q2,q3,q4⟩:=fw (P:=P) (w:=w) hb h1 h2 h3 (aa4 _) false n (aa4 _)
    have r':(Instr.sliceBounds false n n n0 o0 mx').run P w=.ok (l,hh,k) w:=by
     rw[r];cases mx with
     |none=>simp[q4 rfl]
     |some _=>simp
    refine⟨.slice (some (if k=l then⟨bi.cI,a.off,none⟩else(⟨bi.cI,a.off,none⟩:Addr).add (l*ei.size))) (hh-l) (k-l),by simp only[Instr.sliceAt,abo,abj f.fa,abg,Instr.sureAddr,abD,r',run_sizeOf g0],?_⟩;by_cases H:k=l
    ·subst H;simp only[acq,cond_true,acU];exact .slice a bi _ _ b0 d0 a0
    have:Nat.beq k l=false:=by
     cases hq:Nat.beq k l with
     |true=>exact absurd (abn hq) H
     |false=>rfl
    rw[this,abd H];simp only[abm,dW,aV d0];rw[j0];exact .slice ⟨a.block,a.off+l*ei.size,none⟩ bi _ _ b0 rfl a0
  cases h
 cases h
end
end
section
section
variable {E:Env} {P:Program} {σ:Sg} {m m':M} {w:World}
theorem ig{a b:Nat}(h:a≠b):Nat.beq a b=false:=by
 cases H:Nat.beq a b with
 |true=>exact absurd (abn H) h
 |false=>rfl
theorem bK.NQ{l:aeN}(h:∀v∈l,bF v):bK σ l l:=⟨rfl,λj u H a b=>by
 rw[a]at b;cases b
 exact .flat _ (h u (abb a))⟩
theorem pI(hs:eN P σ m w){s n:Nat}{x x':aeM}{cs:aeN}(h:first? m s n x=some cs)(hx:bw σ x x')(hn:∀l,lY x=some l->n<=l):
  ∃H:aeN,(Builtin.firstCells s n x').run P w=.ok H.toArray w/\bK σ cs H:=by
 unfold first? at h;split at h
 ·rename_i a len cap;obtain⟨bi,a',c',b0,rfl,a0⟩:=hx.dL;by_cases h0:n=0
  ·subst h0;simp only[acq,cond_true,abf]at h;subst h;refine⟨[],?_,bK.nil⟩;have:=run_loadCells_list (P:=P) w a' [] (by simp);simpa[Builtin.firstCells]using this
  rw[ig h0]at h;simp only[abm]at h;rcases a0 with⟨d0,rfl,_⟩ |⟨rfl,_,_⟩
  ·have⟨H,h1,h2,_,_⟩:=gX hs b0 h;exact⟨H,by simpa[Builtin.firstCells]using h1,h2⟩
  have:=hn 0 rfl;omega
 ·cases h;obtain⟨_,_,rfl⟩:=hx.eS;exact⟨[],by simp[Builtin.firstCells],bK.nil⟩
 ·rename_i b;cases h;rw[hx.string];refine⟨((b.extract 0 n).data.toList.map λb=> .int .u8 b.toNat),?_,bK.NQ ?_⟩
  ·simp only[Builtin.firstCells,abD]
   congr 1
   grind
  intro v hv;obtain⟨b,_,rfl⟩:=abQ.1 hv;rfl
 cases h
theorem tF{x H:aeM}{n:Nat}(h:lY x=some n)(hx:bw σ x H):(Builtin.lenOf H).run P w=.ok n w:=by
 unfold lY at h;split at h
 ·cases h;obtain⟨b',c',rfl,_⟩:=hx.uH;rfl
 ·cases h;rw[hx.string];rfl
 cases h
theorem iF{t u ty e:TypeId}{i:TypeInfo}{uu:TypeDesc}(ht:P.underlying t=some (.slice e))(hi:P.info? e=some i)(hu:P.underlying u=some uu)(a0:∀k,uu≠.int k)
  {base:Option Addr} {sl sc n:Nat} {x:aeM} {new:aeN} {w':World} (hl:(Builtin.lenOf x).run P w=.ok n w) (hf:(Builtin.firstCells i.size n x).run P w=.ok new.toArray w) (hle:sl+n<=sc)
  (H:(match base with |some a=>Go.storeCells (a.add (sl*i.size)) new |none=>pure ()).run P w=.ok () w'):
  (Builtin.append_ #[t,u] ty #[.slice base sl sc,x]).run P w=.ok (.slice base (sl+n) sc) w':=by
 cases base with
 |none=>simp only[abD]at H;cases H;simp[Builtin.append_,abj ht,abj hu,run_sizeOf hi,hl,hf,hle]
 |some a=>simp only at H;simp[Builtin.append_,abj ht,abj hu,run_sizeOf hi,hl,hf,hle,H]
theorem yp{t u ty e:TypeId}{i:TypeInfo}{uu:TypeDesc}{z:aeM}(ht:P.underlying t=some (.slice e))(hi:P.info? e=some i)(hu:P.underlying u=some uu)(e0:∀k,uu≠.int k)
  (hz:i.zero=some z) {base:Option Addr} {sl sc n:Nat} {x:aeM} {fR new:aeN} (hl:(Builtin.lenOf x).run P w=.ok n w) (ho:(Builtin.firstCells i.size sl (.slice base sl sc)).run P w.drew=.ok fR.toArray w.drew)
  (hf:(Builtin.firstCells i.size n x).run P w.drew=.ok new.toArray w.drew) (b0:sc < sl+n) (hb:i.bytes<=65536) (hn:sl+n<=268435456):
  ∃N,sl+n<=N/\(Builtin.append_ #[t,u] ty #[.slice base sl sc,x]).run P w=.ok (aeL w.heap.size 0 (sl+n) N) (w.drew.alloc (.cells (fR++new++(Builtin.zeroCells z.cells (N-(sl+n))).toList).toArray e)):=by
 refine⟨grownCap w (sl+n) sc e,grownCap_ge _ _ _ _,?_⟩
 have h1:¬(sl+n<=sc):=by omega
 have d0:=growslice_fits (bytes:=i.bytes) b0 (by
  calc (sl+n)*i.bytes<=268435456*65536:=aeq hn hb
   _<=_:=by decide)
 have H:¬(281474976710656 < Builtin.nextslicecap (sl+n) sc*i.bytes):=by omega
 have a0:¬(9223372036854775807 < ((sl:Int)+(n:Int))):=by omega
 simp[Builtin.append_,abj ht,abj hu,sizeOf,typeInfo,zeroValue,hi,hz,hl,h1,H,a0,Question.forced,hf,ho,newRow,grownCap]
 congr 2
 grind
theorem Kr(hs:eN P σ m w){fR news H a0 rest:aeN}{e k sl n N:Nat}(h1:bK σ fR H)(h2:bK σ news a0)(l1:fR.length=sl*k)(l2:news.length=n*k)(hk:0 < k)(hn:0 < sl+n)
  (hN:sl+n<=N) (lr:rest.length=(N-(sl+n))*k):
  Ev P σ m w (σ.add m.n ⟨w.heap.size,some (k,(sl+n)*k,N*k)⟩) (m.push (.cells (fR++news) e (some k))) (w.drew.alloc (.cells (H++a0++rest).toArray e))/\
  bw (σ.add m.n ⟨w.heap.size,some (k,(sl+n)*k,N*k)⟩) (aeL m.n 0 (sl+n) (sl+n)) (aeL w.heap.size 0 (sl+n) N):=by
 have hlen:(fR++news).length=(sl+n)*k:=by grind
 have b0:(H++a0).length=(sl+n)*k:=by rw[<-hlen,(h1.append h2).1]
 have e0:((H++a0++rest).toArray).size=N*k:=by
  rw[adG,abO,b0,lr,<-acg]
  grind
 have h0:0 < (sl+n)*k:=Nat.mul_pos hn hk;have hle:(sl+n)*k<=N*k:=ab4 _ hN;have g0:eN P σ m w.drew:=hs.of_heap rfl
 have d0:=HM (g:=some k) (e:=e) (c:=fR++news) (c':=(H++a0++rest).toArray) g0 (by grind) (by
  rw[hlen,<-b0];simp only[List.take_left'];exact h1.append h2) (by
  refine⟨?_,hk,by grind⟩;rfl)
 have he:Uj (fR++news).length ((H++a0++rest).toArray).size (some k)=some (k,(sl+n)*k,N*k):=by rw[hlen,e0];rfl
 rw[he]at d0;refine⟨(Ev.of_heap hs rfl rfl rfl rfl:Ev P σ m w σ m w.drew).trans d0,?_⟩;exact .iC ⟨m.n,0,none⟩ ⟨w.heap.size,_⟩ _ _ _ k ((sl+n)*k) (N*k) (Sg.add_same _ _) rfl rfl (.inr ⟨hN,by simp,by simp⟩)
theorem CU(hE:E.OK P)(hs:eN P σ m w){t u ty:TypeId}{s x s' x' v:aeM}(h:eA E m t u s x=some (v,m'))(hx:bw σ s s')(hy:bw σ x x'):
  Ah P σ m w (Builtin.append_ #[t,u] ty #[s',x']) v m':=by
 unfold eA at h;split at h
 ·rename_i ti ui base sl sc n A1 B1 j1;have⟨i,ut,f⟩:=hE.lS A1;have⟨iu,uu,fu⟩:=hE.lS B1;split at h;·cases h
  ·rename_i e hd C1;rw[f.d]at hd;obtain rfl:=dj hd
   have g0:∀k,uu≠.int k:=by rintro k rfl;exact C1 k fu.d
   split at h
   ·rename_i ei news k1 D1
    have⟨ie,ue,fe⟩:=hE.lS k1
    have i0:ti.es=ie.size:=by rw[f.es];simp[zg,fe.info]
    cases hb:(Nat.beq ti.es 0 ||Nat.blt 65536 ei.bytes || !news.all one ||Nat.blt 268435456 (sl+n) || !Nat.beq news.length (n*ti.es) || !gV ei.zero ti.es)with
    |true=>rw[hb]at h;simp at h
    |false=>
     rw[hb]at h
     simp only[abm]at h
     simp only[acB,abu]at hb
     have⟨⟨⟨⟨⟨b1,b2⟩,b3⟩,b4⟩,b5⟩,b6⟩:=hb
     have a2:=abY b1
     have E1:ie.bytes<=65536:=by rw[kA]at b2;have:=fe.bytes;simp at b2;omega
     have O0:sl+n<=268435456:=by rw[kA]at b4;simp at b4;omega
     have r0:=abn b5
     obtain⟨z,hz,F1⟩:∃z,ie.zero=some z/\z.cells.size=ie.size:=by
      cases E0:ei.zero with
      |none=>rw[E0]at b6;simp[gV]at b6
      |some z=>rw[E0]at b6;have:=abn b6;have G1:=(bw.fD (σ:=σ) (hE.flat k1 E0)).cells.1;refine⟨z,by rw[<-fe.zero];exact E0,?_⟩;simp only[ach]at G1;omega
     have s0:=λw=>tF (P:=P) (w:=w) j1 hy
     have b0:=λ(w:World) (hs:eN P σ m w)=>pI (P:=P) hs D1 hy (λl hl=>by rw[j1]at hl;cases hl;exact aa4 _)
     rw[i0]at b0 r0
     cases j0:Nat.ble (sl+n) sc with
     |true=>
      rw[j0]at h
      have hle:=abB j0
      simp only[cond_true]at h
      have⟨H,o0,l0⟩:=b0 w hs
      cases base with
      |none=>
       obtain⟨rfl,rfl,rfl⟩:=hx.eS;simp only at h;obtain rfl:n=0:=by omega
       simp only[acq,cond_true,abf,abP]at h;obtain⟨rfl,rfl⟩:=h;refine Ah.pure hs (iF f.fa fe.info fu.fa g0 (base:=none) (s0 w) o0 (aa4 _) rfl) (.flat _ rfl)
      |some a=>
       obtain⟨bi,a',c',n0,rfl,d0⟩:=hx.dL;by_cases h0:n=0
       ·subst h0;simp only[acq,cond_true,abi,abf,abP]at h;obtain⟨rfl,rfl⟩:=h
        have l1:H=[]:=by have:=l0.1;rw[r0]at this;simpa using this.symm
        subst l1
        have u0:sl+0<=c':=by rcases d0 with⟨_,_,⟨_,rfl⟩ |⟨k,sz,N,hk,rfl |⟨e0,e1,e2⟩⟩⟩ |⟨rfl,_⟩ <;>omega
        refine Ah.pure hs (iF f.fa fe.info fu.fa g0 (base:=some a') (s0 w) o0 u0 rfl) hx
       rw[ig h0]at h;simp only[abm,abq,abP]at h;obtain⟨m2,v0,rfl,rfl⟩:=h;rcases d0 with⟨F0,rfl,q0⟩ |⟨rfl,rfl,_⟩
       ·have u0:sl+n<=c':=by rcases q0 with⟨_,rfl⟩ |⟨k,sz,N,hk,rfl |⟨e0,e1,e2⟩⟩ <;>omega
        rw[aV F0,i0]at v0;have⟨w',H1,I1,_⟩:=gB (a:=⟨a.block,a.off+sl*ie.size,none⟩) hs n0 l0 v0;refine⟨σ,w',_,iF f.fa fe.info fu.fa g0 (base:=some ⟨bi.cI,a.off,none⟩) (s0 w) o0 u0 (by simp only[dW];exact H1),?_,I1⟩;rcases q0 with⟨hg,rfl⟩ |⟨k,sz,N,hk,hc⟩;·exact .slice a bi _ _ n0 F0 hg
        exact .iC a bi _ _ _ k sz N n0 F0 hk hc
       omega
     |false=>
      rw[j0]at h
      have J1:sc < sl+n:=by
       rcases adS sc (sl+n)with hh |hh;·exact hh
       rw[abT hh]at j0;cases j0
      simp only[abm]at h;have Q0:0 < ti.es:=by omega
      have fresh:∀(m1:M) (p0:Option Addr) (c':Nat) (fR a0:aeN),Ev P σ m w σ m1 w->m1.n=m.n->
        (Builtin.firstCells ie.size sl (.slice p0 sl c')).run P w.drew=.ok a0.toArray w.drew->bK σ fR a0->fR.length=sl*ti.es->c' < sl+n->
        s'=.slice p0 sl c'->v=aeL m.n 0 (sl+n) (sl+n)->m'=m1.push (.cells (fR++news) e (some ti.es))->Ah P σ m w (Builtin.append_ #[t,u] ty #[s',x']) v m':=by
       rintro m1 p0 c' fR a0 he K1 ho G0 y0 hc rfl rfl rfl
       obtain⟨H,o0,l0⟩:=b0 w.drew (hs.of_heap rfl)
       have⟨N,hN,z0⟩:=yp (ty:=ty) f.fa fe.info fu.fa g0 hz (s0 w) ho o0 hc E1 O0
       obtain⟨g1,g2⟩:=Kr (e:=e) (rest:=(Builtin.zeroCells z.cells (N-(sl+n))).toList) he.sH G0 l0 y0 (by rw[r0,i0]) Q0 (by omega) hN (by rw[ach,size_zeroCells,F1,i0])
       refine⟨_,_,_,z0,?_,he.trans g1⟩
       rw[K1]at g2⊢
       exact g2
      unfold lZ at h;split at h
      ·cases hq:(Nat.beq sl 0 && Nat.beq sc 0)with
       |false=>rw[hq]at h;simp at h
       |true=>rw[hq]at h;simp only[cond_true,abf,abP]at h;simp only[abc]at hq;obtain rfl:=abn hq.1;obtain rfl:=abn hq.2;obtain⟨rfl,rfl⟩:=h;refine fresh m none 0 [] [] (Ev.refl hs) rfl (by simp[Builtin.firstCells]) bK.nil (by simp) J1 (hx.bM rfl) rfl rfl
      rename_i a;have⟨bi,a',c',n0,H0,d0⟩:=hx.dL;split at h
      ·rename_i cs te g fR hg hold
       have⟨row,J0,hlen,L1,a1⟩:=hs.cells n0 hg
       have N1:∀w1,eN P σ m w1->∃a0,(Builtin.firstCells ie.size sl (.slice (some a') sl c')).run P w1=.ok (a0:aeN).toArray w1/\bK σ fR a0:=by intro w1 h1;have A0:first? m ti.es sl (.slice (some a) sl sc)=some fR:=hold;have:=pI (P:=P) h1 A0 hx (λl hl=>by cases hl;exact aa4 _);rw[H0,i0]at this;exact this
       have y0:fR.length=sl*ti.es:=by
        by_cases h0:sl=0
        ·subst h0;simp only[acq,cond_true,abf]at hold;subst hold;simp
        rw[ig h0]at hold;simp only[abm]at hold;have⟨_,_,_,hl,_⟩:=gX hs n0 hold;exact hl
       obtain⟨a0,K0,G0⟩:=N1 w.drew (hs.of_heap rfl)
       cases hq:(g.isNone ||(g==some ti.es && Nat.blt (a.off+sc*ti.es) cs.length))with
       |true=>
        rw[hq]at h
        simp only[cond_true,abf,abP]at h
        obtain⟨rfl,rfl⟩:=h
        refine fresh m (some a') c' fR a0 (Ev.refl hs) rfl K0 G0 y0 ?_ H0 rfl rfl
        cases g with
        |none=>
         have c1:=a1.1
         grind
        |some k0=>
         have⟨B0,o1,p1⟩:=a1
         simp only[ad3,adt,abc,beq_iff_eq,abf]at hq
         obtain⟨rfl,hq⟩:=hq
         rw[kA]at hq
         grind
       |false=>
        rw[hq]at h
        simp only[abm]at h
        cases I0:(g==some ti.es && Nat.beq a.off 0 && a.spot.isNone && Nat.beq (sl*ti.es) cs.length && Nat.beq sc sl && Nat.beq te e)with
        |false=>rw[I0]at h;simp at h
        |true=>
         rw[I0]at h;simp only[cond_true,abf,abP]at h;obtain⟨rfl,rfl⟩:=h;simp only[abc]at I0;have⟨⟨⟨⟨⟨q1,q2⟩,q3⟩,q4⟩,q5⟩,q6⟩:=I0;obtain rfl:=abn q6;have q1:g=some ti.es:=by simpa using q1
         subst q1;have q2:=abn q2;have q4:=abn q4;obtain rfl:=abn q5;have⟨B0,o1,p1⟩:=a1;have C0:m.get a.block≠.dead:=by rw[hg];simp
         by_cases O1:c' < sc+n
         ·have hw:=Ev.write (w':=w) (ob:=.dead) hs n0 C0 trivial (λ_ _=>rfl) rfl rfl rfl rfl;exact fresh _ (some a') c' fR a0 hw rfl K0 G0 y0 O1 H0 rfl rfl
         ·
          have P1:sc≠0:=by rintro rfl;simp at q4;omega
          rcases d0 with⟨F0,rfl,q0⟩ |⟨rfl,_⟩
          ·rcases q0 with⟨c1,_⟩ |⟨k,sz,N,hk,q0⟩;·rw[B0]at c1;cases c1
           rw[B0]at hk;simp only[abf,abP]at hk;obtain⟨rfl,rfl,rfl⟩:=hk;rcases q0 with rfl |⟨e0,e1,e2⟩;·omega
           have⟨H,o0,l0⟩:=b0 w hs
           have d1:fR=cs:=by
            rw[ig P1]at hold
            simp only[abm]at hold
            unfold loadCells at hold
            rw[hg]at hold
            simp only[q2,abV,q4,abU,abR]at hold
            cases r1:(a.spot.isNone && Nat.ble cs.length cs.length)with
            |false=>rw[r1]at hold;simp at hold
            |true=>rw[r1]at hold;simpa using hold.symm
           subst d1;have L0:H.length=n*ti.es:=by rw[<-l0.1,r0,i0]
           have D0:(sc+n)*ti.es<=row.size:=by rw[<-e2,q2,abV];exact ab4 _ (by omega)
           rw[acg]at D0;have u1:=l0.fB b3;have v0:=run_storeCells_at (P:=P) bi.cI (sc*ti.es) te H 0 row w J0 (by omega) u1;simp only[acY]at v0
           have v1:(row.toList.take (sc*ti.es)++H).length=(sc+n)*ti.es:=by rw[abO,acr,L0,acg,ach];omega
           have y1:(row.toList.take (sc*ti.es)++H++row.toList.drop (sc*ti.es+H.length)).length=row.size:=by rw[abO,v1,adJ,L0,ach,acg];omega
           have i1:(fR++news).length=(sc+n)*ti.es:=by rw[abO,y0,r0,<-i0,acg]
           have z1:bK σ (fR++news) (row.toList.take (sc*ti.es)++H):=by rw[q4];exact L1.append l0
           have T1:=Ev.TH (ob:=.cells (fR++news) te (some ti.es)) (gr:=some (ti.es,(sc+n)*ti.es,row.size)) (w':=w.setRow bi.cI (row.toList.take (sc*ti.es)++H++row.toList.drop (sc*ti.es+H.length)).toArray) hs n0 C0
            (by
             refine⟨_,setRow_heap w bi.cI row _ te _ J0,?_,?_,?_⟩;·rw[i1,adG,y1,acg];exact D0
             ·rw[i1,<-v1];simp only[List.take_left'];exact z1.mono (Sg.yN hs.mX)
             have N0:=y1;rw[<-adG]at N0;rw[i1,N0];exact⟨rfl,Q0,Nat.mul_pos (by omega) Q0⟩)
            (λB hB=>by simp only[World.setRow,adN];rw[abd (λe=>hB e.symm)])
            (by simp[World.setRow]) rfl rfl rfl
           have z0:=iF (ty:=ty) f.fa fe.info fu.fa g0 (base:=some ⟨bi.cI,a.off,none⟩) (s0 w) o0 (show sc+n<=c' by omega) (by simp only[dW,q2,abV,<-i0];exact v0)
           rw[H0];refine⟨_,_,_,z0,?_,T1⟩;rw[q2];exact .iC ⟨m.n,0,none⟩ ⟨bi.cI,some (ti.es,(sc+n)*ti.es,row.size)⟩ _ _ _ ti.es ((sc+n)*ti.es) row.size (Sg.add_same _ _) rfl rfl (.inr ⟨by omega,by simp,by rw[<-e2,q2]⟩)
          ·omega
      cases h
   cases h
  cases h
 cases h
end
end
section
section
variable {E:Env} {P:Program} {σ:Sg} {m m':M} {w:World}
theorem rI(a:Addr):(Go.storeCells a []).run P w=.ok () w:=by simp[Go.storeCells]
theorem Gl{s:Nat}{x:aeM}{cs:aeN}(h:first? m s 0 x=some cs):cs=[]:=by
 unfold first? at h;split at h
 ·simp_all
 ·grind
 ·simp_all
 cases h
theorem Gx(hE:E.OK P)(hs:eN P σ m w){t ty:TypeId}{ts:Array TypeId}{d x d' x' v:aeM}(ht:ts[0]?=some t)(h:zn E m t d x=some (v,m'))(hd:bw σ d d')(hx:bw σ x x'):
  Ah P σ m w (Builtin.copy_ ts ty #[d',x']) v m':=by
 unfold zn at h;split at h
 ·rename_i ti base dl _ xl g0 i0;have⟨i,u,f⟩:=hE.lS g0;split at h
  ·rename_i e cs e0 hf
   rw[f.d]at e0
   obtain rfl:=dj e0
   cases hz:Nat.beq ti.es 0 with
   |true=>rw[hz]at h;simp at h
   |false=>
    rw[hz]at h
    simp only[abm]at h
    obtain⟨ei,a0,j0⟩:=pR (P:=P) (u:=.slice e) (by rw[<-f.es];exact abY hz) (.inl rfl)
    have k0:ti.es=ei.size:=by rw[f.es,j0]
    rw[k0]at hf
    have hn:Nat.min xl dl=min xl dl:=rfl
    have b0:=tF (P:=P) (w:=w) i0 hx
    obtain⟨q0,H,hr⟩:=pI (P:=P) hs hf hx (by grind)
    cases base with
    |none=>obtain⟨rfl,_,rfl⟩:=hd.eS;cases h;refine Ah.pure hs (v':=aeP (min xl 0:Nat)) ?_ (.flat _ rfl);simp[Builtin.copy_,ht,abj f.fa,b0,run_sizeOf a0]at H⊢;simp[H,goInt]
    |some a=>
     obtain⟨bi,a',c',l0,rfl,d0⟩:=hd.dL;simp only[abq,abP]at h;obtain⟨m2,h,rfl,rfl⟩:=h;by_cases h0:min xl dl=0
     ·rw[h0]at h;simp only[acq,cond_true,abf]at h;subst h;rw[h0]at hf H;have n0:=Gl hf;subst n0;obtain rfl:=hr.nil_eq;refine Ah.pure hs (v':=aeP (min xl dl:Nat)) ?_ (.flat _ rfl);simp[Builtin.copy_,ht,abj f.fa,b0,run_sizeOf a0,hn,h0,H,rI,goInt]
     rw[ig h0]at h;simp only[abm]at h;rcases d0 with⟨r0,rfl,_⟩ |⟨rfl,_⟩
     ·have⟨w',o0,p0,_⟩:=gB hs l0 hr h;refine⟨σ,w',aeP (min xl dl:Nat),?_,.flat _ rfl,p0⟩;simp[Builtin.copy_,ht,abj f.fa,b0,run_sizeOf a0,hn,H,o0,goInt]
     ·grind
  cases h
 cases h
theorem EK(hE:E.OK P)(hs:eN P σ m w){t ty:TypeId}{x x' v:aeM}(h:rZ E m t x=some (v,m'))(hx:bw σ x x'):
  Ah P σ m w (Builtin.clear_ #[t] ty #[x']) v m':=by
 unfold rZ at h;split at h
 ·rename_i ti _ _ H;have⟨i,u,f⟩:=hE.lS H;cases h;obtain⟨_,_,rfl⟩:=hx.eS;refine Ah.pure hs (v':=.tuple #[]) ?_ bw.undef;simp[Builtin.clear_,abj f.fa]
 ·rename_i ti a n _ H;have⟨i,u,f⟩:=hE.lS H;obtain⟨bi,a',c',b0,rfl,a0⟩:=hx.dL;by_cases h0:n=0
  ·subst h0;simp only[acq,cond_true,abf,abP]at h;obtain⟨rfl,rfl⟩:=h;refine Ah.pure hs (v':=.tuple #[]) ?_ bw.undef;simp[Builtin.clear_,abj f.fa]
  rw[ig h0]at h;simp only[abm]at h;split at h
  ·rename_i e hd;rw[f.d]at hd;obtain rfl:=dj hd;split at h
   ·rename_i z hz
    simp only[abq,abP]at h
    obtain⟨m2,h,rfl,rfl⟩:=h
    unfold iZ at hz
    cases he:E.ty.get e with
    |none=>rw[he]at hz;simp at hz
    |some ei=>
     rw[he]at hz;simp only[acC]at hz;have⟨ie,ue,fe⟩:=hE.lS he;have d0:=(bw.fD (σ:=σ) (hE.flat he hz)).cells;have hr:=dC (w:=w) fe.info (by rw[<-fe.zero];exact hz);rcases a0 with⟨j0,rfl,_⟩ |⟨rfl,_⟩
     ·have⟨w',e0,g0,_⟩:=gB hs b0 (qi d0 n) h;refine⟨σ,w',.tuple #[],?_,bw.undef,g0⟩;have i0:(Builtin.zeroCells z.cells n).toList=iA z.cells.toList n:=by rw[Builtin.zeroCells,pk]
      obtain⟨n,rfl⟩:∃k,n=k+1:=⟨n-1,by omega⟩
      simp[Builtin.clear_,abj f.fa,hr,i0,e0]
     omega
   cases h
  cases h
 cases h
theorem Kk(hE:E.OK P)(hs:eN P σ m w){t ty:TypeId}{x x' v:aeM}(h:oL E m t x=some v)(hx:bw σ x x'):(Builtin.len_ #[t] ty #[x']).run P w=.ok v w/\bF v:=by
 unfold oL at h;split at h;·cases h
 rename_i ti a0;have⟨i,u,f⟩:=hE.lS a0;split at h
 ·rename_i s H;rw[f.d]at H;obtain rfl:=iH H;cases h;rw[hx.string];exact⟨by simp[Builtin.len_,abj f.fa,goInt],rfl⟩
 ·rename_i n e H;rw[f.d]at H;obtain rfl:=jj H;cases h;exact⟨by simp[Builtin.len_,abj f.fa,goInt],rfl⟩
 ·rename_i e b n c H;rw[f.d]at H;obtain rfl:=dj H;cases h;obtain⟨b',c',rfl,_⟩:=hx.uH;exact⟨by simp[Builtin.len_,abj f.fa,goInt],rfl⟩
 ·rename_i k e H;rw[f.d]at H;obtain rfl:=kZ H;cases h;rw[hx.map_nil];exact⟨by simp[Builtin.len_,abj f.fa,goInt],rfl⟩
 ·rename_i k e r H;rw[f.d]at H;obtain rfl:=kZ H;split at h
  ·rename_i es clock hg;cases h;obtain⟨bi,b0,rfl⟩:=hx.nL;have ho:=hs.obj _ _ b0;rw[hg]at ho;have⟨_,d0,h1,h2,_⟩:=ho;refine⟨?_,rfl⟩;have e0:(getObj bi.cI).run P w=.ok (.map d0 clock) w:=by simp[getObj,Sem.run,h1]
   simp[Builtin.len_,abj f.fa,e0,goInt,h2]
  cases h
 cases h
theorem wj{g:Int->Int->Int}{op:aeM->aeM->Sem aeM}(a0:∀k x k' y,(op (.int k x) (.int k' y)).run P w=.ok (.int k (g x y)) w):
  ∀(l H:aeN) (k:IntKind) (x:Int) (v:aeM),bK σ l H->Ew g k x l=some v->(H.foldlM op (.int k x)).run P w=.ok v w/\bF v=true
 |[],H,k,x,v,hl,h=>by
  obtain rfl:=hl.nil_eq
  simp only[Ew,abf]at h
  subst h
  exact⟨rfl,rfl⟩
 |y::l,H,k,x,v,hl,h=>by
  unfold Ew at h
  split at h
  ·grind
  ·rename_i k' y' rest heq
   cases heq
   obtain⟨v',l2,rfl,hv,b0⟩:=hl.cases
   rw[hv.int]
   obtain⟨h1,h2⟩:=wj a0 _ _ _ _ _ b0 h
   simp_all
  ·cases h
theorem pH{g:Int->Int->Int}{op:aeM->aeM->Sem aeM}(H:∀k x k' y,(op (.int k x) (.int k' y)).run P w=.ok (.int k (g x y)) w){l l':aeN}{v:aeM}(hl:bK σ l l')(h:dw g l=some v):
  ∃x rest,l'=x::rest/\(rest.foldlM op x).run P w=.ok v w/\bF v:=by
 unfold dw at h;split at h
 ·obtain⟨v',l2,rfl,hv,a0⟩:=hl.cases;rw[hv.int];exact⟨_,_,rfl,wj H _ _ _ _ _ a0 h⟩
 cases h
theorem zT(H:eN P σ m w)(t:TypeId):Ah P σ m w (Instr.makeMap t none) (.map (some m.n)) (m.push (.map [] 0)):=by
 refine⟨σ.add m.n ⟨w.heap.size,none⟩,w.alloc (.map #[] 0),.map (some w.heap.size),?_,.map _ ⟨w.heap.size,none⟩ (Sg.add_same _ _),?_⟩;·simp[Instr.makeMap]
 exact Ev.uZ H ⟨rfl, #[],heap_alloc_new w _,rfl,by grind⟩
theorem nP{H:TypeId}{k:aeM}(h:keyed E H k):dG k:=by
 unfold keyed at h;split at h
 ·split at h;·rfl
  ·rfl
  ·rfl
  ·simp only[abc]at h;exact h.1.2
  cases h
 cases h
theorem bw.jL{v v':aeM}(h:bw σ v v')(h0:dG v):v'=v:=by
 by_cases hc:bF v=true;·exact h.bM hc
 ·cases v with
  |agg a=>
   obtain⟨a',rfl,ha⟩:=h.kC
   congr 1
   apply ac0
   apply aco
   intro j
   cases H:a.toList[j]? with
   |none=>exact ace (by rw[<-ha.1];exact adw.1 H)
   |some u=>have⟨u',hu,hr⟩:=ha.get H;rw[hu,hr.bM (abw.1 h0 u (abb H))]
  |_=>exact absurd h0 hc
theorem Fz(hE:E.OK P){t:TypeId}(h:scalar E t):∃u,P.underlying t=some u/\(u=.bool\/(∃k,u=.int k)\/u=.string):=by
 unfold scalar at h;split at h
 ·rename_i fi a0;have⟨i,u,f⟩:=hE.lS a0;refine⟨u,f.fa,?_⟩;split at h;·rename_i H;exact .inl (qy (by rw[<-f.d];exact H))
  ·rename_i k H;exact .inr (.inl ⟨k,lg (by rw[<-f.d];exact H)⟩)
  ·rename_i H;exact .inr (.inr (iH (by rw[<-f.d];exact H)))
  cases h
 cases h
theorem rh(hE:E.OK P)(e:Bool)(n:Nat)(cs:Array aeM):∀gs:List Field,(∀g∈gs,g.offset < cs.toList.length/\scalar E g.type)->
  (forIn (m:=Sem) gs PUnit.unit λf _=>
   if f.name≠ "_" then do
    let x<-Go.part f.type cs f.offset
    Instr.checkKey e (n+1) f.type x
    pure (ForInStep.yield PUnit.unit)
   else pure (ForInStep.yield PUnit.unit)).run P w=.ok PUnit.unit w
 |[],_=>rfl
 |g::gs,h=>by
  have⟨h1,h2⟩:=h g abN
  have⟨u,hu,H⟩:=Fz hE h2
  have ih:=rh hE e n cs gs (λg hg=>h g (abS _ hg))
  have hp:(Go.part g.type cs g.offset).run P w=.ok cs[g.offset]! w:=by
   unfold Go.part
   have h3:g.offset < cs.size:=by grind
   have ha:=tA (P:=P) u w g.type hu
   have a0:(ij P u).agg=false:=by
    rcases H with rfl |⟨k,rfl⟩ |rfl <;>rfl
   simp_all
  have hk:∀v,(Instr.checkKey e (n+1) g.type v).run P w=.ok () w:=by
   intro v
   rcases H with rfl |⟨k,rfl⟩ |rfl <;>simp[Instr.checkKey,abj hu]
  simp_all
theorem lK(hE:E.OK P){kt:TypeId}{k:aeM}(h:keyed E kt k)(e:Bool)(n:Nat):(Instr.checkKey e (n+2) kt k).run P w=.ok () w:=by
 unfold keyed at h;split at h
 ·rename_i ti a0;have⟨i,u,f⟩:=hE.lS a0;split at h
  ·rename_i H;rw[f.d]at H;obtain rfl:=qy H;simp[Instr.checkKey,abj f.fa]
  ·rename_i H;rw[f.d]at H;obtain rfl:=lg H;simp[Instr.checkKey,abj f.fa]
  ·rename_i H;rw[f.d]at H;obtain rfl:=iH H;simp[Instr.checkKey,abj f.fa]
  ·rename_i fs cs H
   rw[f.d]at H
   obtain⟨gs,rfl,rfl⟩:=fX H
   simp only[abc]at h
   have:=rh (w:=w) hE e n cs gs.toList (λg hg=>by have:=abw.1 h.2 _ (acP (f:=tB P) hg);simp only[abc]at this;refine⟨?_,this.2⟩;have h2:=this.1.2;rw[kA]at h2;simpa[tB]using aba h2)
   rw[Array.forIn_toList]at this
   unfold Instr.checkKey
   simp only[abo,abj f.fa,abg]
   simp_all
  cases h
 cases h
def uq(σ:Sg)(es H:List MapEntry):Prop:=es.length=H.length/\∀(j:Nat) e e',es[j]?=some e->H[j]?=some e'->e'.key=e.key/\e'.born=e.born/\dG e.key=true/\bw σ e.val e'.val
theorem uq.tail{e e':MapEntry}{es H:List MapEntry}(h:uq σ (e::es) (e'::H)):uq σ es H:=
 ⟨by simpa using h.1,λj a b x y=>h.2 (j+1) a b (by grind) (by grind)⟩
theorem uq.cases{e:MapEntry}{es x:List MapEntry}(h:uq σ (e::es) x):∃e' H,x=e'::H/\uq σ es H/\e'.key=e.key/\dG e.key/\bw σ e.val e'.val:=by
 cases x with
 |nil=>have:=h.1;simp at this
 |cons e' H=>have⟨h1,_,h3,h4⟩:=h.2 0 e e' rfl rfl;exact⟨e',H,rfl,h.tail,h1,h3,h4⟩
def Sz(σ:Sg):Option (Nat×aeM)->Option (Nat×aeM)->Prop
 |none,none=>True
 |some (i,v),some (j,H)=>i=j/\bw σ v H
 |_,_=>False
theorem rk{kt:TypeId}{k:aeM}{ti:TI}{u:TypeDesc}{it:TypeInfo}(b0:E.ty.get kt=some ti)(f:TIF P kt ti it u)(hu:u=.bool\/(∃k,u=.int k)\/u=.string):
  ∀(es H:List MapEntry) (i:Nat) (r:Option (Nat×aeM)),uq σ es H->findKey E kt k es i=some r->∃r',Instr.findNow u k H i=some r'/\Sz σ r r'
 |[],H,i,r,h,hf=>by
  have:H=[]:=acu h.1.symm
  subst this
  simp only[findKey,abf]at hf
  subst hf
  exact⟨none,rfl,trivial⟩
 |e::es,x,i,r,h,hf=>by
  obtain⟨e',H,rfl,ht,hk,_,hv⟩:=h.cases
  unfold findKey at hf
  have a0:∀b,eq? E kt k e.key=some b->Instr.sameNow u k e.key=some b:=by
   intro b hb
   unfold eq? at hb
   rw[b0]at hb
   simp only[f.d]at hb
   rcases hu with rfl |⟨q,rfl⟩ |rfl
   ·simp only[ij]at hb
    split at hb <;>simp_all [Instr.sameNow]
   ·simp only[ij]at hb
    split at hb <;>simp_all [Instr.sameNow]
   ·simp only[ij]at hb
    split at hb <;>simp_all [Instr.sameNow]
  cases hq:eq? E kt k e.key with
  |none=>rw[hq]at hf;cases hf
  |some b=>
   rw[hq]at hf
   have hn:=a0 b hq
   unfold Instr.findNow
   rw[hk,hn]
   cases b with
   |true=>
    simp only[abf]at hf
    subst hf
    exact⟨_,rfl,rfl,hv⟩
   |false=>exact rk b0 f hu es H (i+1) r ht hf
theorem nd(hE:E.OK P){kt:TypeId}{k:aeM}(a0:dG k):
  ∀(es H:List MapEntry) (i:Nat) (r:Option (Nat×aeM)),uq σ es H->findKey E kt k es i=some r->∃r',(Instr.findAsking kt k H i).run P w=.ok r' w/\Sz σ r r'
 |[],H,i,r,h,hf=>by
  have:H=[]:=acu h.1.symm
  subst this
  simp only[findKey,abf]at hf
  subst hf
  exact⟨none,rfl,trivial⟩
 |e::es,x,i,r,h,hf=>by
  obtain⟨e',H,rfl,ht,hk,b0,hv⟩:=h.cases
  unfold findKey at hf
  cases hq:eq? E kt k e.key with
  |none=>rw[hq]at hf;cases hf
  |some b=>
   rw[hq]at hf
   have he:=pS (w:=w) (σ:=σ) hE hq (bw.jG a0) (bw.jG b0)
   unfold Instr.findAsking
   rw[hk,abo,he,abg]
   cases b with
   |true=>
    simp only[abf]at hf
    subst hf
    exact⟨_,rfl,rfl,hv⟩
   |false=>exact nd hE a0 es H (i+1) r ht hf
theorem mA(hE:E.OK P){kt:TypeId}{k:aeM}(hk:keyed E kt k){es H:List MapEntry}{r:Option (Nat×aeM)}(h:uq σ es H)(hf:findKey E kt k es 0=some r):
  ∃r',(Instr.findKey kt k H).run P w=.ok r' w/\Sz σ r r':=by
 have d0:=hk;unfold keyed at hk;split at hk
 ·rename_i ti b0;have⟨i,u,f⟩:=hE.lS b0
  have a0:(u=.bool\/(∃k,u=.int k)\/u=.string)->∃r',(Instr.findKey kt k H).run P w=.ok r' w/\Sz σ r r':=by intro hu;have⟨r',h1,h2⟩:=rk b0 f hu es H 0 r h hf;exact⟨r',by simp[Instr.findKey,abj f.fa,h1],h2⟩
  split at hk
  ·rename_i hd;exact a0 (.inl (qy (by rw[<-f.d];exact hd)))
  ·rename_i hd;exact a0 (.inr (.inl ⟨_,lg (by rw[<-f.d];exact hd)⟩))
  ·rename_i hd;exact a0 (.inr (.inr (iH (by rw[<-f.d];exact hd))))
  ·rename_i fs cs hd
   rw[f.d]at hd
   obtain⟨gs,rfl,rfl⟩:=fX hd
   have⟨r',h1,h2⟩:=nd (w:=w) hE (nP d0) es H 0 r h hf
   refine⟨r',?_,h2⟩
   cases H with
   |nil=>
    have:r'=none:=by
     simp only[Instr.findAsking,abD,Result.ok.injEq]at h1
     grind
    subst this;simp[Instr.findKey,abj f.fa,Instr.findNow]
   |cons e H=>simp[Instr.findKey,abj f.fa,Instr.findNow,Instr.sameNow,h1]
  cases hk
 cases hk
def Qj(w:World)(x:aeM)(es:Array MapEntry):Prop:=(x=.map none/\es= #[])\/∃r clock,x=.map (some r)/\w.heap[r]?=some (.map es clock)
theorem yn{t H et:TypeId}{x k v:aeM}{es:Array MapEntry}{j:Nat}(ok:Bool)(hu:P.underlying t=some (.map H et))(hm:Qj w x es)(hc:(Instr.checkKey es.isEmpty 10000 H k).run P w=.ok () w)
  (hf:(Instr.findKey H k es.toList).run P w=.ok (some (j,v)) w):(Instr.lookup t x k ok).run P w=.ok (if ok then .tuple #[v,aeR]else v) w:=by
 rcases hm with⟨rfl,rfl⟩ |⟨r,clock,rfl,hr⟩;·simp only[Instr.lookup,abo,abj hu,abg,abD,hc,hf]
 have hg:(getObj r).run P w=.ok (.map es clock) w:=by simp only[getObj,Sem.run,hr]
 simp only[Instr.lookup,abo,abj hu,abg,abD,hg,hc,hf]
theorem wI{t H et:TypeId}{x k z:aeM}{es:Array MapEntry}(ok:Bool)(hu:P.underlying t=some (.map H et))(hm:Qj w x es)(hc:(Instr.checkKey es.isEmpty 10000 H k).run P w=.ok () w)
  (hf:(Instr.findKey H k es.toList).run P w=.ok none w) (hz:(zeroValue et).run P w=.ok z w):(Instr.lookup t x k ok).run P w=.ok (if ok then .tuple #[z,aeS]else z) w:=by
 rcases hm with⟨rfl,rfl⟩ |⟨r,clock,rfl,hr⟩;·simp only[Instr.lookup,abo,abj hu,abg,abD,hc,hf,hz]
 have hg:(getObj r).run P w=.ok (.map es clock) w:=by simp only[getObj,Sem.run,hr]
 simp only[Instr.lookup,abo,abj hu,abg,abD,hg,hc,hf,hz]
theorem Ci(hE:E.OK P)(hs:eN P σ m w){t:TypeId}{x k x' k' v:aeM}{ok:Bool}(h:qA E m t x k ok=some v)(hx:bw σ x x')(hk:bw σ k k'):
  ∃v',(Instr.lookup t x' k' ok).run P w=.ok v' w/\bw σ v v':=by
 unfold qA at h;split at h;·cases h
 rename_i ti j0;have⟨i,u,f⟩:=hE.lS j0;split at h
 ·rename_i kt et hd;rw[f.d]at hd;obtain rfl:=kZ hd;split at h;·cases h
  ·rename_i es b0
   cases a0:keyed E kt k with
   |false=>rw[a0]at h;simp at h
   |true=>
    rw[a0]at h
    simp only[cond_true]at h
    obtain rfl:=hk.jL (nP a0)
    have k0:∃H:Array MapEntry,Qj w x' H/\uq σ es H.toList:=by
     split at b0
     ·cases b0;exact⟨#[],.inl ⟨hx.map_nil,rfl⟩,rfl,by grind⟩
     ·split at b0
      ·rename_i r _ _ hg;cases b0;obtain⟨bi,l0,rfl⟩:=hx.nL;have ho:=hs.obj _ _ l0;rw[hg]at ho;have⟨_,H,h1,h2,h3⟩:=ho;exact⟨H,.inr ⟨_,_,rfl,h1⟩,by grind,λj e e' a b=>h3 j e e' a (by grind)⟩
      ·grind
     ·grind
    have⟨H,e0,n0⟩:=k0
    have g0:=lK (w:=w) hE a0 H.isEmpty 9998
    cases hf:findKey E kt k' es 0 with
    |none=>rw[hf]at h;cases h
    |some r=>
     have⟨r',h0,d0⟩:=mA (w:=w) hE a0 n0 hf
     rw[hf]at h
     cases r with
     |some p=>
      have⟨j,v0⟩:=p
      cases r' with
      |none=>exact d0.elim
      |some p'=>
       have⟨j',i0⟩:=p';have⟨_,hv⟩:=d0;simp only[abf]at h;subst h;refine⟨if ok then .tuple #[i0,aeR]else i0,?_,?_⟩;·exact yn ok f.fa e0 g0 h0
       cases ok;·exact hv
       exact(bK.cons hv (bK.cons (.flat _ rfl) bK.nil)).tuple
     |none=>
      cases r' with
      |some p'=>exact d0.elim
      |none=>
       simp only[abq]at h
       obtain⟨z,hz,rfl⟩:=h
       unfold iZ at hz
       cases he:E.ty.get et with
       |none=>rw[he]at hz;simp at hz
       |some ei=>
        rw[he]at hz;simp only[acC]at hz;have⟨ie,ue,fe⟩:=hE.lS he;have o0:=bw.fD (σ:=σ) (hE.flat he hz);have hr:=dC (w:=w) fe.info (by rw[<-fe.zero];exact hz);refine⟨if ok then .tuple #[z,aeS]else z,?_,?_⟩;·exact wI ok f.fa e0 g0 h0 hr
        cases ok
        ·grind
        exact(bK.cons o0 (bK.cons (.flat _ rfl) bK.nil)).tuple
 cases h
theorem PT{a b:ByteArray}(h:(a==b)):a=b:=by
 cases a;cases b
 rename_i x y
 have:(x==y):=h
 grind
theorem tS{q:Kd}{x y:aeM}(h:It q x y=some true)(n:Nat):Instr.sameBits n y x:=by
 unfold It at h;split at h
 ·simp only[abf,beq_iff_eq]at h;subst h;simp[Instr.sameBits]
 ·split at h
  ·rename_i hk;subst hk;simp only[abf,beq_iff_eq]at h;subst h;simp[Instr.sameBits]
  cases h
 ·simp only[abf]at h;obtain rfl:=PT h;simpa[Instr.sameBits]using h
 cases h
theorem tT(n:Nat):∀{H:List Kd} {xs ys:aeN},cm H xs ys=some true->xs.length=ys.length/\((ys.zip xs).all λ(x,y)=>Instr.sameBits n x y)=true
 |[],[],[],_=>⟨rfl,rfl⟩
 |k::H,x::xs,y::ys,h=>by
  unfold cm at h
  cases h1:It k x y with
  |none=>rw[h1]at h;simp at h
  |some c=>
   cases h2:cm H xs ys with
   |none=>rw[h1,h2]at h;simp at h
   |some r=>
    rw[h1,h2]at h
    simp only[abf,abc]at h
    obtain⟨rfl,rfl⟩:=h
    have⟨a,b⟩:=tT n h2
    refine⟨by simp[a],?_⟩
    simp only[List.zip_cons_cons,List.all_cons,abc]
    exact⟨tS h1 n,b⟩
theorem Ir{kt:TypeId}{k y:aeM}(hk:keyed E kt k)(h:eq? E kt k y=some true):Instr.sameBits 10000 y k:=by
 unfold keyed at hk;unfold eq? at h;split at hk
 ·rename_i ti H;rw[H]at h;have⟨d,_,_,_,_,cmp⟩:=ti;dsimp only at h hk;split at hk;·exact tS (q:=.b) (by cases y <;>simp_all [It]) _
  ·exact tS (q:=.i) (by cases y <;>simp_all [It]) _
  ·exact tS (q:=.s) (by cases y <;>simp_all [It]) _
  ·cases y with
   |agg ys=>
    simp only at h
    cases cmp with
    |none=>simp at h
    |some ks=>
     simp only at h
     have⟨a,b⟩:=tT 9999 h
     simp only[Instr.sameBits,abc]
     grind
   |_=>simp at h
  cases hk
 cases hk
theorem rW{H:TypeId}{k:aeM}:∀(es:List MapEntry) (i j:Nat) (v:aeM),findKey E H k es i=some (some (j,v))->∃e,i<=j/\es[j-i]?=some e/\eq? E H k e.key=some true
 |[],i,j,v,h=>by simp[findKey]at h
 |e::es,i,j,v,h=>by
  unfold findKey at h
  cases hq:eq? E H k e.key with
  |none=>rw[hq]at h;cases h
  |some b=>
   rw[hq]at h
   cases b with
   |true=>
    grind
   |false=>
    have⟨e',h1,h2,h3⟩:=rW es (i+1) j v h
    grind
theorem om(hE:E.OK P)(hs:eN P σ m w){t:TypeId}{x k v x' k' v':aeM}(h:eM E m t x k v=some m')(hx:bw σ x x')(hk:bw σ k k')(hv:bw σ v v'):
  ∃w',(Instr.mapUpdate t x' k' v').run P w=.ok () w'/\Ev P σ m w σ m' w':=by
 unfold eM at h;split at h
 ·rename_i ti r y0;have⟨i,u,f⟩:=hE.lS y0;split at h
  ·rename_i kt et es clock hd hg
   rw[f.d]at hd
   obtain rfl:=kZ hd
   cases b0:keyed E kt k with
   |false=>rw[b0]at h;simp at h
   |true=>
    rw[b0]at h
    simp only[cond_true]at h
    have z0:=nP b0
    obtain rfl:=hk.jL z0
    obtain⟨bi,i0,rfl⟩:=hx.nL
    have ho:=hs.obj _ _ i0
    rw[hg]at ho
    have⟨o0,H,h1,h2,h3⟩:=ho
    have p0:uq σ es H.toList:=⟨by grind,λj e e' a b=>h3 j e e' a (by grind)⟩
    have j0:(getObj bi.cI).run P w=.ok (.map H clock) w:=by simp only[getObj,Sem.run,h1]
    have k0:∀o,(setObj bi.cI o).run P w=.ok () {w with heap:=w.heap.setIfInBounds bi.cI o}:=λo=>MapKept.run_setObj_map o h1
    have q0:=lK (w:=w) hE b0 false 9998
    have C0:=hs.lt _ _ i0
    have d0:∀o:Obj,({w with heap:=w.heap.setIfInBounds bi.cI o}:World).heap[bi.cI]?=some o:=by
     grind
    have a0:∀(o:Obj) B,B≠bi.cI->({w with heap:=w.heap.setIfInBounds bi.cI o}:World).heap[B]?=w.heap[B]?:=by
     grind
    have g0:∀o:Obj,({w with heap:=w.heap.setIfInBounds bi.cI o}:World).heap.size=w.heap.size:=by grind
    have h0:m.get r≠.dead:=by grind
    cases hf:findKey E kt k' es 0 with
    |none=>rw[hf]at h;cases h
    |some fr=>
     have⟨r0,s0,l0⟩:=mA (w:=w) hE b0 p0 hf
     rw[hf]at h
     cases fr with
     |some p=>
      have⟨j,v0⟩:=p
      cases r0 with
      |none=>exact l0.elim
      |some p'=>
       have⟨j',D0⟩:=p';obtain⟨rfl,_⟩:=l0;simp only[abf]at h;subst h;have⟨e0,_,u0,heq⟩:=rW es 0 j v0 hf;simp only[adg]at u0;have A0:j < H.size:=by grind
       obtain⟨B0,_,_,_⟩:=h3 j e0 H[j] u0 (by grind)
       have n0:(Instr.keyThatStays (((H[j]?).map (·.key)).getD k') k').run P w=.ok k' w:=by
        have:((H[j]?).map (·.key)).getD k'=e0.key:=by grind
        rw[this];unfold Instr.keyThatStays;rw[abe (Ir b0 heq)];rfl
       refine⟨_,?_,Ev.write (ob:=.map (es.modify j λe=>{e with key:=k',val:=v}) clock) (w':={w with heap:=w.heap.setIfInBounds bi.cI (.map (H.modify j λe=>{e with key:=k',val:=v'}) clock)}) hs i0 h0 ?_ (a0 _) (g0 _) rfl rfl rfl⟩;·simp only[Instr.mapUpdate,abo,abj f.fa,abg,j0,q0,s0,n0,k0]
       ·refine⟨o0,_,d0 _,by grind,?_⟩
        grind
     |none=>
      cases r0 with
      |some p'=>exact l0.elim
      |none=>
       simp only[abf]at h;subst h;refine⟨_,?_,Ev.write (ob:=.map (es++ [{key:=k',val:=v,born:=clock}]) (clock+1)) (w':={w with heap:=w.heap.setIfInBounds bi.cI (.map (H.push {key:=k',val:=v',born:=clock}) (clock+1))}) hs i0 h0 ?_ (a0 _) (g0 _) rfl rfl rfl⟩;·simp only[Instr.mapUpdate,abo,abj f.fa,abg,j0,q0,s0,k0]
       ·refine⟨o0,_,d0 _,by grind,?_⟩
        grind
  cases h
 cases h
theorem tY:∀{cs H:aeN} {ns:List Int},bytesOf cs=some ns->bK σ cs H->H=ns.map (Value.int .u8)
 |[],x,ns,h,hl=>by
  cases h
  exact hl.nil_eq
 |c::cs,x,ns,h,hl=>by
  obtain⟨c',H,rfl,hc,a0⟩:=hl.cases
  unfold bytesOf at h
  split at h
  ·grind
  ·rename_i n r he
   cases he
   cases hr:bytesOf cs with
   |none=>rw[hr]at h;cases h
   |some b0=>
    rw[hr]at h
    cases h
    rw[hc.int,tY hr a0]
    rfl
  ·cases h
theorem EJ(hE:E.OK P)(hs:eN P σ m w){s d:TypeId}{x x' v:aeM}(h:GB E m s d x=some v)(hx:bw σ x x'):(convert s d x').run P w=.ok v w/\bF v:=by
 unfold GB at h;split at h
 ·rename_i ti tj i0 j0;have⟨_,us,fs⟩:=hE.lS i0;have⟨_,ud,fd⟩:=hE.lS j0;split at h
  ·rename_i e b n c d0 e0;rw[fs.d]at d0;rw[fd.d]at e0;have g0:=fs.fa.trans (by rw[dj d0]);have h0:=fd.fa.trans (by rw[iH e0]);split at h
   ·rename_i te k0;have⟨_,ue,fe⟩:=hE.lS k0;split at h
    ·rename_i H;cases h;rw[fe.d]at H;have a0:=fe.fa.trans (by rw[lg H]);obtain⟨rfl,rfl,rfl⟩:=hx.eS;rw[run_convert_bytes_string w s d e none 0 0 g0 a0 h0];exact⟨rfl,rfl⟩
    ·rename_i a H
     rw[fe.d]at H
     have a0:=fe.fa.trans (by rw[lg H])
     cases hn:Nat.beq n 0 with
     |true=>rw[hn]at h;cases h
     |false=>
      rw[hn]at h;simp only[abm]at h;split at h
      ·rename_i cs l0;split at h
       ·rename_i ns n0;cases h;have p0:n≠0:=abY hn;obtain⟨bi,a',c',o0,rfl,b0⟩:=hx.dL;rcases b0 with⟨_,rfl,_⟩ |⟨rfl,_⟩
        ·have⟨q0,q1,q2,_,_⟩:=gX (w:=w) hs o0 l0;rw[tY n0 q2]at q1;rw[run_convert_bytes_string w s d e _ _ _ g0 a0 h0];exact⟨run_bytesToString w _ n c' ns q1,rfl⟩
        ·grind
       cases h
      cases h
    cases h
   cases h
  cases h
 cases h
theorem PK(hE:E.OK P)(hs:eN P σ m w){s d:TypeId}{x H v:aeM}(h:Qp E m s d x=some v)(hx:bw σ x H):(convert s d H).run P w=.ok v w/\bF v:=by
 unfold Qp at h;split at h
 ·rename_i v1 h1;cases h;exact Gy hE h1 hx
 exact EJ hE hs h hx
theorem yH(hE:E.OK P)(hs:eN P σ m w){t:TypeId}{x k x' k' v:aeM}(h:gD E m t x k=some (v,m'))(hx:bw σ x x')(hk:bw σ k k'):
  ∃w' v',(Instr.mapEntry t x' k').run P w=.ok v' w'/\bw σ v v'/\Ev P σ m w σ m' w':=by
 unfold gD at h;split at h
 ·rename_i ti r A0;have⟨i,u,f⟩:=hE.lS A0;split at h
  ·rename_i kt et es clock hd hg
   rw[f.d]at hd
   obtain rfl:=kZ hd
   cases b0:keyed E kt k with
   |false=>rw[b0]at h;simp at h
   |true=>
    rw[b0]at h
    simp only[cond_true]at h
    have B0:=nP b0
    obtain rfl:=hk.jL B0
    obtain⟨bi,i0,rfl⟩:=hx.nL
    have ho:=hs.obj _ _ i0
    rw[hg]at ho
    have⟨q0,H,h1,h2,h3⟩:=ho
    have r0:uq σ es H.toList:=⟨by grind,λj e e' a b=>h3 j e e' a (by grind)⟩
    have k0:(getObj bi.cI).run P w=.ok (.map H clock) w:=by simp only[getObj,Sem.run,h1]
    have l0:∀o,(setObj bi.cI o).run P w=.ok () {w with heap:=w.heap.setIfInBounds bi.cI o}:=λo=>MapKept.run_setObj_map o h1
    have s0:=lK (w:=w) hE b0 false 9998
    have I0:=hs.lt _ _ i0
    have d0:∀o:Obj,({w with heap:=w.heap.setIfInBounds bi.cI o}:World).heap[bi.cI]?=some o:=by
     grind
    have a0:∀(o:Obj) B,B≠bi.cI->({w with heap:=w.heap.setIfInBounds bi.cI o}:World).heap[B]?=w.heap[B]?:=by
     grind
    have g0:∀o:Obj,({w with heap:=w.heap.setIfInBounds bi.cI o}:World).heap.size=w.heap.size:=by grind
    have h0:m.get r≠.dead:=by grind
    cases hf:findKey E kt k' es 0 with
    |none=>rw[hf]at h;cases h
    |some fr=>
     have⟨u0,y0,n0⟩:=mA (w:=w) hE b0 r0 hf
     rw[hf]at h
     cases fr with
     |some p=>
      have⟨j,v0⟩:=p
      cases u0 with
      |none=>exact n0.elim
      |some p'=>
       have⟨j',C0⟩:=p';obtain⟨rfl,D0⟩:=n0;simp only[abf,abP]at h;obtain⟨rfl,rfl⟩:=h;have⟨e0,_,z0,heq⟩:=rW es 0 j v0 hf;simp only[adg]at z0;have G0:j < H.size:=by grind
       obtain⟨H0,E0,_,_⟩:=h3 j e0 H[j] z0 (by grind)
       have o0:(Instr.keyThatStays (((H[j]?).map (·.key)).getD k') k').run P w=.ok k' w:=by
        have:((H[j]?).map (·.key)).getD k'=e0.key:=by grind
        rw[this];unfold Instr.keyThatStays;rw[abe (Ir b0 heq)];rfl
       have hb:((H[j]?).map (λx=>(x.born:Int))).getD 0=((es[j]?).map (λx=>(x.born:Int))).getD 0:=by grind
       refine⟨_,.tuple #[C0,goInt (((H[j]?).map (·.born)).getD 0)],?_,?_,Ev.write (ob:=.map (es.modify j λe=>{e with key:=k'}) clock) (w':={w with heap:=w.heap.setIfInBounds bi.cI (.map (H.modify j λe=>{e with key:=k'}) clock)}) hs i0 h0 ?_ (a0 _) (g0 _) rfl rfl rfl⟩
       ·simp only[Instr.mapEntry,abo,abj f.fa,abg,k0,s0,y0,o0,l0];rfl
       ·rw[hb];exact(bK.cons D0 (bK.cons (.flat _ rfl) bK.nil)).tuple
       ·refine⟨q0,_,d0 _,by grind,?_⟩
        grind
     |none=>
      cases u0 with
      |some p'=>exact n0.elim
      |none=>
       simp only[abq,abP]at h
       obtain⟨z,hz,rfl,rfl⟩:=h
       unfold iZ at hz
       cases j0:E.ty.get et with
       |none=>rw[j0]at hz;simp at hz
       |some ei=>
        rw[j0]at hz;simp only[acC]at hz;have⟨ie,ue,fe⟩:=hE.lS j0;have F0:=bw.fD (σ:=σ) (hE.flat j0 hz);have p0:=dC (w:=w) fe.info (by rw[<-fe.zero];exact hz);refine⟨_,.tuple #[z,goInt clock],?_,(bK.cons F0 (bK.cons (.flat _ rfl) bK.nil)).tuple,Ev.write (ob:=.map (es++ [{key:=k',val:=z,born:=clock}]) (clock+1)) (w':={w with heap:=w.heap.setIfInBounds bi.cI (.map (H.push {key:=k',val:=z,born:=clock}) (clock+1))}) hs i0 h0 ?_ (a0 _) (g0 _) rfl rfl rfl⟩
        ·simp only[Instr.mapEntry,abo,abj f.fa,abg,k0,s0,y0,p0,l0];rfl
        ·refine⟨q0,_,d0 _,by grind,?_⟩
         grind
  cases h
 cases h
theorem qQ{b:Int}:∀(es:List MapEntry) (H:List MapEntry) (i j:Nat),uq σ es H->qm b es i=some j->i<=j/\j-i < H.length/\H.findIdx? (λe=>(e.born:Int)==b)=some (j-i)
 |[],H,i,j,_,h=>by simp[qm]at h
 |e::es,x,i,j,hr,h=>by
  obtain⟨e',H,rfl,ht,_,a0,hv⟩:=hr.cases
  have hb:e'.born=e.born:=(hr.2 0 e e' rfl rfl).2.1
  unfold qm at h
  rw[List.findIdx?_cons]
  by_cases hc:(e.born:Int)=b
  ·grind
  ·have h1:decide ((e.born:Int)=b)=false:=abk hc
   rw[h1]at h
   simp only[abm]at h
   have⟨q1,q2,q3⟩:=qQ es H (i+1) j ht h
   grind
theorem vv(hs:eN P σ m w){t:TypeId}{x s v x' s' v':aeM}(h:dY m x s v=some m')(hx:bw σ x x')(i0:bw σ s s')(hv:bw σ v v'):
  ∃w',(Instr.entryStore t x' s' v').run P w=.ok () w'/\Ev P σ m w σ m' w':=by
 unfold dY at h;split at h
 ·rename_i r k b;split at h
  ·rename_i es clock hg;split at h
   ·rename_i j hj;cases h;obtain⟨bi,a0,rfl⟩:=hx.nL;have ho:=hs.obj _ _ a0;rw[hg]at ho;have⟨j0,H,h1,h2,h3⟩:=ho;have e0:uq σ es H.toList:=⟨by grind,λj e e' a b=>h3 j e e' a (by grind)⟩
    have g0:(getObj bi.cI).run P w=.ok (.map H clock) w:=by simp only[getObj,Sem.run,h1]
    have h0:∀o,(setObj bi.cI o).run P w=.ok () {w with heap:=w.heap.setIfInBounds bi.cI o}:=λo=>MapKept.run_setObj_map o h1;have k0:=hs.lt _ _ a0;have b0:m.get r≠.dead:=by grind
    have⟨_,_,d0⟩:=qQ es H.toList 0 j e0 hj;rw[adg]at d0
    have d0:H.findIdx? (λe=>(e.born:Int)==b)=some j:=by
     rcases H with⟨l⟩
     grind
    rw[i0.int];refine⟨_,?_,Ev.write (ob:=.map (es.modify j λe=>{e with val:=v}) clock) (w':={w with heap:=w.heap.setIfInBounds bi.cI (.map (H.modify j λe=>{e with val:=v'}) clock)}) hs a0 b0 ?_ (by grind) (by simp) rfl rfl rfl⟩;·simp only[Instr.entryStore,abo,g0,abg,asInt,asIntOf,abD,d0,h0]
    ·refine⟨j0,H.modify j λe=>{e with val:=v'},by grind,by grind,?_⟩
     grind
   cases h
  cases h
 cases h
end
end
section
def LK(m m':M):Prop:=∀b r,m.get b=.loop r->∃H,m'.get b=.loop H
section
variable {m m' m2:M} {E:Env}
theorem LK.refl:LK m m:=λ_ r h=>⟨r,h⟩
theorem LK.trans(h:LK m m')(H:LK m' m2):LK m m2:=λb r hb=>by
 have⟨r',h1⟩:=h b r hb
 exact H b r' h1
theorem LK.push{o:Ob}:LK m (m.push o):=λb r h=>⟨r,by
 have:b < m.n:=M.ll (by grind)
 rw[M.iL,abd (by omega)];exact h⟩
theorem LK.set{b:Nat}{o:Ob}(hb:∀r,m.get b≠.loop r):LK m (m.set b o):=λc r h=>by
 by_cases H:c=b
 ·grind
 ·refine⟨r,?_⟩
  have:c < m.n:=M.ll (by grind)
  rw[M.fo]
  have hn:(m.set b o).n=m.n:=rfl
  rw[hn,abe this]
  show((m.st.set b o).get c).getD .dead=_
  rw[Tr.bX,abd H]
  rw[M.fo,abe this]at h
  exact h
theorem LK.xF{b:Nat}{H:zI}:LK m (m.set b (.loop H)):=λc r h=>by
 have:c < m.n:=M.ll (by grind)
 by_cases hc:c=b
 ·subst hc;exact⟨H,by rw[M.bX _ _ _ _ this,abe rfl]⟩
 ·refine⟨r,?_⟩
  rw[M.fo]
  have hn:(m.set b (.loop H)).n=m.n:=rfl
  rw[hn,abe this]
  show((m.st.set b _).get c).getD .dead=_
  rw[Tr.bX,abd hc]
  rw[M.fo,abe this]at h
  exact h
theorem LK.low{x:Nat}(h:LK m m'):LK m {m' with low:=x}:=h
theorem LK.T5{x:Nat}(h:LK {m with low:=x} m'):LK m m':=h
theorem ju{a:Addr}{vs:aeN}(h:storeCells m a vs=some m'):LK m m':=by
 unfold storeCells at h;split at h
 ·rename_i c e g hg
  cases H:(a.spot.isNone && Nat.ble (a.off+vs.length) c.length && vs.all one)with
  |false=>rw[H]at h;cases h
  |true=>rw[H]at h;cases h;exact LK.set λr=>by grind
 cases h
theorem Du{t:TypeId}{a:Addr}{v:aeM}(h:storeVar E m t a v=some m'):LK m m':=by
 unfold storeVar at h;split at h
 ·cases H:Nat.beq (cells v).length _ with
  |false=>rw[H]at h;cases h
  |true=>rw[H]at h;exact ju h
 cases h
theorem RL{e k sl sc H:Nat}{base:Option Addr}{news:aeN}{v:aeM}(h:lZ m e k base sl sc H news=some (v,m')):LK m m':=by
 unfold lZ at h;split at h
 ·cases hc:(Nat.beq sl 0 && Nat.beq sc 0)with
  |false=>rw[hc]at h;cases h
  |true=>rw[hc]at h;cases h;exact LK.push
 rename_i a;split at h
 ·rename_i c te g fR hg _
  cases hc:(g.isNone ||(g==some k && Nat.blt (a.off+sc*k) c.length))with
  |true=>rw[hc]at h;cases h;exact LK.push
  |false=>
   rw[hc]at h
   cases a0:(g==some k && Nat.beq a.off 0 && a.spot.isNone && Nat.beq (sl*k) c.length && Nat.beq sc sl && Nat.beq te e)with
   |false=>rw[a0]at h;cases h
   |true=>rw[a0]at h;cases h;exact(LK.set λr=>by grind).trans LK.push
 cases h
theorem Lm{t u:TypeId}{s x v:aeM}(h:eA E m t u s x=some (v,m')):LK m m':=by
 unfold eA at h;split at h
 ·rename_i ti ui base sl sc n _ _ _;split at h;·cases h
  ·rename_i e _ _;split at h
   ·rename_i ei news _ _
    cases hc:(Nat.beq ti.es 0 ||Nat.blt 65536 ei.bytes || !news.all one ||Nat.blt 268435456 (sl+n) || !Nat.beq news.length (n*ti.es) || !gV ei.zero ti.es)with
    |true=>rw[hc]at h;cases h
    |false=>
     rw[hc]at h
     simp only[abm]at h
     cases H:Nat.ble (sl+n) sc with
     |false=>rw[H]at h;exact RL h
     |true=>
      rw[H]at h;simp only[cond_true]at h;split at h
      ·rename_i a
       simp only[abq,abP]at h
       obtain⟨m1,h1,_,rfl⟩:=h
       cases hn:Nat.beq n 0 with
       |true=>rw[hn]at h1;cases h1;exact LK.refl
       |false=>rw[hn]at h1;exact ju h1
      ·cases hn:Nat.beq n 0 with
       |true=>rw[hn]at h;cases h;exact LK.refl
       |false=>rw[hn]at h;cases h
   cases h
  cases h
 cases h
theorem R9{t:TypeId}{d x v:aeM}(h:zn E m t d x=some (v,m')):LK m m':=by
 unfold zn at h;split at h
 ·rename_i ti base dl _ xl _ _;split at h
  ·cases H:Nat.beq ti.es 0 with
   |true=>rw[H]at h;cases h
   |false=>
    rw[H]at h;simp only[abm]at h;split at h
    ·simp only[abq,abP]at h
     obtain⟨m1,h1,_,rfl⟩:=h
     cases hn:Nat.beq (min xl dl) 0 with
     |true=>rw[hn]at h1;cases h1;exact LK.refl
     |false=>rw[hn]at h1;exact ju h1
    cases h;exact LK.refl
  cases h
 cases h
theorem PR{t:TypeId}{x v:aeM}(h:rZ E m t x=some (v,m')):LK m m':=by
 unfold rZ at h;split at h;·cases h;exact LK.refl
 ·rename_i ti a n _ _
  cases H:Nat.beq n 0 with
  |true=>rw[H]at h;cases h;exact LK.refl
  |false=>
   rw[H]at h;simp only[abm]at h;split at h
   ·split at h
    ·simp only[abq,abP]at h;obtain⟨m1,h1,_,rfl⟩:=h;exact ju h1
    cases h
   cases h
 cases h
theorem GK{b:Builtin}{ts:List TypeId}{args:aeN}{v:aeM}(h:aw E m b ts args=some (v,m')):LK m m':=by
 unfold aw at h;split at h;·exact Lm h
 ·exact R9 h
 ·exact PR h
 all_goals try (simp only[abq,abP]at h;obtain⟨_,_,_,rfl⟩:=h;exact LK.refl)
 ·split at h
  ·split at h
   ·rename_i a n c _
    cases H:oY m a with
    |true=>rw[H]at h;cases h
    |false=>rw[H]at h;cases h;exact LK.refl
   ·cases h;exact LK.refl
   cases h
  cases h
 cases h
theorem tC{t:TypeId}{x k v:aeM}(h:eM E m t x k v=some m'):LK m m':=by
 unfold eM at h;split at h
 ·rename_i ti r _;split at h
  ·rename_i H et es clock _ hg
   cases hk:keyed E H k with
   |false=>rw[hk]at h;cases h
   |true=>
    rw[hk]at h;split at h;·cases h;exact LK.set λr=>by grind
    ·cases h;exact LK.set λr=>by grind
    cases h
  cases h
 cases h
theorem Ec{t:TypeId}{x k v:aeM}(h:gD E m t x k=some (v,m')):LK m m':=by
 unfold gD at h;split at h
 ·rename_i ti r _;split at h
  ·rename_i H et es clock _ hg
   cases hk:keyed E H k with
   |false=>rw[hk]at h;cases h
   |true=>
    rw[hk]at h;simp only[cond_true]at h;split at h;·cases h;exact LK.set λr=>by grind
    ·simp only[abq,abP]at h;obtain⟨_,_,_,rfl⟩:=h;exact LK.set λr=>by grind
    cases h
  cases h
 cases h
theorem zX{x s v:aeM}(h:dY m x s v=some m'):LK m m':=by
 unfold dY at h;split at h
 ·split at h
  ·rename_i es clock H;split at h;·cases h;exact LK.set λr=>by grind
   cases h
  cases h
 cases h
theorem Cf{t:TypeId}{l c v:aeM}(h:fj E m t l c=some (v,m')):LK m m':=by
 unfold fj at h;split at h;·cases h
 split at h
 ·split at h;·cases h
  split at h;·cases h
  split at h;·cases h;exact LK.push
  cases h
 cases h
theorem Ae{t:TypeId}{n:Nat}{ps:List (Nat×aeM)}{v:aeM}(h:aG E m t n ps=some (v,m')):LK m m':=by
 unfold aG at h;split at h;·cases h
 rename_i H _;split at h
 ·split at h;·cases h
  ·rename_i z _
   cases hc:(Nat.beq (cells z).length H.es && Nat.ble (n*H.es) 1048576)with
   |false=>rw[hc]at h;cases h
   |true=>rw[hc]at h;simp only[cond_true,abq,abP]at h;obtain⟨_,_,_,rfl⟩:=h;exact LK.push
 cases h
def ki(call:aK):Prop:=∀f args m v m',call f args m=some (v,m')->LK m m'
theorem SS{call:aK}(H:ki call){T:Tr aeM}{o:Op}{v:aeM}(h:dn o E call T m=some (v,m')):LK m m':=by
 have same:∀{r:Option aeM},(match r with |some v=>some (v,m) |none=>none)=some (v,m')->LK m m':=by
  intro r hr
  cases r with
  |none=>cases hr
  |some x=>cases hr;exact LK.refl
 cases o with
 |move x=>cases h;exact LK.refl
 |assign x=>cases h;exact LK.refl
 |pick c a b=>simp only[dn,rN]at h;split at h <;>cases h;exact LK.refl
 |alloc t=>simp only[dn,tz]at h;split at h <;>cases h;exact LK.push
 |box t x=>cases h;exact LK.push
 |build t ps=>exact same h
 |buildSlice t n ps=>exact Ae h
 |load t a=>
  simp only[dn,yD]at h;split at h;·exact same h
  cases h
 |store t a x=>
  simp only[dn,nH]at h;split at h
  ·split at h;·rename_i hs;cases h;exact Du hs
   cases h
  cases h
 |nilCheck x=>simp only[dn,hZ]at h;split at h <;>cases h <;>exact LK.refl
 |binOp op t x y _=>exact same h
 |unOp op t x=>exact same h
 |convert s d x=>exact same h
 |makeFunc f a b=>simp only[dn,jg]at h;split at h <;>cases h;exact LK.refl
 |makeMap t r=>simp only[dn,qu]at h;split at h <;>cases h;exact LK.push
 |makeSlice t l c=>exact Cf h
 |slice t x lo hi mx=>exact same h
 |fieldAddr s x f=>exact same h
 |field t x f=>exact same h
 |indexAddr t x i=>exact same h
 |index t x i=>exact same h
 |lookup t x i ok=>exact same h
 |mapUpdate t x k y=>simp only[dn,ff]at h;split at h <;>cases h;exact tC ‹_›
 |insert t x k y=>simp only[dn,ff]at h;split at h <;>cases h;exact tC ‹_›
 |extract x i=>
  simp only[dn,kJ]at h;split at h;·exact same h
  cases h
 |call c=>
  simp only[dn,nI]at h;split at h;·exact GK h
  ·split at h;·exact H _ _ _ _ _ h
   cases h
  cases h
 |mapEntry t x k=>exact Ec h
 |entryStore t x s y=>simp only[dn,kn]at h;split at h <;>cases h;exact zX ‹_›
 |typeAssert x s t ok=>
  simp only[dn,pB]at h;split at h
  ·cases ok with
   |false=>cases h
   |true=>
    split at h <;>cases h
    exact LK.refl
  ·rename_i t' cs _
   cases H:(ok && (Nat.beq t' t && cs.toList.isEmpty))with
   |false=>rw[H]at h;cases h
   |true=>
    rw[H,cond_true]at h;split at h
    ·split at h <;>cases h
     exact LK.refl
    cases h
  cases h
 |_=>simp[dn]at h
theorem FO{call:aK}(hc:ki call){ops:Array Oper}:∀(l:List Oper) (fr H:Fr),zR E call ops l fr=some H->LK fr.m H.m
 |[],fr,H,h=>by simp only[DO,abf]at h;subst h;exact LK.refl
 |o::l,fr,H,h=>by
  rw[mW]at h
  cases hw:cE ops fr.T o with
  |false=>rw[hw]at h;exact FO hc l {fr with T:=put fr.T o.dst undef} H h
  |true=>
   rw[hw]at h
   simp only[cond_true]at h
   cases ho:dn o.op E call fr.T fr.m with
   |none=>rw[ho]at h;cases h
   |some p=>
    rw[ho]at h
    exact(SS hc ho).trans (FO hc l _ H h)
theorem CG{call:aK}(hc:ki call){ops:Array Oper}:∀(l:List Oper) (j:Nat) (fr H:Fr),oH E call ops l j fr=some H->LK fr.m H.m
 |[],j,fr,H,h=>by simp only[Bg,abf]at h;subst h;exact LK.refl
 |o::l,j,fr,H,h=>by
  rw[lG]at h
  cases hw:cE ops fr.T o with
  |false=>rw[hw]at h;exact CG hc l (j+1) {fr with T:=put fr.T o.dst undef} H h
  |true=>
   rw[hw]at h
   simp only[cond_true]at h
   cases ho:dn o.op E call fr.T {fr.m with low:=fr.m.n}with
   |none=>rw[ho]at h;cases h
   |some p=>
    have⟨v,m1⟩:=p
    rw[ho]at h
    simp only at h
    cases hb:(Nat.ble fr.m.n m1.low ||(eQ ops j ||zQ ops j fr.m fr.T o.op))with
    |false=>rw[hb]at h;cases h
    |true=>
     rw[hb]at h
     simp only[cond_true]at h
     have h1:LK fr.m m1:=LK.T5 (SS hc ho)
     exact h1.trans (CG hc l (j+1) _ H h)
theorem HU{body:Fr->Option (Ex×Fr)}(hb:∀fr e H,body fr=some (e,H)->LK fr.m H.m):∀(n:Nat) (fr:Fr) (e:Ex) (H:Fr),jH body n fr=some (e,H)->LK fr.m H.m
 |0,_,_,_,h=>by simp[jH]at h
 |n+1,fr,e,H,h=>by
  unfold jH at h
  cases a0:body fr with
  |none=>rw[a0]at h;cases h
  |some p=>
   have⟨e1,b0⟩:=p
   rw[a0]at h
   have h1:=hb _ _ _ a0
   cases e1 with
   |normal=>exact h1.trans (HU hb n b0 e H h)
   |exit id=>cases h;exact h1
   |ret=>cases h;exact h1
theorem fq{call:aK}(hc:ki call){n:Nat}:∀(c:Code) (fr:Fr) (e:Ex) (H:Fr),bN E call n c fr=some (e,H)->LK fr.m H.m
 |.skip,fr,e,H,h=>by cases h;exact LK.refl
 |.label l,fr,e,H,h=>by cases h;exact LK.refl
 |.exit id,fr,e,H,h=>by cases h;exact LK.refl
 |.ret,fr,e,H,h=>by cases h;exact LK.refl
 |.region id ops d,fr,e,H,h=>by
  unfold bN at h
  simp only[abq,abP]at h
  obtain⟨a0,h,rfl,rfl⟩:=h
  cases d with
  |false=>exact FO hc _ _ _ h
  |true=>exact CG hc _ _ _ _ h
 |.seq a b,fr,e,H,h=>by
  unfold bN at h
  cases ha:bN E call n a fr with
  |none=>rw[ha]at h;cases h
  |some p=>
   have⟨e1,a0⟩:=p
   rw[ha]at h
   have h1:=fq hc a _ _ _ ha
   cases e1 with
   |normal=>exact h1.trans (fq hc b _ _ _ h)
   |exit id=>cases h;exact h1
   |ret=>cases h;exact h1
 |.cond c x y,fr,e,H,h=>by
  unfold bN at h
  split at h
  ·rename_i t _
   cases t with
   |true=>exact fq hc x _ _ _ h
   |false=>exact fq hc y _ _ _ h
  ·cases h
 |.block id c,fr,e,H,h=>by
  unfold bN at h
  cases ha:bN E call n c fr with
  |none=>rw[ha]at h;cases h
  |some p=>
   have⟨e1,a0⟩:=p
   rw[ha]at h
   have h1:=fq hc c _ _ _ ha
   cases e1 with
   |normal=>cases h;exact h1
   |exit b0=>
    simp only at h
    cases hb:Nat.beq b0 id with
    |true=>rw[hb]at h;cases h;exact h1
    |false=>rw[hb]at h;cases h;exact h1
   |ret=>cases h;exact h1
 |.loop c,fr,e,H,h=>by
  unfold bN at h
  exact HU (λfr e H hb=>fq hc c fr e H hb) n fr e H h
 |.scope c,fr,e,H,h=>by
  unfold bN at h
  exact fq hc c _ _ _ h
 |.rangeFunc g ps a b,fr,e,H,h=>by
  unfold bN at h
  split at h
  ·rename_i f first captured _
   split at h
   ·rename_i v m1 d0
    have h1:=LK.push.trans (hc _ _ _ _ _ d0)
    split at h
    ·split at h
     ·cases h
     ·cases h;exact h1.trans LK.xF
    ·cases h
   ·cases h
  ·cases h
 |.goto l,fr,e,H,h=>by simp[bN]at h
 |.refuse y,fr,e,H,h=>by simp[bN]at h
theorem zf{call:aK}(hc:ki call){n:Nat}:∀(cs:List Code) (fr:Fr) (e:Ex) (H:Fr),vr (bN E call n) cs fr=some (e,H)->LK fr.m H.m
 |[],fr,e,H,h=>by cases h;exact LK.refl
 |c::cs,fr,e,H,h=>by
  unfold vr at h
  cases ha:bN E call n c fr with
  |none=>rw[ha]at h;cases h
  |some p=>
   have⟨e1,a0⟩:=p
   rw[ha]at h
   have h1:=fq hc c _ _ _ ha
   cases e1 with
   |normal=>exact h1.trans (zf hc cs _ _ _ h)
   |exit id=>cases h;exact h1
   |ret=>cases h;exact h1
theorem Gn{fn:Func}{fr:Fr}{v:aeM}(h0:LK m fr.m)(h:Gp E fn m fr=some (v,m')):LK m m':=by
 unfold Gp at h;split at h;·cases h
 ·rename_i v1 _
  cases H:(bB v1 && Nat.ble m.n fr.m.low)with
  |true=>rw[H]at h;cases h;exact LK.refl
  |false=>rw[H]at h;cases h;exact h0
theorem Wd{call:aK}(hc:ki call){n g:Nat}{args:aeN}(h:GF E (bN E call n) g args m=some m'):LK m m':=by
 unfold GF at h;split at h
 ·rename_i c _
  cases H:(Nat.ble args.length c.fn.ntmps && (c.fn.results.toList.isEmpty && my c.rest))with
  |false=>rw[H]at h;cases h
  |true=>
   rw[H]at h;split at h
   ·split at h;·cases h
    ·cases h
    rename_i hex;cases h;exact(fq hc _ _ _ _ hex:LK m _)
   cases h
 cases h
theorem PS{call:aK}(hc:ki call){n:Nat}{d:Tf}{args:aeN}{v:aeM}(h:zp E (bN E call n) d args m=some (v,m')):LK m m':=by
 unfold zp at h
 cases hb:Nat.ble args.length d.fn.ntmps with
 |false=>rw[hb]at h;cases h
 |true=>
  rw[hb]at h;split at h
  ·rename_i hex;exact Gn (zf hc _ _ _ _ hex:LK m _) h
  ·rename_i fr hex;have h1:LK m fr.m:=(zf hc _ _ _ _ hex:LK m _)
   split at h
   ·split at h
    ·rename_i td g fi ca c _ _ _ _ _ t' _ _
     cases H:(Nat.beq _ td && (c.args.toList.isEmpty && fi.toList.isEmpty))with
     |false=>rw[H]at h;cases h
     |true=>
      rw[H]at h;split at h;·cases h
      ·cases h
      rename_i e a0 _ b0;have h2:=fq hc _ _ _ _ b0;have h2:LK m a0.m:=h1.trans h2;split at h
      ·rename_i m3 d0;exact Gn (fr:={a0 with m:=m3}) (h2.trans (Wd hc d0)) h
      cases h
    cases h
   cases h
  cases h
theorem Nq{call:aK}(hc:ki call){n G l:Nat}{args:aeN}{v:aeM}(h:uM (bN E call n) G l args m=some (v,m')):LK m m':=by
 unfold uM at h;split at h
 ·rename_i r _
  cases hb:(Nat.beq args.length r.ps.size && Nat.beq r.G G)with
  |false=>rw[hb]at h;cases h
  |true=>
   rw[hb]at h;split at h
   ·rename_i H hx;have h1:LK m H.m:=(fq hc _ _ _ _ hx:LK m _)
    split at h
    ·split at h
     ·split at h
      ·rename_i a0 b0;have h2:LK m a0.m:=(h1.trans LK.xF).trans (fq hc _ _ _ _ b0);split at h
       ·split at h;·cases h;exact h2.trans LK.xF
        cases h;exact h2.trans LK.xF
       cases h
      cases h
     cases h
    cases h
   cases h
 cases h
theorem CP{X:aK}(hX:ki X):∀n,ki (cA E X n)
 |0=>λf args m v m' h=>by simp[cA]at h
 |n+1=>λf args m v m' h=>by
  have H:=CP hX n
  cases f with
  |func f=>
   unfold cA at h
   split at h
   ·rename_i r hr;cases h;exact hX _ _ _ _ _ hr
   ·split at h
    ·split at h
     ·exact PS H h
     ·cases h
    ·rename_i fn _
     split at h
     ·cases h
     ·cases hle:Nat.ble args.length fn.ntmps with
      |false=>rw[hle]at h;cases h
      |true=>
       rw[hle]at h
       simp only[cond_true]at h
       split at h
       ·cases h
       ·cases h
       ·rename_i fr _ hex
        exact Gn (E:=E) (fn:=fn) (fr:=fr) (fq H _ _ _ _ hex:LK m _) h
  |yield l=>unfold cA at h;exact Nq H h
  |_=>simp[cA]at h
end
end
section
def eD(ro:Option Nat):Fence:={Fence.wide with round:=ro}
section
variable {E:Env} {P:Program} {σ:Sg} {m m':M} {w:World}
def dK(P:Program)(σ:Sg)(m:M)(w:World)(r:Result Next)(v:aeM)(m':M):Prop:=
 (∃σ' w' H,bw σ' v H/\Ev P σ m w σ' m' w')/\
 ∀(ro:Option Nat) (n:Nat) (o:Oper) (a:Act) (next:Act->World->Prop) (Q:Exit->Act->World->Prop),
  (∀σ' w' H,bw σ' v H->Ev P σ m w σ' m' w'->next (a.put o.dst H) w')->o.uponIn (eD ro) n P a next Q r
def dX(P:Program)(σ:Sg)(m:M)(w:World)(v:aeM)(m':M):Ending->World->Prop:=λe w'=>∃H σ',e=.returned H/\bw σ' v H/\Ev P σ m w σ' m' w'
structure dc(P:Program)(call:aK):Prop where
 func:∀f args m v m',call (.func f) args m=some (v,m')->∀σ w (args':Array aeM),eN P σ m w->bK σ args args'.toList->
  CallsIn Fence.wide 0 P f args' w (dX P σ m w v m')/\(callFunc f args').run P w=.ok (.enter f args') w
 yield:∀l args m v m',call (.yield l) args m=some (v,m')->∀σ w i (args':Array aeM),eN P σ m w->σ l=some i->bK σ args args'.toList->dK P σ m w ((Instr.yield i.cI args').run P w) v m'
 aY:ki call
 LA:∀a m v m' b,call (.func Dw) [.pointer (some a)] m=some (v,m')->zu m a=some b->m.get b≠.dead/\m'=m.set b .dead/\∀σ w (args':Array aeM),eN P σ m w->bK σ [.pointer (some a)] args'.toList->
  ∃i,σ b=some i/\CallsIn Fence.wide 0 P Dw args' w (λe w'=>dX P σ m w v m' e w'/\∀B,B≠i.cI->w'.heap[B]?=w.heap[B]?)/\(callFunc Dw args').run P w=.ok (.enter Dw args') w
theorem dK.enter{f:FuncId}{args:Array aeM}{v:aeM}(h:CallsIn Fence.wide 0 P f args w (dX P σ m w v m')):dK P σ m w (.ok (.enter f args) w) v m':=by
 refine⟨?_,λro n o a next Q hk=>?_⟩
 ·obtain⟨e,w',fr,⟨H,σ',_,hv,he⟩,_⟩:=h.2 [] (room_wide _)
  grind
 ·refine⟨λhh=>by simp[eD,Fence.wide]at hh,?_⟩
  have h2:CallsIn (eD ro) (n-1) P f args w (dX P σ m w v m'):=⟨trivial,λcs _=>h.2 cs (room_wide _)⟩
  refine h2.mono λe w' he=>?_
  obtain⟨H,σ',rfl,hv,a0⟩:=he
  grind
theorem Gr{H:Ending->World->Prop}{f:FuncId}{args:Array aeM}(h:CallsIn Fence.wide 0 P f args w H)(ro:Option Nat)(n:Nat)(o:Oper)(a:Act)(next:Act->World->Prop)(Q:Exit->Act->World->Prop)
  (hk:∀e w',H e w'->∃v',e=.returned v'/\next (a.put o.dst v') w'):o.uponIn (eD ro) n P a next Q (.ok (.enter f args) w):=by
 refine⟨λhh=>by simp[eD,Fence.wide]at hh,?_⟩
 have h2:CallsIn (eD ro) (n-1) P f args w H:=⟨trivial,λcs _=>h.2 cs (room_wide _)⟩
 refine h2.mono λe w' he=>?_
 grind
theorem dc.op{call:aK}(H:dc P call)(f:FuncId)(args:aeN)(m:M)(v:aeM)(m':M)(h:call (.func f) args m=some (v,m'))(σ:Sg)(w:World)(args':Array aeM)(hs:eN P σ m w)(hl:bK σ args args'.toList):dK P σ m w ((callFunc f args').run P w) v m':=by have⟨h1,h2⟩:=H.func f args m v m' h σ w args' hs hl;rw[h2];exact .enter h1
theorem dK.value{v v':aeM}{σ':Sg}{w':World}(H:bw σ' v v')(he:Ev P σ m w σ' m' w'):dK P σ m w (.ok (.value v') w') v m':=
 ⟨⟨σ',w',v',H,he⟩,λ_ _ _ _ _ _ h=>h σ' w' v' H he⟩
theorem dK.skip{σ':Sg}{w':World}(he:Ev P σ m w σ' m' w'):dK P σ m w (.ok .skip w') undef m':=
 ⟨⟨σ',w',undef,bw.undef,he⟩,λ_ _ _ _ _ _ h=>h σ' w' undef bw.undef he⟩
theorem Ah.op{s:Sem aeM}{v:aeM}(h:Ah P σ m w s v m'):dK P σ m w ((do let x<-s;Pure.pure (Next.value x):Sem Next).run P w) v m':=by have⟨σ',w',v',h1,H,h3⟩:=h;rw[abo,h1];exact .value H h3
theorem dK.same(H:eN P σ m w){s:Sem aeM}{v v':aeM}(h:s.run P w=.ok v' w)(hv:bw σ v v'):dK P σ m w ((do let x<-s;pure (Next.value x):Sem Next).run P w) v m:=
 (Ah.pure H h hv).op
def dB(σ:Sg)(T:Tr aeM)(a:Act)(nt:Nat):Prop:=a.tmps.size=nt/\∀t,t < nt->bw σ (iT T t) (a.eval (.tmp t))
theorem dB.mono{τ:Sg}{T:Tr aeM}{a:Act}{nt:Nat}(h:dB σ T a nt)(hle:σ.le τ):dB τ T a nt:=⟨h.1,λt H=>(h.2 t H).mono hle⟩
theorem GX(T:Tr aeM)(d:Tmp)(v:aeM)(t:Nat):iT (put T (some d) v) t=if t=d then v else iT T t:=by
 unfold iT D.put
 rw[Tr.bX]
 grind
theorem dB.put{T:Tr aeM}{a:Act}{nt:Nat}{v v':aeM}{dst:Option Tmp}(h:dB σ T a nt)(hd:∀d,dst=some d->d < nt)(hv:bw σ v v'):dB σ (put T dst v) (a.put dst v') nt:=by
 cases dst with
 |none=>exact h
 |some d=>
  have a0:=hd d rfl;refine⟨by simp[Act.put,h.1],λt ht=>?_⟩;rw[GX];by_cases H:t=d
  ·subst H
   have:(a.put (some t) v').eval (.tmp t)=v':=by simp[Act.put,Act.eval,h.1,a0]
   grind
  rw[abd H,Act.eval_put (by grind)];exact h.2 t ht
theorem EE{nt:Nat}{T:Tr aeM}{a:Act}{x:Operand}(hs:eN P σ m w)(hT:∀t,x=.tmp t->bw σ (iT T t) (a.eval (.tmp t)))(H:rQ nt P.globals.size x):bw σ (ev T x) (a.eval x):=by
 cases x with
 |tmp t=>exact hT t rfl
 |const v=>exact .jG H
 |global g=>
  have hg:g < P.globals.size:=by
   have h:Nat.blt g P.globals.size:=H
   simp_all
  exact .ptr ⟨g,0,none⟩ ⟨g,none⟩ (hs.kz g hg) rfl
 |func f=>exact .flat _ rfl
theorem kN{T:Tr aeM}{a:Act}(l:List Operand)(h:∀x∈l,bw σ (ev T x) (a.eval x)):bK σ (l.map (ev T)) (l.map a.eval):=by
 refine⟨by simp,λj u u' hu H=>?_⟩
 grind
theorem zY(hE:E.OK P)(hs:eN P σ m w){b:Builtin}{ts:Array TypeId}{ty:TypeId}{cs:Array Bool}{args args':aeN}{v:aeM}(h:aw E m b ts.toList args=some (v,m'))(hl:bK σ args args'):
  dK P σ m w ((Go.builtin b ts ty cs args'.toArray).run P w) v m':=by
 unfold aw at h;split at h
 ·rename_i t u s x a0;obtain⟨s',l1,rfl,h1,e0⟩:=hl.cases;obtain⟨x',l2,rfl,h2,b0⟩:=e0.cases;obtain rfl:=b0.nil_eq;have H:ts= #[t,u]:=ac0 a0;subst H;exact(CU (ty:=ty) hE hs h h1 h2).op
 ·rename_i t rest d x a0;obtain⟨s',l1,rfl,h1,e0⟩:=hl.cases;obtain⟨x',l2,rfl,h2,b0⟩:=e0.cases;obtain rfl:=b0.nil_eq;have H:ts[0]?=some t:=by rw[<-acT,a0];rfl
  exact(Gx (ty:=ty) hE hs H h h1 h2).op
 ·rename_i t x a0;obtain⟨x',l2,rfl,h2,b0⟩:=hl.cases;obtain rfl:=b0.nil_eq;have H:ts= #[t]:=ac0 a0;subst H;exact(EK (ty:=ty) hE hs h h2).op
 ·rename_i t x a0;obtain⟨x',l2,rfl,h2,b0⟩:=hl.cases;obtain rfl:=b0.nil_eq;have H:ts= #[t]:=ac0 a0;subst H;simp only[abq,abP]at h;obtain⟨v0,h,rfl,rfl⟩:=h;have⟨q1,q2⟩:=Kk (ty:=ty) hE hs h h2;exact dK.same hs q1 (.flat _ q2)
 ·simp only[abq,abP]at h;obtain⟨v0,h,rfl,rfl⟩:=h;obtain⟨x,rest,rfl,q1,q2⟩:=pH (P:=P) (w:=w) (op:=Builtin.min2) (λk x k' y=>rfl) hl h;exact dK.same hs (s:=Builtin.min_ ts ty (x::rest).toArray) (by simpa[Builtin.min_]using q1) (.flat _ q2)
 ·simp only[abq,abP]at h;obtain⟨v0,h,rfl,rfl⟩:=h;obtain⟨x,rest,rfl,q1,q2⟩:=pH (P:=P) (w:=w) (op:=Builtin.max2) (λk x k' y=>rfl) hl h;exact dK.same hs (s:=Builtin.max_ ts ty (x::rest).toArray) (by simpa[Builtin.max_]using q1) (.flat _ q2)
 ·rename_i t x a0;obtain⟨x',l2,rfl,h2,b0⟩:=hl.cases;obtain rfl:=b0.nil_eq;have H:ts= #[t]:=ac0 a0;subst H;split at h
  ·rename_i ti g0;have⟨i,u,f⟩:=hE.lS g0;split at h
   ·rename_i e a n c hd
    rw[f.d]at hd
    obtain rfl:=dj hd
    cases d0:oY m a with
    |true=>rw[d0]at h;simp at h
    |false=>
     rw[d0]at h;simp only[abm,abf,abP]at h;obtain⟨rfl,rfl⟩:=h;obtain⟨bi,a',c',h0,rfl,i0⟩:=h2.dL
     have l0:bi.gr=none:=by
      unfold oY at d0;split at d0
      ·rename_i cs te hg;have⟨_,_,_,_,j0⟩:=hs.cells h0 hg;exact j0.1
      ·grind
     have k0:c'=c:=by
      grind
     subst k0;exact dK.same hs (s:=Builtin.cap_ #[t] ty #[.slice (some a') n c']) (by simp[Builtin.cap_,abj f.fa,goInt]) (.flat _ rfl)
   ·rename_i e n c hd;rw[f.d]at hd;obtain rfl:=dj hd;cases h;obtain⟨rfl,rfl,rfl⟩:=h2.eS;exact dK.same hs (s:=Builtin.cap_ #[t] ty #[aeQ]) (by simp[Builtin.cap_,abj f.fa,goInt]) (.flat _ rfl)
   cases h
  cases h
 cases h
theorem zH.map{T:Tr aeM}{a:Act}{x:Option Operand}(h:∀o,x=some o->bw σ (ev T o) (a.eval o)):zH σ (x.map (ev T)) (x.map a.eval):=by
 cases x with
 |none=>trivial
 |some o=>exact h o rfl
theorem GJ(hE:E.OK P){call:aK}(cY:dc P call)(hs:eN P σ m w){T:Tr aeM}{a:Act}{c:Call}{ty:TypeId}{v:aeM}(h:nI c E call T m=some (v,m'))
  (hT:∀x∈c.operands.toList,bw σ (ev T x) (a.eval x)):dK P σ m w ((do let d<-resolve a.eval c ty;invoke d.target d.args:Sem Next).run P w) v m':=by
 unfold nI at h;have a0:bK σ (c.args.toList.map (ev T)) (c.args.toList.map a.eval):=kN _ (λx hx=>hT x (by simp[Call.operands];exact .inr (by grind)));have e0:c.args.map a.eval=(c.args.toList.map a.eval).toArray:=by grind
 unfold resolve;split at h
 ·rename_i b hc;rw[hc];simp only[abo,abD,abg,invoke,e0];exact zY hE hs h a0
 ·rename_i f hc;rw[hc];have hf:bw σ (ev T f) (a.eval f):=hT f (by simp[Call.operands,hc]);split at h
  ·rename_i g first captured hg
   rw[hg]at hf
   obtain⟨fv,b0⟩:∃x,a.eval f=x:=⟨_,rfl⟩
   rw[b0]at hf
   cases hf with
   |flat _ hh=>
    cases g with
    |func g=>
     simp only[b0,Deferred.ofValue,abo,abD,abg,invoke]
     refine cY.op g _ m v m' h σ w _ hs ?_
     rw[e0]
     simp only[bF,abc,adL]at hh
     grind
    |_=>simp[bF]at hh
   |func g _ _ d0 H ha hb h1 h2=>
    simp only[b0,Deferred.ofValue,abo,abD,abg,invoke];refine cY.op g _ m v m' h σ w _ hs ?_;rw[e0];simp only[aew];have e1:bK σ first.toList d0.toList:=⟨by grind,λj u u' x y=>h1 j u u' (by grind) (by grind)⟩
    have e2:bK σ captured.toList H.toList:=⟨by grind,λj u u' x y=>h2 j u u' (by grind) (by grind)⟩
    rw[abL];exact e1.append (a0.append e2)
   |yield l i hl=>
    simp only[b0,Deferred.ofValue,abo,abD,abg,invoke]
    refine cY.yield l _ m v m' h σ w i _ hs hl ?_
    grind
  cases h
 cases h
theorem tp(hE:E.OK P){call:aK}(cY:dc P call)(hs:eN P σ m w){T:Tr aeM}{a:Act}{o:Oper}{v:aeM}(h:dn o.op E call T m=some (v,m'))
  (H:∀x∈o.op.operands.toList,bw σ (ev T x) (a.eval x)):dK P σ m w ((execOp a.eval o).run P w) v m':=by
 unfold execOp
 cases ho:o.op with
 |move x=>rw[ho]at h H;dsimp only;cases h;exact .value (H x (by simp[Op.operands])) (Ev.refl hs)
 |assign x=>rw[ho]at h H;dsimp only;cases h;exact .value (H x (by simp[Op.operands])) (Ev.refl hs)
 |pick c x y=>
  rw[ho]at h H;dsimp only;simp only[dn,rN]at h;split at h
  ·rename_i t hc;simp only[abf,abP]at h;obtain⟨rfl,rfl⟩:=h;have h1:=H c (by simp[Op.operands]);rw[hc]at h1;rw[h1.bool];simp only[asBool,abo,abD,abg];refine .value ?_ (Ev.refl hs);cases t;·exact H y (by simp[Op.operands])
   exact H x (by simp[Op.operands])
  cases h
 |alloc t=>
  rw[ho]at h;dsimp only;simp only[dn,tz]at h;split at h
  ·rename_i z hz;cases h;exact(EZ hE hs hz).op
  cases h
 |box t x=>rw[ho]at h H;dsimp only;cases h;exact(Lk hs (H x (by simp[Op.operands]))).op
 |build t ps=>
  rw[ho]at h H;dsimp only;simp only[dn,tx]at h;split at h
  ·rename_i z hz;cases h;obtain⟨v',h1,h2⟩:=wA (w:=w) hE (T:=ev T) (A:=a.eval) (λp hp=>H p.2 (by simp only[Op.operands];exact acP hp)) hz;exact dK.same hs h1 h2
  cases h
 |buildSlice t n ps=>rw[ho]at h H;dsimp only;simp only[dn,nJ]at h;exact(vI hE hs (T:=ev T) (A:=a.eval) (λp hp=>H p.2 (by simp only[Op.operands];exact acP hp)) h).op
 |load t x=>
  rw[ho]at h H;dsimp only;simp only[dn,yD]at h;split at h
  ·rename_i ad hx;split at h
   ·rename_i z hz;cases h;have h1:=H x (by simp[Op.operands]);rw[hx]at h1;have⟨i,hi,_,he⟩:=h1.gW;have⟨v',q1,q2,_⟩:=re (w:=w) hE hs hi hz;refine dK.same hs (s:=Instr.loadAt t (a.eval x)) ?_ q2;rw[he];simpa[Instr.loadAt,Instr.sureAddr]using q1
   cases h
  cases h
 |store t x y=>
  rw[ho]at h H;dsimp only;simp only[dn,nH]at h;split at h
  ·rename_i ad hx;split at h
   ·rename_i m2 hz;cases h;have h1:=H x (by simp[Op.operands]);rw[hx]at h1;have⟨i,hi,_,he⟩:=h1.gW;obtain⟨w',q1,q2,_⟩:=oV hE hs hi (H y (by simp[Op.operands])) hz
    have hr:(Instr.storeAt t (a.eval x) (a.eval y)).run P w=.ok () w':=by rw[he];simpa[Instr.storeAt,Instr.sureAddr]using q1
    simp only[abo,hr,abg,abD];exact .skip q2
   cases h
  cases h
 |nilCheck x=>
  rw[ho]at h H;dsimp only;have h1:=H x (by simp[Op.operands]);simp only[dn,hZ]at h;split at h
  ·rename_i ad hx;cases h;rw[hx]at h1;have h2:=h1;have⟨i,hi,_,he⟩:=h1.gW;rw[he]at h2⊢;exact .value h2 (Ev.refl hs)
  ·rename_i g a1 b1 hx;cases h;rw[hx]at h1;have h2:=h1;have⟨a',b',he,_⟩:=h1.yX;rw[he]at h2⊢;exact .value h2 (Ev.refl hs)
  cases h
 |binOp op t x y yt=>
  rw[ho]at h H;dsimp only;simp only[dn,DP]at h;split at h
  ·rename_i z hz;cases h;obtain⟨q1,q2⟩:=Bo (w:=w) hE hz (H x (by simp[Op.operands])) (H y (by simp[Op.operands])) x y;exact dK.same hs q1 (.flat _ q2)
  cases h
 |unOp op t x=>
  rw[ho]at h H;dsimp only;simp only[dn,NJ]at h;split at h
  ·rename_i z hz;cases h;obtain⟨q1,q2⟩:=Dq (P:=P) (w:=w) hz (H x (by simp[Op.operands]));exact dK.same hs q1 (.flat _ q2)
  cases h
 |convert s d x=>
  rw[ho]at h H;dsimp only;simp only[dn,FQ]at h;split at h
  ·rename_i z hz;cases h;obtain⟨q1,q2⟩:=PK (P:=P) (w:=w) hE hs hz (H x (by simp[Op.operands]));exact dK.same hs q1 (.flat _ q2)
  cases h
 |makeFunc f x y=>
  rw[ho]at h H;dsimp only;simp only[dn,jg]at h;split at h
  ·rename_i g;cases h;have e1:bK σ (x.toList.map (ev T)) (x.toList.map a.eval):=kN _ (λo hx=>H o (by simp[Op.operands];exact .inl (by grind)));have e2:bK σ (y.toList.map (ev T)) (y.toList.map a.eval):=kN _ (λo hx=>H o (by simp[Op.operands];exact .inr (by grind)));refine dK.same hs (s:=Instr.makeFunc (.func g) (x.map a.eval) (y.map a.eval)) rfl ?_;refine .func g _ _ _ _ (by simp) (by simp) (λj u u' p q=>e1.2 j u u' (by grind) (by grind)) (λj u u' p q=>e2.2 j u u' (by grind) (by grind))
  cases h
 |makeMap t r=>
  rw[ho]at h;dsimp only;simp only[dn,qu]at h;split at h
  ·cases h;exact(zT hs t).op
  cases h
 |makeSlice t l c=>rw[ho]at h H;dsimp only;exact(wL hE hs (H l (by simp[Op.operands])) (H c (by simp[Op.operands])) h).op
 |slice t x lo hi mx=>
  rw[ho]at h H;dsimp only;simp only[dn,BX]at h;split at h
  ·rename_i z hz;cases h;obtain⟨v',q1,q2⟩:=Dy (w:=w) hE hs hz (H x (by simp[Op.operands])) (zH.map (a:=a) (λo he=>H o (by simp[Op.operands,he]))) (zH.map (a:=a) (λo he=>H o (by simp[Op.operands,he]))) (zH.map (a:=a) (λo he=>H o (by simp[Op.operands,he])));exact dK.same hs q1 q2
  cases h
 |fieldAddr s x f=>
  rw[ho]at h H;dsimp only;simp only[dn,jE]at h;split at h
  ·rename_i z hz;cases h;obtain⟨v',q1,q2⟩:=oz (w:=w) hE hz (H x (by simp[Op.operands]));exact dK.same hs q1 q2
  cases h
 |field t x f=>
  rw[ho]at h H;dsimp only;simp only[dn,tw]at h;split at h
  ·rename_i z hz;cases h;obtain⟨v',q1,q2⟩:=wk (w:=w) hE hz (H x (by simp[Op.operands]));exact dK.same hs q1 q2
  cases h
 |indexAddr t x y=>
  rw[ho]at h H;dsimp only;simp only[dn,jD]at h;split at h
  ·rename_i z hz;cases h;obtain⟨v',q1,q2⟩:=oo (w:=w) hE hz (H x (by simp[Op.operands])) (H y (by simp[Op.operands]));exact dK.same hs q1 q2
  cases h
 |index t x y=>
  rw[ho]at h H;dsimp only;simp only[dn,tu]at h;split at h
  ·rename_i z hz;cases h;obtain⟨v',q1,q2⟩:=wg (w:=w) hE hz (H x (by simp[Op.operands])) (H y (by simp[Op.operands]));exact dK.same hs q1 q2
  cases h
 |lookup t x y ok=>
  rw[ho]at h H;dsimp only;simp only[dn,yC]at h;split at h
  ·rename_i z hz;cases h;obtain⟨v',q1,q2⟩:=Ci hE hs hz (H x (by simp[Op.operands])) (H y (by simp[Op.operands]));exact dK.same hs q1 q2
  cases h
 |mapUpdate t x k y=>
  rw[ho]at h H;dsimp only;simp only[dn,ff]at h;split at h
  ·rename_i m2 hz;cases h;obtain⟨w',q1,q2⟩:=om hE hs hz (H x (by simp[Op.operands])) (H k (by simp[Op.operands])) (H y (by simp[Op.operands]));simp only[abo,q1,abg,abD];exact .skip q2
  cases h
 |insert t x k y=>
  rw[ho]at h H;dsimp only;simp only[dn,ff]at h;split at h
  ·rename_i m2 hz;cases h;obtain⟨w',q1,q2⟩:=om hE hs hz (H x (by simp[Op.operands])) (H k (by simp[Op.operands])) (H y (by simp[Op.operands]));simp only[abo,q1,abg,abD];exact .skip q2
  cases h
 |extract x i=>
  rw[ho]at h H;dsimp only;simp only[dn,kJ]at h;split at h
  ·rename_i vs hx;split at h
   ·rename_i z hz;cases h;have h1:=H x (by simp[Op.operands]);rw[hx]at h1;have⟨e0,he,hl⟩:=h1.uD;have⟨u',hu,hr⟩:=hl.get hz;refine dK.same hs (s:=Instr.extract (a.eval x) i) (v':=u') ?_ hr;rw[he];have:e0[i]?=some u':=by grind
    simp[Instr.extract,this]
   cases h
  cases h
 |call c=>rw[ho]at h H;dsimp only;exact GJ hE cY hs h H
 |mapEntry t x k=>rw[ho]at h H;dsimp only;simp only[dn,rO]at h;obtain⟨w',v',q1,q2,q3⟩:=yH hE hs h (H x (by simp[Op.operands])) (H k (by simp[Op.operands]));exact Ah.op ⟨_,w',v',q1,q2,q3⟩
 |entryStore t x s y=>
  rw[ho]at h H;dsimp only;simp only[dn,kn]at h;split at h
  ·rename_i m2 hz;cases h;obtain⟨w',q1,q2⟩:=vv (t:=t) hs hz (H x (by simp[Op.operands])) (H s (by simp[Op.operands])) (H y (by simp[Op.operands]));simp only[abo,q1,abg,abD];exact .skip q2
  cases h
 |typeAssert x xt t ok=>
  rw[ho]at h H;dsimp only;simp only[dn,pB]at h;have h1:=H x (by simp[Op.operands]);split at h
  ·rename_i hx
   rw[hx]at h1
   rw[h1.bM rfl]
   cases ok with
   |false=>cases h
   |true=>
    simp only[cond_true]at h;split at h
    ·rename_i z hz
     cases h
     unfold iZ at hz
     cases a0:E.ty.get t with
     |none=>rw[a0]at hz;cases hz
     |some ti=>
      rw[a0]at hz;simp only[acC]at hz;have⟨i,u,f⟩:=hE.lS a0;have g0:=bw.fD (σ:=σ) (hE.flat a0 hz);have b0:=dC (w:=w) f.info (by rw[<-f.zero];exact hz);refine dK.same hs (s:=Instr.typeAssert .nilIface xt t true) (v':=.tuple #[z,aeS]) ?_ (bK.cons g0 (bK.cons (.flat _ rfl) bK.nil)).tuple;unfold Instr.typeAssert;rw[abo,abj f.fa,abg];split <;>first |(rename_i h3;cases h3;done) |skip
      all_goals first |(simp only[acU,abo,b0,abg,abD];done) |(exfalso;simp_all;done)
    cases h
  ·rename_i t' cs hx
   cases hc:(ok && (Nat.beq t' t && cs.toList.isEmpty))with
   |false=>rw[hc]at h;cases h
   |true=>
    rw[hc,cond_true]at h;simp only[abc,adL]at hc;obtain⟨rfl,ht,i0⟩:=hc;obtain rfl:=abn ht;have d0:cs= #[]:=adj (by simp_all);subst d0;rw[hx]at h1;rw[h1.bM rfl];split at h
    ·rename_i ti a0;split at h
     ·rename_i fs h0
      cases h
      have⟨i,u,f⟩:=hE.lS a0
      obtain⟨gs,rfl,_⟩:=fX (f.d.symm.trans h0)
      refine dK.same hs (s:=Instr.typeAssert (.iface t' (.agg #[])) xt t' true) (v':=.tuple #[.agg #[],aeR]) ?_ (bK.cons (bw.jG rfl) (bK.cons (.flat _ rfl) bK.nil)).tuple
      unfold Instr.typeAssert
      rw[abo,abj f.fa,abg]
      simp_all
     cases h
    cases h
  cases h
 |_=>rw[ho]at h;simp[dn]at h
end
end
end Go.D
