/- THE ABSTRACT RUN 'D': a .. -/
import Derived.OrdersIn
import Derived.RangeFuncLeaves
import Derived.WalkKit
noncomputable section
namespace Go
abbrev aaV:=@Nat.le_refl
abbrev aaW:=@List.getElem?_eq_getElem
abbrev aaX:=@List.getElem?_cons_succ
abbrev aaY:=@List.getElem?_cons_zero
abbrev aaZ:=@of_decide_eq_false
abbrev aa0:=@List.getElem?_eq_some_iff
abbrev aa1:=@of_decide_eq_true
abbrev aa2:=@List.mem_of_getElem?
abbrev aa3:=@Bool.and_eq_true
abbrev aa4:=@if_neg
abbrev aa5:=@if_pos
abbrev aa6:=@Nat.zero_le
abbrev aa7:=@Option.some.injEq
abbrev aa8:=@Option.map_some
abbrev aa9:=@run_underlying
abbrev aba:=@Nat.eq_of_beq_eq_true
abbrev abb:=@decide_eq_true
abbrev abc:=@List.mem_cons
abbrev abd:=@Result.andThen_ok
abbrev abe:=@List.length_cons
abbrev abf:=@cond_false
abbrev abg:=@List.take_add_one
abbrev abh:=@Sem.run_bind
abbrev abi:=@List.getElem?_of_mem
abbrev abj:=@Bool.not_eq_false'
abbrev abk:=@List.take_of_length_le
abbrev abl:=@Option.map_eq_some_iff
abbrev abm:=@decide_eq_true_eq
abbrev abn:=@List.not_mem_nil
abbrev abo:=@Bool.not_eq_true'
abbrev abp:=@List.mem_append
abbrev abq:=@List.length_append
abbrev abr:=@List.mem_singleton
abbrev abt:=@decide_eq_false
abbrev abu:=@List.length_nil
abbrev abv:=@List.append_assoc
abbrev abw:=@List.pairwise_iff_getElem
abbrev abx:=@Nat.add_mul
abbrev aby:=@List.all_eq_true
abbrev abz:=@Nat.le_of_ble_eq_true
abbrev abA:=@Nat.zero_add
abbrev abB:=@List.filter_append
abbrev abC:=@Nat.mul_le_mul_right
abbrev abD:=@List.take_length
abbrev abE:=@List.map_append
abbrev abF:=@List.mem_map
abbrev abG:=@Bool.true_and
abbrev abH:=@Sem.run_pure
abbrev abI:=@Array.length_toList
abbrev abJ:=@List.append_nil
abbrev abK:=@List.length_map
abbrev abL:=@Array.getElem?_eq_some_iff
abbrev abM:=@List.drop_zero
abbrev abN:=@Classical.byContradiction
abbrev abO:=@Nat.ble_eq_true_of_le
abbrev abP:=@List.length_take
abbrev abQ:=@List.filter_cons
abbrev abR:=@List.drop_eq_getElem_cons
abbrev abS:=@List.mem_cons_of_mem
abbrev abT:=@List.mem_cons_self
abbrev abU:=@Nat.ne_of_beq_eq_false
abbrev abV:=@Option.bind_eq_some_iff
abbrev abW:=@List.take_append_drop
abbrev abX:=@List.mem_filter
abbrev abY:=@Prod.mk.injEq
abbrev abZ:=@List.nil_append
abbrev ab0:=@List.getElem?_drop
abbrev ab1:=@Option.map_none
abbrev ab2:=@List.pairwise_append
abbrev ab3:=@Option.toList_some
abbrev ab4:=@List.pairwise_cons
abbrev ab5:=@List.getElem?_eq_none
abbrev ab6:=@Int.mul_nonneg
abbrev ab7:=@List.take_succ_cons
abbrev ab8:=@List.any_eq_true
abbrev ab9:=@List.ext_getElem?
abbrev aca:=@Bool.not_true
abbrev acb:=@List.getElem?_take_of_lt
abbrev acd:=@List.filter_eq_self
abbrev ace:=@Array.getElem?_toList
abbrev acf:=@List.length_filter_le
abbrev acg:=@Array.getD_eq_getD_getElem?
abbrev ach:=@List.getElem?_map
abbrev aci:=@decide_eq_false_iff_not
abbrev acj:=@List.getElem?_append_right
abbrev ack:=@Nat.beq_refl
abbrev acm:=@Bool.or_eq_false_iff
abbrev acn:=@Nat.le_trans
abbrev aco:=@Nat.one_mul
abbrev acp:=@List.drop_eq_nil_of_le
abbrev acq:=@List.length_drop
abbrev acr:=@List.eq_nil_of_length_eq_zero
abbrev acs:=@List.drop_succ_cons
abbrev acu:=@List.flatMap_cons
abbrev acv:=@Nat.le_succ
abbrev acw:=@List.cons_append
abbrev acx:=@List.take_zero
abbrev acy:=@Nat.sub_mul
abbrev acz:=@List.flatMap_append
abbrev acA:=@Bool.or_eq_true
abbrev acB:=@List.getElem?_append_left
abbrev acC:=@List.filter_nil
abbrev acD:=@Nat.mod_eq_of_lt
abbrev acE:=@List.drop_drop
abbrev acF:=@List.size_toArray
abbrev acG:=@List.range_succ
abbrev acH:=@List.mem_map_of_mem
abbrev acI:=@Nat.mod_lt
abbrev acJ:=@List.map_cons
abbrev acK:=@Nat.lt_of_lt_of_le
abbrev acL:=@Bool.not_false
abbrev acM:=@List.mem_iff_getElem?
abbrev acN:=@Int.mul_eq_zero
abbrev acO:=@Nat.add_zero
abbrev acP:=@List.any_eq_false
abbrev acQ:=@Bool.false_and
abbrev acR:=@List.mem_range
abbrev acS:=@Option.bind_some
abbrev acT:=@Array.getElem?_push_lt
abbrev acU:=@List.filter_eq_nil_iff
abbrev acV:=@Nat.blt_eq
abbrev acW:=@Nat.zero_mul
abbrev acX:=@List.getElem?_take
abbrev acY:=@Array.getElem?_modify
abbrev acZ:=@if_true
abbrev ac0:=@Bool.false_or
abbrev ac1:=@Int.mul_nonpos_of_nonneg_of_nonpos
abbrev ac2:=@List.mem_of_find?_eq_some
abbrev ac3:=@Int.mul_pos
abbrev ac4:=@Option.getD_some
abbrev ac5:=@List.filterMap_cons
abbrev ac6:=@Bool.or_false
abbrev ac7:=@Array.ext'
abbrev ac8:=@List.find?_eq_none
abbrev ac9:=@List.mem_filterMap
abbrev ada:=@Nat.min_eq_left
abbrev adb:=@List.filterMap_nil
abbrev ade:=@List.foldl_cons
abbrev adf:=@Nat.lt_of_le_of_lt
abbrev adg:=@List.take_append_of_le_length
abbrev adh:=@Nat.lt_trichotomy
abbrev adi:=@List.pairwise_map
abbrev adj:=@List.foldl_append
abbrev adk:=@List.filterMap_append
abbrev adl:=@List.mem_flatMap
abbrev adm:=@List.drop_length
abbrev adn:=@List.mem_of_mem_drop
abbrev ado:=@List.mem_of_mem_take
abbrev adp:=@Array.toList_append
abbrev adq:=@List.getElem?_eq_none_iff
abbrev adr:=@Array.getElem?_eq_getElem
abbrev ads:=@List.map_nil
abbrev adt:=@Int.le_of_lt
abbrev adu:=@Nat.sub_zero
abbrev adv:=@Array.foldl_toList
abbrev adw:=@List.length_filterMap_le
abbrev adx:=@Option.isSome_iff_exists
abbrev ady:=@Bool.and_false
abbrev adz:=@List.take_take
abbrev adA:=@List.length_eq_zero_iff
abbrev adB:=@Nat.add_sub_cancel_left
abbrev adC:=@List.drop_append
abbrev adD:=@List.take_append
abbrev adE:=@Nat.add_comm
abbrev adF:=@Bool.eq_iff_iff
abbrev adG:=@Int.mul_le_mul_of_nonneg_right
abbrev adH:=@List.all_append
abbrev adI:=@Nat.min_le_left
abbrev adJ:=@Nat.min_self
abbrev adK:=@List.take_left'
abbrev adL:=@List.drop_append_of_le_length
abbrev adM:=@Int.mul_le_mul_of_nonneg_left
abbrev adN:=@List.toList_toArray
abbrev adO:=@Bool.false_eq_true
abbrev adP:=@Nat.sub_add_cancel
abbrev adQ:=@List.set_cons_succ
abbrev adR:=@Option.isNone_some
abbrev adS:=@Bool.and_true
abbrev adT:=@List.length_range
abbrev adU:=@List.drop_sublist
abbrev adV:=@Array.mapM_eq_mapM_toList
abbrev adW:=@Int.lt_or_le
abbrev adX:=@Nat.mod_self
abbrev adY:=@Int.mul_emod
abbrev adZ:=@Array.getElem?_replicate
abbrev ad1:=@Nat.lt_succ_self
abbrev ad2:=@Nat.min_le_right
abbrev ad3:=@Nat.div_le_self
abbrev ad4:=@List.drop_of_length_le
abbrev ad5:=@Int.le_refl
abbrev ad6:=@Int.mul_neg
abbrev ad7:=@Array.getElem_push_eq
abbrev ad8:=@List.singleton_append
abbrev ad9:=@Nat.mul_le_mul
abbrev aea:=@Bool.and_self
abbrev aeb:=@List.drop_set
abbrev aec:=@List.length_pos_iff
abbrev aed:=@List.filter_sublist
abbrev aee:=@List.getElem?_range
abbrev aef:=@Nat.add_sub_cancel'
abbrev aeg:=@Option.isSome_none
abbrev aeh:=@Nat.mod_eq_sub_mod
abbrev aei:=@Option.isNone_none
abbrev aej:=@Bool.not_not
abbrev aek:=@Int.mul_zero
abbrev ael:=@List.map_map
abbrev aem:=@Int.emod_lt_of_pos
abbrev aen:=@Nat.lt_or_ge
abbrev aeo:=@Nat.sub_self
abbrev aep:=@Int.neg_mul
abbrev aeq(b o:Nat):Value:=.pointer (some ⟨b,o,none⟩)
abbrev aer(b o n c:Nat):Value:=.slice (some ⟨b,o,none⟩) n c
abbrev aes:=Value
abbrev aet:=List Value
abbrev aew:Value:=.slice none 0 0
abbrev aex:Value:=.bool true
abbrev aey:Value:=.bool false
abbrev aev:=Value.int .i64
end Go
namespace Go.D
open Go
section
inductive Tr (α:Type) where
 |e
 |n (v:Option α) (l r:Tr α)
 deriving Inhabited
def Tr.get{α:Type}(t:Tr α):Nat->Option α:=
 Tr.rec (motive:=λ_=>Nat->Option α) (λ_=>none)
  (λv _ _ H gr i=>bif Nat.beq i 0 then v else bif Nat.beq ((i-1)%2) 0 then H ((i-1)/2)else gr ((i-1)/2)) t
theorem Tr.yL{α:Type}(i:Nat):(Tr.e:Tr α).get i=none:=rfl
theorem Tr.pt{α:Type}(v:Option α)(l r:Tr α):(Tr.n v l r).get 0=v:=rfl
theorem Tr.jA{α:Type}(v:Option α)(l r:Tr α)(i:Nat):(Tr.n v l r).get (i+1)=bif Nat.beq (i%2) 0 then l.get (i/2)else r.get (i/2):=rfl
def Tr.single{α:Type}(x:α):Nat->Nat->Tr α
 |0,_=> .n (some x) .e .e
 |_+1,0=> .n (some x) .e .e
 |f+1,i+1=>bif Nat.beq (i%2) 0 then .n none (single x f (i/2)) .e else .n none .e (single x f (i/2))
def Tr.set{α:Type}(t:Tr α):Nat->α->Tr α:=
 Tr.rec (motive:=λ_=>Nat->α->Tr α) (λi x=>Tr.single x i i)
  (λv l r sl H i x=>bif Nat.beq i 0 then .n (some x) l r else bif Nat.beq ((i-1)%2) 0 then .n v (sl ((i-1)/2) x) r else .n v l (H ((i-1)/2) x)) t
theorem Tr.My{α:Type}(i:Nat)(x:α):(Tr.e:Tr α).set i x=Tr.single x i i:=rfl
theorem Tr.xR{α:Type}(v:Option α)(l r:Tr α)(x:α):(Tr.n v l r).set 0 x=.n (some x) l r:=rfl
theorem Tr.xS{α:Type}(v:Option α)(l r:Tr α)(i:Nat)(x:α):(Tr.n v l r).set (i+1) x=bif Nat.beq (i%2) 0 then .n v (l.set (i/2) x) r else .n v l (r.set (i/2) x):=rfl
structure Fd where
 ty:Nat
 off:Nat
 size:Nat
 blank:Bool
inductive Kd where
 |b |i |s
inductive TD where
 |bool
 |int (k:IntKind)
 |str
 |ptr (e:Nat)
 |slice (e:Nat)
 |array (n e:Nat)
 |map (k e:Nat)
 |struct (fs:List Fd)
 |func
 |iface (empty:Bool)
 |other
structure TI where
 d:TD
 size:Nat
 bytes:Nat
 es:Nat
 zero:Option aes
 cmp:Option (List Kd)
structure Env where
 ty:Tr TI
 fn:Tr Func
 G:Nat
def TD.agg:TD->Bool
 |.struct _ |.array _ _=>true
 |_=>false
def hZ(P:Program):TypeDesc->TD
 |.bool=> .bool
 |.int k=> .int k
 |.string=> .str
 |.pointer e=> .ptr e
 |.slice e=> .slice e
 |.array n e=> .array n e
 |.map k e=> .map k e
 |.struct H=> .struct (H.toList.map λf=>⟨f.type,f.offset,((P.info? f.type).map (·.size)).getD 0,f.name== "_" ||(P.info? f.type).isNone⟩)
 |.func _ _ _=> .func
 |.interface ms=> .iface ms.isEmpty
 |_=> .other
def kinds(g:TypeId->Option (List Kd)):List Field->Nat->Option (List Kd)
 |[],_=>some []
 |f::fs,off=>if f.name= "_" then none else if f.offset=off then
   match g f.type with
   |some H=>match kinds g fs (off+H.length)with
    |some r=>some (H++r)
    |none=>none
   |none=>none
  else none
def nM(H:List Kd):Nat->List Kd
 |0=> []
 |n+1=>H++nM H n
def sized(P:Program)(t:TypeId)(r:Option (List Kd)):Option (List Kd):=
 match r,P.info? t with
 |some H,some i=>if H.length=i.size then some H else none
 |_,_=>none
def lF(P:Program):Nat->TypeId->Option (List Kd)
 |0,_=>none
 |d+1,t=>sized P t (match P.underlying t with
  |some .bool=>some [.b]
  |some (.int _)=>some [.i]
  |some .string=>some [.s]
  |some (.struct fs)=>if P.stoodInHeld t then none else kinds (lF P d) fs.toList 0
  |some (.array n e)=>match lF P d e with
   |some H=>if n*H.length<=64 then some (nM H n)else none
   |none=>none
  |_=>none)
def yT(P:Program):TypeDesc->Nat
 |.slice e |.array _ e=>((P.info? e).map (·.size)).getD 0
 |_=>0
def HU(P:Program)(t:TypeId):TypeDesc->Option (List Kd)
 |.struct _ |.array _ _=>if P.eqGuardType P.depth t then none else lF P 12 t
 |_=>none
def Tq(P:Program)(t:TypeId):Option TI:=do
 let i<-P.info? t
 let u<-P.underlying t
 some {d:=hZ P u,size:=i.size,bytes:=i.bytes,es:=yT P u,zero:=i.zero,cmp:=HU P t u}
inductive Ex where
 |normal
 |exit (id:Nat)
 |ret
 deriving DecidableEq,Inhabited
structure zv where
 T:Tr aes
 ps:Array Tmp
 assign:Code
 body:Code
 st:LoopState
 sD:Option Ex
 G:Nat
 deriving Inhabited
inductive Ob where
 |dead
 |cells (c:aet) (e:TypeId) (g:Option Nat)
 |map (es:List MapEntry) (clock:Nat)
 |loop (r:zv)
 |ro (c:aet)
 deriving Inhabited
structure M where
 st:Tr Ob
 n:Nat
 low:Nat
 deriving Inhabited
def M.get(m:M)(b:Nat):Ob:=bif Nat.blt b m.n then(m.st.get b).getD .dead else .dead
def M.push(m:M)(o:Ob):M:={m with st:=m.st.set m.n o,n:=m.n+1}
def M.set(m:M)(b:Nat)(o:Ob):M:={m with st:=m.st.set b o,low:=min m.low b}
def bI:aes->Bool
 |.bool _ |.int _ _ |.float _ _ |.complex _ _ _ |.string _ |.nilFunc |.nilIface |.pointer none |.map none |.chan none |.slice none 0 0=>true
 |.func (.func _) a b=>a.toList.isEmpty && b.toList.isEmpty
 |.iface _ (.agg cs)=>cs.toList.isEmpty
 |_=>false
def dw:aes->Bool
 |.agg cs=>cs.toList.all bI
 |v=>bI v
def bF:aes->Bool
 |.tuple H=>H.toList.all dw
 |v=>dw v
def Tr.zz{α:Type}:Tr α->Nat->Nat->List (Nat×α)
 |.e,_,_=> []
 |.n v l r,a,b=>(match v with |some x=> [(b,x)] |none=> [])++(l.zz (2*a) (a+b)++r.zz (2*a) (2*a+b))
def qZ(n G:Nat):Operand->Bool
 |.tmp t=>Nat.blt t n
 |.const v=>dw v
 |.global g=>Nat.blt g G
 |.func _=>true
def jI(n G:Nat)(o:Oper):Bool:=o.op.operands.toList.all (qZ n G) && (match o.dst with |some d=>Nat.blt d n |none=>true)
def jh(ops:Array Oper)(o:Oper):List Tmp:=
 o.dst.toList++(o.op.operands.toList.filterMap (λ|.tmp t=>some t |_=>none)++(match o.guard with |some (j,_)=>((ops[j]?).bind (·.dst)).toList |none=> []))
def BG(ops:Array Oper):Bool:=
 let b:=Region.before ops
 (ops.toList.zipIdx.all λ(o,j)=>o.after.toList.all (λe=> !Region.binds .any e ||Nat.blt e.on j) &&
  ops.toList.zipIdx.all λ(H,i)=> !(Nat.blt i j) ||(b.getD j 0).testBit i ||
   ((match o.dst with |some d=> !(jh ops H).contains d |none=>true) && (match H.dst with |some d=> !(jh ops o).contains d |none=>true)))
def oI:Code->Bool
 |.seq a b=>oI a && oI b
 |.cond _ x y=>oI x && oI y
 |.block _ c |.loop c |.scope c=>oI c
 |.rangeFunc ..=>false
 |_=>true
def fE(n G:Nat):Code->Bool
 |.region _ ops d=>ops.toList.all (jI n G) && (!d ||BG ops)
 |.seq a b=>fE n G a && fE n G b
 |.cond c x y=>qZ n G c && (fE n G x && fE n G y)
 |.block _ c |.loop c |.scope c=>fE n G c
 |.rangeFunc f ps a b=>qZ n G f && (ps.toList.all (Nat.blt · n) && (fE n G a && fE n G b))
 |_=>true
def yu(G:Nat)(fn:Func):Bool:=
 (match fn.body with |some c=>fE fn.ntmps G c |none=>true) && (fn.name != "runtime.NumGoroutine" &&
 fn.results.toList.all λ|.tmp t=>Nat.blt t fn.ntmps |.cell a _=>Nat.blt a fn.ntmps)
def Env.KK(E:Env):Bool:=
 ((E.ty.zz 1 0).all λp=>(match p.2.zero with |some z=>bF z |none=>true) &&
  (match p.2.d with |.struct H=>H.all (λf=>match E.ty.get f.ty with |some fi=>fi.size==f.size |none=>false) |_=>true)) &&
 (E.fn.zz 1 0).all λp=>yu E.G p.2
structure Env.OK(E:Env)(P:Program):Prop where
 ty:∀t ti,E.ty.get t=some ti->Tq P t=some ti
 fn:∀f fn,E.fn.get f=some fn->P.funcs[f]?=some fn
 G:E.G=P.globals.size
 KK:E.KK=true
 mixed:P.follows .mixedOrders=true
def one:aes->Bool
 |.agg _ |.tuple _=>false
 |_=>true
def cells:aes->aet
 |.agg cs=>cs.toList
 |v=> [v]
noncomputable section
variable (E:Env)
def uX(t:TypeId):Option aes:=(E.ty.get t).bind (·.zero)
def cellAt(m:M)(a:Addr):Option aes:=
 match m.get a.block with
 |.cells c _ _=>if a.spot.isNone then c[a.off]? else none
 |.ro c=>if a.spot.isNone then(match c[a.off]? with |some v=>bif one v then some v else none |none=>none)else none
 |_=>none
def loadCells(m:M)(a:Addr)(n:Nat):Option (aet):=
 match m.get a.block with
 |.cells c _ _=>bif a.spot.isNone && Nat.ble (a.off+n) c.length then some ((c.drop a.off).take n)else none
 |.ro c=>bif a.spot.isNone && Nat.ble (a.off+n) c.length && ((c.drop a.off).take n).all one then some ((c.drop a.off).take n)else none
 |_=>none
def storeCells(m:M)(a:Addr)(vs:aet):Option M:=
 match m.get a.block with
 |.cells c e g=>
  bif a.spot.isNone && Nat.ble (a.off+vs.length) c.length && vs.all one then
   some (m.set a.block (.cells (c.take a.off++(vs++c.drop (a.off+vs.length))) e g))
  else none
 |_=>none
def loadVar(m:M)(t:TypeId)(a:Addr):Option aes:=
 match E.ty.get t with
 |some H=>bif H.d.agg then(loadCells m a H.size).map (λcs=> .agg cs.toArray)else cellAt m a
 |none=>none
def storeVar(m:M)(t:TypeId)(a:Addr)(v:aes):Option M:=
 match E.ty.get t with
 |some H=>bif Nat.beq (cells v).length H.size then storeCells m a (cells v)else none
 |none=>none
def newVar(m:M)(t:TypeId)(v:aes):aes×M:=(.pointer (some ⟨m.n,0,none⟩),m.push (.cells (cells v) t none))
def part(t:TypeId)(cs:aet)(off:Nat):Option aes:=
 match E.ty.get t with
 |some H=>bif H.d.agg then(bif Nat.ble (off+H.size) cs.length then some (.agg ((cs.drop off).take H.size).toArray)else none)else cs[off]?
 |none=>none
def HL:Kd->aes->aes->Option Bool
 |.b,.bool a,.bool b=>some (a==b)
 |.i,.int k a,.int H b=>if k=H then some (a==b)else none
 |.s,.string a,.string b=>some (a==b)
 |_,_,_=>none
def cD:List Kd->aet->aet->Option Bool
 |[],[],[]=>some true
 |k::H,a::x,b::y=>
  match HL k a b,cD H x y with
  |some c,some r=>some (c && r)
  |_,_=>none
 |_,_,_=>none
def eq?(t:TypeId)(x y:aes):Option Bool:=
 match E.ty.get t with
 |none=>none
 |some H=>
  match H.d,x,y with
  |.bool,.bool a,.bool b=>some (a==b)
  |.int _,.int k a,.int k' b=>if k=k' then some (a==b)else none
  |.str,.string a,.string b=>some (a==b)
  |.struct _,.agg xs,.agg ys=>match H.cmp with |some ks=>cD ks xs.toList ys.toList |none=>none
  |.array _ _,.agg xs,.agg ys=>match H.cmp with |some ks=>cD ks xs.toList ys.toList |none=>none
  |.slice _,.slice none _ _,.slice b _ _=>some b.isNone
  |.slice _,.slice (some _) _ _,.slice none _ _=>some false
  |.map _ _,.map none,.map b=>some b.isNone
  |.map _ _,.map (some _),.map none=>some false
  |.func,.nilFunc,.nilFunc=>some true
  |.func,.nilFunc,.func _ _ _=>some false
  |.func,.func _ _ _,.nilFunc=>some false
  |.ptr _,.pointer none,.pointer b=>some b.isNone
  |.ptr _,.pointer (some _),.pointer none=>some false
  |.iface true,.nilIface,.nilIface=>some true
  |_,_,_=>none
def iJ(op:BinOp)(k:IntKind)(a b:Int):Option aes:=
 match op with
 |.add=>some (.int k (k.wrap (a+b)))
 |.sub=>some (.int k (k.wrap (a-b)))
 |.mul=>some (.int k (k.wrap (a*b)))
 |.quo=>if b=0 then none else some (.int k (k.wrap (a.tdiv b)))
 |.rem=>if b=0 then none else some (.int k (a.tmod b))
 |.and=>some (.int k (k.wrap (BitVec.ofInt k.bits a &&& BitVec.ofInt k.bits b).toNat))
 |.or=>some (.int k (k.wrap (BitVec.ofInt k.bits a |||BitVec.ofInt k.bits b).toNat))
 |.xor=>some (.int k (k.wrap (BitVec.ofInt k.bits a ^^^ BitVec.ofInt k.bits b).toNat))
 |.andNot=>some (.int k (k.wrap (BitVec.ofInt k.bits a &&& ~~~(BitVec.ofInt k.bits b)).toNat))
 |.eql=>some (.bool (a==b))
 |.neq=>some (.bool (a !=b))
 |.lss=>some (.bool (a < b))
 |.leq=>some (.bool (a<=b))
 |.gtr=>some (.bool (a >b))
 |.geq=>some (.bool (a>=b))
 |_=>none
def Gn(op:BinOp)(a b:ByteArray):Option aes:=
 match op with
 |.add=>if((a.size+b.size:Nat):Int) >IntKind.i64.max then none else some (.string (a++b))
 |.eql=>some (.bool (a.toList==b.toList))
 |.neq=>some (.bool !(a.toList==b.toList))
 |.lss=>some (.bool (Op.bytesLess a.toList b.toList))
 |_=>none
def aC(op:BinOp)(t:TypeId)(x y:aes):Option aes:=
 match op,x,y with
 |.shl,.int k a,.int _ b=>if b < 0 then none else some (.int k (k.wrap (a*2 ^ (min b.toNat k.bits))))
 |.shr,.int k a,.int _ b=>if b < 0 then none else some (.int k (a.fdiv (2 ^ (min b.toNat k.bits))))
 |op,.int k a,.int H b=>if k=H then iJ op k a b else none
 |op,.string a,.string b=>Gn op a b
 |.eql,x,y=>(eq? E t x y).map .bool
 |.neq,x,y=>(eq? E t x y).map (λb=> .bool !b)
 |_,_,_=>none
def dh(op:UnOp)(x:aes):Option aes:=
 match op,x with
 |.neg,.int k n=>some (.int k (k.wrap (0-n)))
 |.not,.bool b=>some (.bool !b)
 |_,_=>none
def OR(src dst:TypeId)(x:aes):Option aes:=
 match E.ty.get src,E.ty.get dst,x with
 |some _,some H,.int _ n=>match H.d with |.int k=>some (.int k (k.wrap n)) |_=>none
 |some _,some H,.string s=>match H.d with |.str=>some (.string s) |_=>none
 |_,_,_=>none
def fill(place:Nat->Option (Nat×Nat))(cs:aet):List (Nat×aes)->Option (aet)
 |[]=>some cs
 |(i,v)::rest=>
  match place i with
  |none=>none
  |some (off,size)=>
   bif Nat.beq (cells v).length size && Nat.ble (off+size) cs.length then fill place (cs.take off++(cells v++cs.drop (off+size))) rest else none
def aK(t:TypeId)(parts:List (Nat×aes)):Option aes:=
 match E.ty.get t with
 |none=>none
 |some H=>
  match H.zero,H.d with
  |some z,.struct fs=>(fill (λi=>(fs[i]?).map λf=>(f.off,f.size)) (cells z) parts).map λcs=> .agg cs.toArray
  |some z,.array _ _=>bif Nat.beq H.es 0 then none else(fill (λi=>some (i*H.es,H.es)) (cells z) parts).map λcs=> .agg cs.toArray
  |_,_=>none
def lP(z:aet):Nat->aet
 |0=> []
 |n+1=>z++lP z n
def aI(m:M)(t:TypeId)(len:Nat)(parts:List (Nat×aes)):Option (aes×M):=
 match E.ty.get t with
 |none=>none
 |some H=>
  match H.d with
  |.slice e=>
   match uX E e with
   |none=>none
   |some z=>
    bif Nat.beq (cells z).length H.es && Nat.ble (len*H.es) 1048576 then
     (fill (λi=>some (i*H.es,H.es)) (lP (cells z) len) parts).map λcs=>(.slice (some ⟨m.n,0,none⟩) len len,m.push (.cells cs e none))
    else none
  |_=>none
def af(s:TypeId)(x:aes)(i:Nat):Option aes:=
 match E.ty.get s,x with
 |some H,.pointer (some a)=>
  match H.d with
  |.struct fs=>match fs[i]? with
   |some f=>bif Nat.beq f.size 0 then none else some (.pointer (some (a.add f.off)))
   |none=>none
  |_=>none
 |_,_=>none
def an(t:TypeId)(x ix:aes):Option aes:=
 match E.ty.get t with
 |none=>none
 |some H=>
  match H.d,x,ix with
  |.slice _,.slice (some a) n _,.int _ i=>if 0<=i/\i < n/\0 < H.es then some (.pointer (some (a.add (i.toNat*H.es))))else none
  |.array n _,.pointer (some a),.int _ i=>if 0<=i/\i < n/\0 < H.es then some (.pointer (some (a.add (i.toNat*H.es))))else none
  |_,_,_=>none
def index?(t:TypeId)(x ix:aes):Option aes:=
 match E.ty.get t with
 |none=>none
 |some H=>
  match H.d,x,ix with
  |.array n e,.agg cs,.int _ i=>if 0<=i/\i < n then part E e cs.toList (i.toNat*H.es)else none
  |.str,.string s,.int _ i=>if 0<=i then(s[i.toNat]?).map (λb=> .int .u8 b.toNat)else none
  |_,_,_=>none
def rD(x:aes)(y:Nat):Option Nat:=
 match x with
 |.int _ i=>if 0<=i/\i<=y then some i.toNat else none
 |_=>none
def fH(len cap:Nat)(lo hi H:Option aes):Option (Nat×Nat×Nat):=
 match(match H with |some v=>rD v cap |none=>some cap)with
 |none=>none
 |some m=>
  match(match hi,H with |some v,_=>rD v m |none,none=>some len |none,some _=>none)with
  |none=>none
  |some h=>
   match(match lo with |some v=>rD v h |none=>some 0)with
   |none=>none
   |some l=>some (l,h,m)
def CY(m:M)(a:Addr):Bool:=match m.get a.block with |.cells _ _ none=>false |_=>true
def slice?(m:M)(t:TypeId)(x:aes)(lo hi mx:Option aes):Option aes:=
 match E.ty.get t with
 |none=>none
 |some H=>
  match H.d,x with
  |.str,.string s=>
   match mx,fH s.size s.size lo hi none with
   |none,some (l,h,_)=>some (.string (s.extract l h))
   |_,_=>none
  |.slice _,.slice none 0 0=>
   match fH 0 0 lo hi mx with
   |some _=>bif Nat.beq H.es 0 then none else some (.slice none 0 0)
   |none=>none
  |.slice _,.slice (some a) n c=>
   match fH n c lo hi mx,m.get a.block with
   |some (l,h,k),.cells cs _ g=>
    bif Nat.beq H.es 0 || !(Nat.ble n c)then none
    else match g with
     |none=>some (.slice (some (bif Nat.beq k l then a else a.add (l*H.es))) (h-l) (k-l))
     |some k0=>
      bif Nat.beq k0 H.es then
       some (.slice (some (bif Nat.beq k l && !(mx.isNone && Nat.beq (a.off+c*H.es) cs.length)then a else a.add (l*H.es))) (h-l) (k-l))
      else none
   |some (l,h,k),.ro _=>
    bif Nat.beq H.es 0 || !(Nat.ble n c)then none else some (.slice (some (bif Nat.beq k l then a else a.add (l*H.es))) (h-l) (k-l))
   |_,_=>none
  |.array n _,.pointer (some a)=>
   match fH n n lo hi mx with
   |some (l,h,k)=>bif CY m a ||Nat.beq H.es 0 then none else some (.slice (some (bif Nat.beq k l then a else a.add (l*H.es))) (h-l) (k-l))
   |none=>none
  |_,_=>none
def vV(m:M)(t:TypeId)(x:aes):Option aes:=
 match E.ty.get t with
 |none=>none
 |some H=>
  match H.d,x with
  |.str,.string s=>some (.int .i64 s.size)
  |.array n _,_=>some (.int .i64 n)
  |.slice _,.slice _ n _=>some (.int .i64 n)
  |.map _ _,.map none=>some (.int .i64 0)
  |.map _ _,.map (some r)=>match m.get r with |.map es _=>some (.int .i64 es.length) |_=>none
  |_,_=>none
def DZ(f:Int->Int->Int)(k:IntKind)(x:Int):aet->Option aes
 |[]=>some (.int k x)
 |.int _ y::rest=>DZ f k (f x y) rest
 |_=>none
def fw(f:Int->Int->Int):aet->Option aes
 |.int k x::rest=>DZ f k x rest
 |_=>none
def first?(m:M)(s n:Nat)(x:aes):Option (aet):=
 match x with
 |.slice (some a) _ _=>bif Nat.beq n 0 then some []else loadCells m a (n*s)
 |.slice none _ _=>some []
 |.string b=>some ((b.extract 0 n).data.toList.map λb=> .int .u8 b.toNat)
 |_=>none
def lW:aes->Option Nat
 |.slice _ n _=>some n
 |.string s=>some s.size
 |_=>none
def lX(m:M)(e k:Nat)(base:Option Addr)(sl sc H:Nat)(news:aet):Option (aes×M):=
 match base with
 |none=>bif Nat.beq sl 0 && Nat.beq sc 0 then some (.slice (some ⟨m.n,0,none⟩) H H,m.push (.cells news e (some k)))else none
 |some a=>
  match m.get a.block,(bif Nat.beq sl 0 then some []else loadCells m a (sl*k))with
  |.cells c te g,some eZ=>
   bif g.isNone ||(g==some k && Nat.blt (a.off+sc*k) c.length)then
    some (.slice (some ⟨m.n,0,none⟩) H H,m.push (.cells (eZ++news) e (some k)))
   else bif g==some k && Nat.beq a.off 0 && a.spot.isNone && Nat.beq (sl*k) c.length && Nat.beq sc sl && Nat.beq te e then
    some (.slice (some ⟨m.n,0,none⟩) H H,(m.set a.block .dead).push (.cells (eZ++news) e (some k)))
   else none
  |_,_=>none
def gj(o:Option aes)(n:Nat):Bool:=match o with |some z=>Nat.beq (cells z).length n |none=>false
def dR(m:M)(t u:TypeId)(s x:aes):Option (aes×M):=
 match E.ty.get t,E.ty.get u,s,lW x with
 |some H,some ui,.slice base sl sc,some n=>
  match H.d,ui.d with
  |_,.int _=>none
  |.slice e,_=>
   match E.ty.get e,first? m H.es n x with
   |some ei,some news=>
    bif Nat.beq H.es 0 ||Nat.blt 65536 ei.bytes || !news.all one ||Nat.blt 268435456 (sl+n) || !Nat.beq news.length (n*H.es) || !gj ei.zero H.es then none
    else bif Nat.ble (sl+n) sc then
     match base with
     |some a=>(bif Nat.beq n 0 then some m else storeCells m (a.add (sl*H.es)) news).map λm=>(.slice (some a) (sl+n) sc,m)
     |none=>bif Nat.beq n 0 then some (.slice none sl sc,m)else none
    else lX m e H.es base sl sc (sl+n) news
   |_,_=>none
  |_,_=>none
 |_,_,_,_=>none
def scalar(t:TypeId):Bool:=match E.ty.get t with |some H=>(match H.d with |.bool |.int _ |.str=>true |_=>false) |none=>false
def keyed(kt:TypeId)(k:aes):Bool:=
 match E.ty.get kt with
 |some H=>match H.d,k with
  |.bool,.bool _ |.int _,.int _ _ |.str,.string _=>true
  |.struct fs,.agg cs=>H.cmp.isSome && cs.toList.all bI && fs.all (λf=> !f.blank && Nat.blt f.off cs.toList.length && scalar E f.ty)
  |_,_=>false
 |none=>false
def findKey(H:TypeId)(k:aes):List MapEntry->Nat->Option (Option (Nat×aes))
 |[],_=>some none
 |e::es,i=>
  match eq? E H k e.key with
  |some true=>some (some (i,e.val))
  |some false=>findKey H k es (i+1)
  |none=>none
def qf(m:M)(t:TypeId)(x k:aes)(ok:Bool):Option aes:=
 match E.ty.get t with
 |none=>none
 |some ti=>
  match ti.d with
  |.map H et=>
   match(match x with |.map none=>some [] |.map (some r)=>(match m.get r with |.map es _=>some es |_=>none) |_=>none)with
   |none=>none
   |some es=>
    bif keyed E H k then
     match findKey E H k es 0 with
     |some (some (_,v))=>some (bif ok then .tuple #[v,.bool true]else v)
     |some none=>(uX E et).map λz=>bif ok then .tuple #[z,.bool false]else z
     |none=>none
    else none
  |_=>none
def eQ(m:M)(t:TypeId)(x k v:aes):Option M:=
 match E.ty.get t,x with
 |some ti,.map (some r)=>
  match ti.d,m.get r with
  |.map H _,.map es clock=>
   bif keyed E H k then
    match findKey E H k es 0 with
    |some (some (i,_))=>some (m.set r (.map (es.modify i λe=>{e with key:=k,val:=v}) clock))
    |some none=>some (m.set r (.map (es++ [{key:=k,val:=v,born:=clock}]) (clock+1)))
    |none=>none
   else none
  |_,_=>none
 |_,_=>none
def PG(m:M)(s d:TypeId)(x:aes):Option aes:=OR E s d x
end
end
section
structure Fr where
 T:Tr aes
 m:M
 deriving Inhabited
def qu(T:Tr aes)(t:Nat):aes:=(T.get t).getD undef
def ev(T:Tr aes):Operand->aes
 |.tmp t=>qu T t
 |.const v=>v
 |.global g=> .pointer (some ⟨g,0,none⟩)
 |.func f=> .func (.func f) #[] #[]
abbrev aM:=Fn->aet->M->Option (aes×M)
noncomputable section
variable (E:Env)
def az(m:M)(b:Builtin)(ts:List TypeId)(args:aet):Option (aes×M):=
 match b,ts,args with
 |.append,[t,u],[s,x]=>dR E m t u s x
 |.len,[t],[x]=>(vV E m t x).map (·,m)
 |.min,_,xs=>(fw (λx y=>if y < x then y else x) xs).map (·,m)
 |.max,_,xs=>(fw (λx y=>if y >x then y else x) xs).map (·,m)
 |_,_,_=>none
end
abbrev lJ:=Env->aM->Tr aes->M->Option (aes×M)
def BB(x:Operand):lJ:=λ_ _ T m=>some (ev T x,m)
def qX(c a b:Operand):lJ:=λ_ _ T m=>match ev T c with |.bool t=>some (bif t then ev T a else ev T b,m) |_=>none
def wN(t:TypeId):lJ:=λE _ _ m=>match uX E t with |some z=>some (newVar m t z) |none=>none
def Sd(t:TypeId)(x:Operand):lJ:=λ_ _ T m=>some (newVar m t (ev T x))
def sK(t:TypeId)(ps:Array (Nat×Operand)):lJ:=λE _ T m=>match aK E t (ps.toList.map λp=>(p.1,ev T p.2))with |some v=>some (v,m) |none=>none
def nD(t:TypeId)(n:Nat)(ps:Array (Nat×Operand)):lJ:=λE _ T m=>aI E m t n (ps.toList.map λp=>(p.1,ev T p.2))
def BC(t:TypeId)(a:Operand):lJ:=λE _ T m=>match ev T a with
 |.pointer (some a)=>(match loadVar E m t a with |some v=>some (v,m) |none=>none)
 |_=>none
def wM(t:TypeId)(a x:Operand):lJ:=λE _ T m=>match ev T a with
 |.pointer (some a)=>(match storeVar E m t a (ev T x)with |some m=>some (undef,m) |none=>none)
 |_=>none
def hU(x:Operand):lJ:=λ_ _ T m=>match ev T x with |.pointer (some a)=>some (.pointer (some a),m) |.func (.func f) a b=>some (.func (.func f) a b,m) |_=>none
def Dq(op:BinOp)(t:TypeId)(x y:Operand):lJ:=λE _ T m=>match aC E op t (ev T x) (ev T y)with |some v=>some (v,m) |none=>none
def MZ(op:UnOp)(x:Operand):lJ:=λ_ _ T m=>match dh op (ev T x)with |some v=>some (v,m) |none=>none
def Fm(s d:TypeId)(x:Operand):lJ:=λE _ T m=>match PG E m s d (ev T x)with |some v=>some (v,m) |none=>none
def iR(f:Fn)(a b:Array Operand):lJ:=λ_ _ T m=>match f with
 |.func _=>some (.func f (a.toList.map (ev T)).toArray (b.toList.map (ev T)).toArray,m)
 |_=>none
def pZ(r:Option Operand):lJ:=λ_ _ _ m=>match r with |none=>some (.map (some m.n),m.push (.map [] 0)) |some _=>none
def BA(t:TypeId)(x:Operand)(lo hi H:Option Operand):lJ:=λE _ T m=>match slice? E m t (ev T x) (lo.map (ev T)) (hi.map (ev T)) (H.map (ev T))with |some v=>some (v,m) |none=>none
def ju(s:TypeId)(x:Operand)(f:Nat):lJ:=λE _ T m=>match af E s (ev T x) f with |some v=>some (v,m) |none=>none
def jt(t:TypeId)(x i:Operand):lJ:=λE _ T m=>match an E t (ev T x) (ev T i)with |some v=>some (v,m) |none=>none
def sJ(t:TypeId)(x i:Operand):lJ:=λE _ T m=>match index? E t (ev T x) (ev T i)with |some v=>some (v,m) |none=>none
def yr(t:TypeId)(x i:Operand)(ok:Bool):lJ:=λE _ T m=>match qf E m t (ev T x) (ev T i) ok with |some v=>some (v,m) |none=>none
def eY(t:TypeId)(x k y:Operand):lJ:=λE _ T m=>match eQ E m t (ev T x) (ev T k) (ev T y)with |some m=>some (undef,m) |none=>none
def kA(x:Operand)(i:Nat):lJ:=λ_ _ T m=>match ev T x with |.tuple H=>(match H.toList[i]? with |some v=>some (v,m) |none=>none) |_=>none
def ug(c:Call):lJ:=λE call T m=>
 match c.callee with
 |.builtin b=>az E m b c.argTypes.toList (c.args.toList.map (ev T))
 |.value f=>match ev T f with
  |.func g first captured=>call g (first.toList++(c.args.toList.map (ev T)++captured.toList)) m
  |_=>none
 |_=>none
def eA:Op->lJ
 |.move x=>BB x
 |.assign x=>BB x
 |.pick c a b=>qX c a b
 |.alloc t=>wN t
 |.box t x=>Sd t x
 |.build t ps=>sK t ps
 |.buildSlice t n ps=>nD t n ps
 |.load t a=>BC t a
 |.store t a x=>wM t a x
 |.nilCheck x=>hU x
 |.binOp op t x y _=>Dq op t x y
 |.unOp op _ x=>MZ op x
 |.convert s d x=>Fm s d x
 |.makeFunc f a b=>iR f a b
 |.makeMap _ r=>pZ r
 |.slice t x lo hi H=>BA t x lo hi H
 |.fieldAddr s x f=>ju s x f
 |.indexAddr t x i=>jt t x i
 |.index t x i=>sJ t x i
 |.lookup t x i ok=>yr t x i ok
 |.mapUpdate t x k y=>eY t x k y
 |.insert t x k y=>eY t x k y
 |.extract x i=>kA x i
 |.call c=>ug c
 |_=>λ_ _ _ _=>none
noncomputable section
variable (E:Env)
def mi:Op->Bool
 |.move _ |.assign _ |.pick .. |.build .. |.nilCheck _ |.binOp .. |.unOp .. |.makeFunc .. |.fieldAddr .. |.indexAddr .. |.index .. |.extract ..=>true
 |_=>false
def dv(ops:Array Oper)(T:Tr aes)(o:Oper):Bool:=
 match o.guard with
 |none=>true
 |some (j,want)=>match(ops.toList[j]?).bind (·.dst)with
  |some d=>match qu T d with
   |.bool b=>b==want
   |_=>false
  |none=>false
def put(T:Tr aes)(dst:Option Tmp)(v:aes):Tr aes:=
 match dst with
 |some d=>T.set d v
 |none=>T
def zF(call:aM)(ops:Array Oper)(l:List Oper):Fr->Option Fr:=
 List.rec (motive:=λ_=>Fr->Option Fr) (λfr=>some fr)
  (λo _ H fr=>
   bif dv ops fr.T o then
    match eA o.op E call fr.T fr.m with
    |some (v,m)=>H {T:=put fr.T o.dst v,m:=m}
    |none=>none
   else H {fr with T:=put fr.T o.dst undef}) l
theorem Dp(call:aM)(ops:Array Oper)(fr:Fr):zF E call ops [] fr=some fr:=rfl
theorem mR(call:aM)(ops:Array Oper)(o:Oper)(rest:List Oper)(fr:Fr):zF E call ops (o::rest) fr=
  bif dv ops fr.T o then
   match eA o.op E call fr.T fr.m with
   |some (v,m)=>zF E call ops rest {T:=put fr.T o.dst v,m:=m}
   |none=>none
  else zF E call ops rest {fr with T:=put fr.T o.dst undef}:=rfl
def gW(ops:Array Oper)(j:Nat):Bool:=
 let b:=Region.before ops
 ops.toList.zipIdx.all λ(o,i)=>i==j ||mi o.op ||(b.getD j 0).testBit i ||(b.getD i 0).testBit j
def oD(call:aM)(ops:Array Oper)(l:List Oper):Nat->Fr->Option Fr:=
 List.rec (motive:=λ_=>Nat->Fr->Option Fr) (λ_ fr=>some fr)
  (λo _ H j fr=>
   bif dv ops fr.T o then
    match eA o.op E call fr.T {fr.m with low:=fr.m.n}with
    |some (v,m)=>
     bif Nat.ble fr.m.n m.low ||gW ops j then
      H (j+1) {T:=put fr.T o.dst v,m:={m with low:=min fr.m.low m.low}}
     else none
    |none=>none
   else H (j+1) {fr with T:=put fr.T o.dst undef}) l
theorem AP(call:aM)(ops:Array Oper)(j:Nat)(fr:Fr):oD E call ops [] j fr=some fr:=rfl
theorem lE(call:aM)(ops:Array Oper)(o:Oper)(rest:List Oper)(j:Nat)(fr:Fr):oD E call ops (o::rest) j fr=
  bif dv ops fr.T o then
   match eA o.op E call fr.T {fr.m with low:=fr.m.n}with
   |some (v,m)=>
    bif Nat.ble fr.m.n m.low ||gW ops j then
     oD E call ops rest (j+1) {T:=put fr.T o.dst v,m:={m with low:=min fr.m.low m.low}}
    else none
   |none=>none
  else oD E call ops rest (j+1) {fr with T:=put fr.T o.dst undef}:=rfl
def ic(body:Fr->Option (Ex×Fr)):Nat->Fr->Option (Ex×Fr)
 |0,_=>none
 |n+1,fr=>
  match body fr with
  |some (.normal,fr)=>ic body n fr
  |r=>r
def bU(call:aM)(n:Nat):Code->Fr->Option (Ex×Fr)
 |.skip,fr |.label _,fr=>some (.normal,fr)
 |.region _ ops d,fr=>(bif d then oD E call ops ops.toList 0 fr else zF E call ops ops.toList fr).map (Ex.normal,·)
 |.seq a b,fr=>
  match bU call n a fr with
  |some (.normal,fr)=>bU call n b fr
  |r=>r
 |.cond c x y,fr=>match ev fr.T c with
  |.bool t=>bif t then bU call n x fr else bU call n y fr
  |_=>none
 |.block id c,fr=>
  match bU call n c fr with
  |some (.exit H,fr)=>bif Nat.beq H id then some (.normal,fr)else some (.exit H,fr)
  |r=>r
 |.loop c,fr=>ic (bU call n c) n fr
 |.scope c,fr=>bU call n c fr
 |.rangeFunc g ps assign body,fr=>
  match ev fr.T g with
  |.func (.func h) first captured=>
   match call (.func h) (first.toList++(.func (.yield fr.m.n) #[] #[]::captured.toList)) (fr.m.push (.loop ⟨fr.T,ps,assign,body,.ready,none,E.G⟩))with
   |some (_,m)=>
    match m.get fr.m.n with
    |.loop r=>match r.st with
     |.busy=>none
     |_=>some (r.sD.getD .normal,{fr with m:=m.set fr.m.n (.loop {r with st:=.exhausted})})
    |_=>none
   |none=>none
  |_=>none
 |.exit id,fr=>some (.exit id,fr)
 |.ret,fr=>some (.ret,fr)
 |_,_=>none
def ko(T:Tr aes)(m:M):ResultVar->Option aes
 |.tmp t=>some (qu T t)
 |.cell a t=>match qu T a with |.pointer (some a)=>loadVar E m t a |_=>none
def fO(T:Tr aes)(m:M):List ResultVar->Option (aet)
 |[]=>some []
 |r::rs=>match ko E T m r,fO T m rs with
  |some v,some H=>some (v::H)
  |_,_=>none
def result?(fn:Func)(T:Tr aes)(m:M):Option aes:=
 match fO E T m fn.results.toList with
 |some [v]=>some v
 |some H=>some (.tuple H.toArray)
 |none=>none
def enter:aet->Nat->Tr aes
 |[],_=> .e
 |v::H,i=>(enter H (i+1)).set i v
def tT(T:Tr aes):List (Tmp×aes)->Tr aes
 |[]=>T
 |(t,v)::l=>tT (T.set t v) l
def tV(exec:Code->Fr->Option (Ex×Fr))(G l:Nat)(args:aet)(m:M):Option (aes×M):=
 match m.get l with
 |.loop r=>
  bif Nat.beq args.length r.ps.size && Nat.beq r.G G then
   match exec r.assign {T:=tT r.T (r.ps.toList.zip args),m:={m with low:=m.n}}with
   |some (.normal,fr)=>
    match fr.m.get l with
    |.loop r1=>match r1.st with
     |.ready=>
      match exec r.body {fr with m:=fr.m.set l (.loop {r1 with st:=.busy})}with
      |some (e,fr)=>
       match fr.m.get l with
       |.loop H=>match e with
        |.normal=>some (.bool true,{fr.m.set l (.loop {H with st:=.ready,sD:=none})with low:=min m.low (fr.m.set l (.loop {H with st:=.ready,sD:=none})).low})
        |e=>some (.bool false,{fr.m.set l (.loop {H with st:=.done,sD:=some e})with low:=min m.low (fr.m.set l (.loop {H with st:=.done,sD:=some e})).low})
       |_=>none
      |none=>none
     |_=>none
    |_=>none
   |_=>none
  else none
 |_=>none
def cJ(X:aM):Nat->aM
 |0,_,_,_=>none
 |n+1,.func f,args,m=>
  match X (.func f) args m with
  |some r=>some r
  |none=>
  match E.fn.get f with
  |none=>none
  |some fn=>
   match fn.body with
   |none=>none
   |some body=>
    bif Nat.ble args.length fn.ntmps then
     match bU E (cJ X n) n body {T:=enter args 0,m:={m with low:=m.n}}with
     |some (.exit _,_) |none=>none
     |some (_,fr)=>
      match result? E fn fr.T fr.m with
      |none=>none
      |some v=>bif bF v && Nat.ble m.n fr.m.low then some (v,m)else some (v,{fr.m with low:=min m.low fr.m.low})
    else none
 |n+1,.yield l,args,m=>tV (bU E (cJ X n) n) E.G l args m
 |_+1,_,_,_=>none
end
end
theorem Tr.get_mem{α:Type}{x:α}:∀(t:Tr α) (i a b:Nat),t.get i=some x->(a*i+b,x)∈t.zz a b
 |.e,_,_,_,h=>by simp[Tr.yL]at h
 |.n v l r,0,a,b,h=>by
  subst h
  unfold Tr.zz
  simp
 |.n v l r,i+1,a,b,h=>by
  simp only[Tr.pt,Tr.jA]at h
  unfold Tr.zz
  cases h1:Nat.beq (i%2) 0 with
  |true=>
   rw[h1]at h
   have hm:i%2=0:=aba h1
   have:=Tr.get_mem l (i/2) (2*a) (a+b) h
   have e:2*a*(i/2)+(a+b)=a*(i+1)+b:=by
    have H:i=2*(i/2):=by omega
    grind
   grind
  |false=>
   rw[h1]at h
   have hm:i%2≠0:=abU h1
   have:=Tr.get_mem r (i/2) (2*a) (2*a+b) h
   have e:2*a*(i/2)+(2*a+b)=a*(i+1)+b:=by
    have H:i=2*(i/2)+1:=by omega
    grind
   grind
theorem Tr.vQ{α:Type}{f:Nat->Option α}(t:Tr α)(h:(t.zz 1 0).map (λp=>f p.1)=(t.zz 1 0).map (λp=>some p.2)){i:Nat}{x:α}(hi:t.get i=some x):f i=some x:=by
 have hm:=Tr.get_mem t i 1 0 hi
 have:=List.map_inj_left.1 h _ hm
 grind
theorem Tr.ri{α:Type}(x:α):∀(f i j:Nat),i<=f->(Tr.single x f i).get j=if j=i then some x else none
 |0,i,j,h=>by
  obtain rfl:i=0:=by omega
  unfold Tr.single
  cases j with
  |zero=>rfl
  |succ j=>simp only[Tr.jA];cases Nat.beq (j%2) 0 <;>simp[Tr.yL]
 |f+1,0,j,h=>by
  unfold Tr.single
  cases j with
  |zero=>rfl
  |succ j=>simp only[Tr.jA];cases Nat.beq (j%2) 0 <;>simp[Tr.yL]
 |f+1,i+1,j,h=>by
  unfold Tr.single
  cases h1:Nat.beq (i%2) 0 with
  |true=>
   have hm:i%2=0:=aba h1
   simp only[cond_true]
   cases j with
   |zero=>simp[Tr.pt]
   |succ j=>
    simp only[Tr.jA]
    cases H:Nat.beq (j%2) 0 with
    |true=>
     have hj:j%2=0:=aba H
     rw[Tr.ri x f (i/2) (j/2) (by omega)]
     grind
    |false=>
     simp only[abf,Tr.yL]
     grind
  |false=>
   have hm:i%2≠0:=abU h1
   simp only[abf]
   cases j with
   |zero=>simp[Tr.pt]
   |succ j=>
    simp only[Tr.jA]
    cases H:Nat.beq (j%2) 0 with
    |true=>
     simp only[cond_true,Tr.yL]
     grind
    |false=>
     have hj:j%2≠0:=abU H
     rw[Tr.ri x f (i/2) (j/2) (by omega)]
     grind
theorem Tr.cA{α:Type}(x:α):∀(t:Tr α) (i j:Nat),(t.set i x).get j=if j=i then some x else t.get j
 |.e,i,j=>by
  simp only[Tr.My,Tr.xR,Tr.xS]
  rw[Tr.ri x i i j (aaV _)]
  simp[Tr.yL]
 |.n v l r,0,j=>by
  simp only[Tr.My,Tr.xR,Tr.xS]
  cases j with
  |zero=>rfl
  |succ j=>simp[Tr.jA]
 |.n v l r,i+1,j=>by
  simp only[Tr.My,Tr.xR,Tr.xS]
  cases h1:Nat.beq (i%2) 0 with
  |true=>
   have hm:i%2=0:=aba h1
   simp only[cond_true]
   cases j with
   |zero=>simp[Tr.pt]
   |succ j=>
    simp only[Tr.jA]
    cases H:Nat.beq (j%2) 0 with
    |true=>
     have hj:j%2=0:=aba H
     rw[Tr.cA x l (i/2) (j/2)]
     grind
    |false=>
     grind
  |false=>
   have hm:i%2≠0:=abU h1
   simp only[abf]
   cases j with
   |zero=>simp[Tr.pt]
   |succ j=>
    simp only[Tr.jA]
    cases H:Nat.beq (j%2) 0 with
    |true=>
     grind
    |false=>
     have hj:j%2≠0:=abU H
     rw[Tr.cA x r (i/2) (j/2)]
     grind
section
structure BI where
 cX:Nat
 gr:Option (Nat×Nat×Nat)
abbrev Sg:=Nat->Option BI
inductive bK (σ:Sg):aes->aes->Prop where
 |flat (v:aes) (h:bI v=true):bK σ v v
 |ptr (a:Addr) (i:BI) (h:σ a.block=some i) (hs:a.spot=none):bK σ (.pointer (some a)) (.pointer (some ⟨i.cX,a.off,none⟩))
 |slice (a:Addr) (i:BI) (n c:Nat) (h:σ a.block=some i) (hs:a.spot=none) (hg:i.gr=none):bK σ (.slice (some a) n c) (.slice (some ⟨i.cX,a.off,none⟩) n c)
 |gX (a:Addr) (i:BI) (n c c' k sz N:Nat) (h:σ a.block=some i) (hs:a.spot=none) (hg:i.gr=some (k,sz,N)) (hc:c'=c\/(c<=c'/\a.off+c*k=sz/\a.off+c'*k=N)):bK σ (.slice (some a) n c) (.slice (some ⟨i.cX,a.off,none⟩) n c')
 |empty (a a':Addr) (i:BI) (c' k sz N:Nat) (h:σ a.block=some i) (hg:i.gr=some (k,sz,N)) (ho:a.off=sz):bK σ (.slice (some a) 0 0) (.slice (some a') 0 c')
 |map (r:Nat) (i:BI) (h:σ r=some i):bK σ (.map (some r)) (.map (some i.cX))
 |func (f:FuncId) (a b a' b':Array aes) (ha:a.size=a'.size) (hb:b.size=b'.size) (h1:∀(j:Nat) u u',a[j]?=some u->a'[j]?=some u'->bK σ u u') (h2:∀(j:Nat) u u',b[j]?=some u->b'[j]?=some u'->bK σ u u'):bK σ (.func (.func f) a b) (.func (.func f) a' b')
 |yield (l:Nat) (i:BI) (h:σ l=some i):bK σ (.func (.yield l) #[] #[]) (.func (.yield i.cX) #[] #[])
 |agg (a a':Array aes) (ha:a.size=a'.size) (h1:∀(j:Nat) u u',a[j]?=some u->a'[j]?=some u'->bK σ u u'):bK σ (.agg a) (.agg a')
 |tuple (a a':Array aes) (ha:a.size=a'.size) (h1:∀(j:Nat) u u',a[j]?=some u->a'[j]?=some u'->bK σ u u'):bK σ (.tuple a) (.tuple a')
def bQ(σ:Sg)(l H:aet):Prop:=l.length=H.length/\∀(j:Nat) u u',l[j]?=some u->H[j]?=some u'->bK σ u u'
def Sg.le(σ τ:Sg):Prop:=∀b i,σ b=some i->τ b=some i
theorem bK.mono{σ τ:Sg}(hle:σ.le τ){v v':aes}(h:bK σ v v'):bK τ v v':=by
 induction h with
 |flat v h=>exact .flat v h
 |ptr a i h hs=>exact .ptr a i (hle _ _ h) hs
 |slice a i n c h hs hg=>exact .slice a i n c (hle _ _ h) hs hg
 |gX a i n c c' k sz N h hs hg hc=>exact .gX a i n c c' k sz N (hle _ _ h) hs hg hc
 |empty a H i c' k sz N h hg ho=>exact .empty a H i c' k sz N (hle _ _ h) hg ho
 |map r i h=>exact .map r i (hle _ _ h)
 |func f a b H b' ha hb _ _ i1 i2=>exact .func f a b H b' ha hb (λj u u' h h'=>i1 j u u' h h') (λj u u' h h'=>i2 j u u' h h')
 |yield l i h=>exact .yield l i (hle _ _ h)
 |agg a H ha _ i1=>exact .agg a H ha (λj u u' h h'=>i1 j u u' h h')
 |tuple a H ha _ i1=>exact .tuple a H ha (λj u u' h h'=>i1 j u u' h h')
theorem bQ.mono{σ τ:Sg}(hle:σ.le τ){l H:aet}(h:bQ σ l H):bQ τ l H:=⟨h.1,λj u u' a b=>(h.2 j u u' a b).mono hle⟩
theorem bQ.nil{σ:Sg}:bQ σ [] []:=⟨rfl,by grind⟩
theorem bQ.cons{σ:Sg}{v v':aes}{l H:aet}(h:bK σ v v')(ht:bQ σ l H):bQ σ (v::l) (v'::H):=
 ⟨by simp[ht.1],λj u u' a b=>by
  cases j with
  |zero=>simp at a b;subst a;subst b;exact h
  |succ j=>exact ht.2 j u u' (by grind) (by grind)⟩
theorem bQ.head{σ:Sg}{v v':aes}{l H:aet}(h:bQ σ (v::l) (v'::H)):bK σ v v':=h.2 0 v v' rfl rfl
theorem bQ.tail{σ:Sg}{v v':aes}{l H:aet}(h:bQ σ (v::l) (v'::H)):bQ σ l H:=
 ⟨by simpa using h.1,λj u u' a b=>h.2 (j+1) u u' (by grind) (by grind)⟩
theorem bQ.cases{σ:Sg}{v:aes}{l x:aet}(h:bQ σ (v::l) x):∃v' H,x=v'::H/\bK σ v v'/\bQ σ l H:=by
 cases x with
 |nil=>exact absurd h.1 (by simp)
 |cons v' H=>exact⟨v',H,rfl,h.head,h.tail⟩
theorem bQ.nil_eq{σ:Sg}{x:aet}(h:bQ σ [] x):x=[]:=acr h.1.symm
theorem bQ.append{σ:Sg}{a H b b':aet}(h:bQ σ a H)(k:bQ σ b b'):bQ σ (a++b) (H++b'):=
 ⟨by simp[h.1,k.1],λj u u' x y=>by
  by_cases hj:j < a.length
  ·rw[acB hj]at x
   rw[acB (by rw[<-h.1];exact hj)]at y
   exact h.2 j u u' x y
  ·rw[acj (by omega)]at x
   rw[acj (by rw[<-h.1];omega)]at y
   rw[<-h.1]at y
   exact k.2 _ u u' x y⟩
theorem bQ.take{σ:Sg}{a H:aet}(h:bQ σ a H)(n:Nat):bQ σ (a.take n) (H.take n):=
 ⟨by simp[h.1],λj u u' x y=>by
  simp only[acX]at x y
  by_cases hj:j < n
  ·rw[aa5 hj]at x y;exact h.2 j u u' x y
  ·grind⟩
theorem bQ.drop{σ:Sg}{a H:aet}(h:bQ σ a H)(n:Nat):bQ σ (a.drop n) (H.drop n):=
 ⟨by simp[h.1],λj u u' x y=>by
  simp only[ab0]at x y
  exact h.2 _ u u' x y⟩
theorem bQ.get{σ:Sg}{a a':aet}(h:bQ σ a a'){j:Nat}{u:aes}(hj:a[j]?=some u):∃u',a'[j]?=some u'/\bK σ u u':=by
 have H:j < a'.length:=by rw[<-h.1];exact(aa0.1 hj).1
 exact⟨a'[j],aaW H,h.2 j u _ hj (aaW H)⟩
theorem bQ.of_flat{σ:Sg}{l:aet}(h:l.all bI):bQ σ l l:=
 ⟨rfl,λj u H a b=>by
  rw[a]at b;cases b
  exact .flat u (aby.1 h u (aa2 a))⟩
theorem bQ.agg{σ:Sg}{l H:aet}(h:bQ σ l H):bK σ (.agg l.toArray) (.agg H.toArray):=
 .agg _ _ (by simpa using h.1) (λj u u' a b=>h.2 j u u' (by grind) (by grind))
theorem bQ.tuple{σ:Sg}{l H:aet}(h:bQ σ l H):bK σ (.tuple l.toArray) (.tuple H.toArray):=
 .tuple _ _ (by simpa using h.1) (λj u u' a b=>h.2 j u u' (by grind) (by grind))
theorem bK.kU{σ:Sg}{v:aes}(h:dw v):bK σ v v:=by
 cases v with
 |agg cs=>
  have:=bQ.agg (σ:=σ) (bQ.of_flat (l:=cs.toList) h)
  simp_all
 |_=>exact .flat _ h
theorem bK.undef{σ:Sg}:bK σ undef undef:=.tuple _ _ rfl (by grind)
theorem bK.cells{σ:Sg}{v v':aes}(h:bK σ v v'):bQ σ (cells v) v'.cells.toList:=by
 cases h with
 |agg a H ha h1=>exact⟨by simpa[D.cells,Value.cells]using ha,λj u u' x y=>h1 j u u' (by simpa[D.cells]using x) (by simpa[Value.cells]using y)⟩
 |flat v hv=>
  cases v with
  |agg cs=>simp[bI]at hv
  |_=>exact bQ.cons (.flat _ hv) bQ.nil
 |ptr a i h hs=>exact bQ.cons (.ptr a i h hs) bQ.nil
 |slice a i n c h hs hg=>exact bQ.cons (.slice a i n c h hs hg) bQ.nil
 |gX a i n c c' k sz N h hs hg hc=>exact bQ.cons (.gX a i n c c' k sz N h hs hg hc) bQ.nil
 |empty a H i c' k sz N h hg ho=>exact bQ.cons (.empty a H i c' k sz N h hg ho) bQ.nil
 |map r i h=>exact bQ.cons (.map r i h) bQ.nil
 |func f a b H b' ha hb h1 h2=>exact bQ.cons (.func f a b H b' ha hb h1 h2) bQ.nil
 |yield l i h=>exact bQ.cons (.yield l i h) bQ.nil
 |tuple a H ha h1=>exact bQ.cons (.tuple a H ha h1) bQ.nil
theorem bK.one{σ:Sg}{v v':aes}(h:bK σ v v')(h1:one v):v'.oneCell':=by
 cases h with
 |flat v H=>cases v <;>first |rfl |simp[D.one]at h1
 |agg=>simp[D.one]at h1
 |tuple=>simp[D.one]at h1
 |_=>rfl
theorem bQ.ee{σ:Sg}{l l':aet}(h:bQ σ l l')(h1:l.all one):∀u∈l',u.oneCell':=by
 intro u hu;have⟨j,hj⟩:=acM.1 hu;have H:j < l.length:=by rw[h.1];exact(aa0.1 hj).1
 exact(h.2 j _ u (aaW H) hj).one (aby.1 h1 _ (List.getElem_mem H))
theorem bK.bT{σ:Sg}{v v':aes}(h:bK σ v v')(H:bI v):v'=v:=by
 cases h with
 |flat=>rfl
 |func f a b a' b' ha hb h1 h2=>
  simp[bI]at H
  grind
 |ptr=>simp[bI]at H
 |slice=>simp[bI]at H
 |gX=>simp[bI]at H
 |empty=>simp[bI]at H
 |map=>simp[bI]at H
 |yield=>simp[bI]at H
 |agg=>simp[bI]at H
 |tuple=>simp[bI]at H
def We(i:BI)(len size:Nat):Option Nat->Prop
 |none=>i.gr=none/\size=len
 |some k=>i.gr=some (k,len,size)/\0 < k/\0 < len
def uI:Ex->Code
 |.normal=> .skip
 |.exit id=> .exit id
 |.ret=> .ret
def Holds(σ:Sg)(i:BI)(w:World):Ob->Prop
 |.dead=>True
 |.cells c e g=>∃c':Array aes,w.heap[i.cX]?=some (.cells c' e (0,0))/\c.length<=c'.size/\bQ σ c (c'.toList.take c.length)/\We i c.length c'.size g
 |.map es clock=>i.gr=none/\∃a0:Array MapEntry,w.heap[i.cX]?=some (.map a0 clock)/\es.length=a0.size/\
   ∀(j:Nat) e e',es[j]?=some e->a0[j]?=some e'->e'.key=e.key/\e'.born=e.born/\dw e.key=true/\bK σ e.val e'.val
 |.ro c=>i.gr=none/\∃(c':Array aes) (e':TypeId) (fz:Nat×Nat),w.heap[i.cX]?=some (.cells c' e' fz)/\c.length<=c'.size/\∀(j:Nat) u u',c[j]?=some u->c'[j]?=some u'->one u=true->bK σ u u'
 |.loop r=>i.gr=none/\∃(H:Loop) (nt:Nat),w.heap[i.cX]?=some (.loop H)/\H.state=r.st/\H.pending=r.sD.map uI/\H.params=r.ps/\H.assign=r.assign/\H.body=r.body/\
   H.tmps.size=nt/\(∀t,t < nt->bK σ ((r.T.get t).getD undef) (H.tmps.getD t undef))/\fE nt r.G r.assign=true/\fE nt r.G r.body=true/\(∀p∈r.ps.toList,p < nt)/\r.sD≠some .normal
structure fK(P:Program)(σ:Sg)(m:M)(w:World):Prop where
 rI:∀b i,σ b=some i->b < m.n
 obj:∀b i,σ b=some i->Holds σ i w (m.get b)
 lt:∀b i,σ b=some i->i.cX < w.heap.size
 inj:∀b b' i i',σ b=some i->σ b'=some i'->m.get b≠.dead->m.get b'≠.dead->i.cX=i'.cX->b=b'
 kY:∀g,g < P.globals.size->σ g=some ⟨g,none⟩
structure Ev(P:Program)(σ:Sg)(m:M)(w:World)(σ':Sg)(m':M)(w':World):Prop where
 ext:σ.le σ'
 tS:fK P σ' m' w'
 low:m'.low<=m.low
 KI:m.n<=m'.n
 hle:w.heap.size<=w'.heap.size
 new:∀b i,σ' b=some i->σ b=none->m.n<=b/\(w.heap.size<=i.cX\/∃b0 i0,σ b0=some i0/\i0.cX=i.cX/\m'.low<=b0)
 abs:∀b,b < m'.low->b < m.n->m'.get b=m.get b
 heap:∀B,B < w.heap.size->(∀b i,σ b=some i->i.cX=B->b < m'.low)->w'.heap[B]?=w.heap[B]?
 os:w'.os=w.os
 tape:w'.tape=w.tape
 output:w'.output=w.output
section
variable {P:Program} {σ σ' τ:Sg} {m m' m2:M} {w w' w2:World}
theorem Ev.refl(h:fK P σ m w):Ev P σ m w σ m w:=⟨λ_ _ h=>h,h,aaV _,aaV _,aaV _,λb i h H=>(by grind),λ_ _ _=>rfl,λ_ _ _=>rfl,rfl,rfl,rfl⟩
theorem Ev.trans(h:Ev P σ m w σ' m' w')(k:Ev P σ' m' w' τ m2 w2):Ev P σ m w τ m2 w2:=by
 refine⟨λb i e=>k.ext b i (h.ext b i e),k.tS,acn k.low h.low,acn h.KI k.KI,acn h.hle k.hle,?_,?_,?_,k.os.trans h.os,k.tape.trans h.tape,k.output.trans h.output⟩
 ·intro b i H hn
  have hl:=k.low
  cases hm:σ' b with
  |some i1=>
   have e:=k.ext b i1 hm
   rw[H]at e;cases e
   have⟨h1,h2⟩:=h.new b i hm hn
   grind
  |none=>
   have⟨h1,h2⟩:=k.new b i H hm;have:=h.KI;refine⟨by omega,?_⟩;rcases h2 with h2 |⟨b0,i0,x,y,z⟩;·have:=h.hle;exact .inl (by omega)
   ·cases h0:σ b0 with
    |some i1=>
     have e:=h.ext b0 i1 h0
     grind
    |none=>
     have⟨_,h3⟩:=h.new b0 i0 x h0
     grind
 ·intro b H hn;have hl:=k.low;have:=h.KI;rw[k.abs b H (by omega),h.abs b (by omega) hn]
 ·intro B hB hp
  have hl:=k.low
  have:=h.hle
  rw[k.heap B (by omega) ?_,h.heap B hB (by grind)]
  intro b i x y
  cases hs:σ b with
  |some i1=>
   have e:=h.ext b i1 hs
   grind
  |none=>
   have⟨_,h3⟩:=h.new b i x hs
   grind
end
end
section
theorem nP{a b:Nat}:Nat.blt a b=decide (a < b):=by
 cases h:Nat.blt a b with
 |true=>
  simp_all
 |false=>
  have H:Nat.ble (a+1) b=false:=h
  have:¬(a+1<=b):=λhle=>by rw[abO hle]at H;cases H
  grind
theorem M.kg(m:M)(b:Nat):m.get b=if b < m.n then(m.st.get b).getD .dead else .dead:=by
 unfold M.get
 simp_all
theorem M.kZ(m:M)(o:Ob)(b:Nat):(m.push o).get b=if b=m.n then o else m.get b:=by
 rw[M.kg,M.kg]
 simp only[M.push,Tr.cA]
 grind
theorem M.cA(m:M)(b:Nat)(o:Ob)(c:Nat)(H:b < m.n):(m.set b o).get c=if c=b then o else m.get c:=by
 rw[M.kg,M.kg]
 simp only[M.set,Tr.cA]
 grind
theorem M.lg{m:M}{b:Nat}(h:m.get b≠.dead):b < m.n:=by
 rw[M.kg]at h
 grind
section
variable {P:Program} {σ σ' τ:Sg} {m m' m2:M} {w w' w2:World}
theorem Holds.bs{i:BI}{ob:Ob}(h:Holds σ i w ob)(hle:σ.le τ)(hw:w'.heap[i.cX]?=w.heap[i.cX]?):Holds τ i w' ob:=by
 cases ob with
 |dead=>trivial
 |cells c e g=>have⟨c',h1,H,h3,h4⟩:=h;exact⟨c',hw.trans h1,H,h3.mono hle,h4⟩
 |map es clock=>have⟨hg,a0,h1,H,h3⟩:=h;refine⟨hg,a0,hw.trans h1,H,λj e e' x y=>?_⟩;have⟨a,b,c,d⟩:=h3 j e e' x y;exact⟨a,b,c,d.mono hle⟩
 |loop r=>have⟨hg,r',nt,h1,H,h3,h4,h5,h6,h7,h8,h9⟩:=h;exact⟨hg,r',nt,hw.trans h1,H,h3,h4,h5,h6,h7,λt ht=>(h8 t ht).mono hle,h9⟩
 |ro c=>have⟨hg,c',e',fz,h1,H,h3⟩:=h;exact⟨hg,c',e',fz,hw.trans h1,H,λj u u' x y z=>(h3 j u u' x y z).mono hle⟩
def Sg.add(σ:Sg)(b:Nat)(i:BI):Sg:=λc=>if c=b then some i else σ c
theorem Sg.add_same(b:Nat)(i:BI):(σ.add b i) b=some i:=by simp[Sg.add]
theorem Sg.uA{b:Nat}{i:BI}(h:σ b=none):σ.le (σ.add b i):=by
 intro c j H
 unfold Sg.add
 grind
theorem fK.kB(h:fK P σ m w):σ m.n=none:=by
 cases H:σ m.n with
 |none=>rfl
 |some i=>have:=h.rI _ _ H;omega
theorem Ev.uk{ob:Ob}{o:Obj}{gr:Option (Nat×Nat×Nat)}(h:fK P σ m w)
  (hh:Holds (σ.add m.n ⟨w.heap.size,gr⟩) ⟨w.heap.size,gr⟩ (w.alloc o) ob):Ev P σ m w (σ.add m.n ⟨w.heap.size,gr⟩) (m.push ob) (w.alloc o):=by
 have hn:=h.kB;have hle:=Sg.uA (i:=⟨w.heap.size,gr⟩) hn;have hold:∀B,B < w.heap.size->(w.alloc o).heap[B]?=w.heap[B]?:=λB hB=>heap_alloc_old w o hB;have g0:(m.push ob).n=m.n+1:=rfl;have h0:(w.alloc o).heap.size=w.heap.size+1:=by simp
 have H:∀b i,(σ.add m.n ⟨w.heap.size,gr⟩) b=some i->(b=m.n/\i=⟨w.heap.size,gr⟩)\/(b≠m.n/\σ b=some i):=by
  intro b i hb
  unfold Sg.add at hb
  grind
 refine⟨hle,⟨?_,?_,?_,?_,?_⟩,aaV _,by omega,by omega,?_,?_,λB hB _=>hold B hB,rfl,rfl,rfl⟩
 ·intro b i hb;rcases H b i hb with⟨rfl,_⟩ |⟨_,hb⟩;·omega
  have:=h.rI b i hb;omega
 ·intro b i hb;rw[M.kZ];rcases H b i hb with⟨rfl,rfl⟩ |⟨b0,hb⟩
  ·grind
  rw[aa4 b0];exact(h.obj b i hb).bs hle (hold _ (h.lt b i hb))
 ·intro b i hb;rcases H b i hb with⟨_,rfl⟩ |⟨_,hb⟩
  ·grind
  have:=h.lt b i hb;omega
 ·intro b b' i i' hb a0 hd d0 he;rw[M.kZ]at hd d0;rcases H b i hb with⟨rfl,rfl⟩ |⟨b0,hb⟩ <;>rcases H b' i' a0 with⟨rfl,rfl⟩ |⟨e0,a0⟩
  ·rfl
  ·have:=h.lt b' i' a0;dsimp only at he;omega
  ·have:=h.lt b i hb;dsimp only at he;omega
  rw[aa4 b0]at hd;rw[aa4 e0]at d0;exact h.inj b b' i i' hb a0 hd d0 he
 ·intro g hg;exact hle g _ (h.kY g hg)
 ·grind
 intro b _ hb;rw[M.kZ,aa4 (by omega)]
theorem Ev.write{b:Nat}{i:BI}{ob:Ob}(h:fK P σ m w)(hb:σ b=some i)(hd:m.get b≠.dead)(hh:Holds σ i w' ob)
  (hw:∀B,B≠i.cX->w'.heap[B]?=w.heap[B]?) (hs:w'.heap.size=w.heap.size) (ho:w'.os=w.os) (ht:w'.tape=w.tape) (hu:w'.output=w.output):
  Ev P σ m w σ (m.set b ob) w':=by
 have a0:=M.lg hd;have h0:(m.set b ob).low=min m.low b:=rfl;refine⟨λ_ _ x=>x,⟨h.rI,?_,λc j H=>(by rw[hs];exact h.lt c j H),?_,h.kY⟩,by omega,aaV _,by omega,λc j H hn=>(by grind),?_,?_,ho,ht,hu⟩
 ·intro c j H;rw[M.cA _ _ _ _ a0];by_cases b0:c=b
  ·grind
  rw[aa4 b0];by_cases d0:m.get c=.dead;·rw[d0];trivial
  exact(h.obj c j H).bs (λ_ _ x=>x) (hw _ (λe=>b0 (h.inj c b j i H hb d0 hd e)))
 ·intro c c' j j' H g0 hl e0 he;rw[M.cA _ _ _ _ a0]at hl e0
  have live:∀x,(if x=b then ob else m.get x)≠.dead->m.get x≠.dead:=by
   grind
  exact h.inj c c' j j' H g0 (live _ hl) (live _ e0) he
 ·intro c H i0;rw[M.cA _ _ _ _ a0,aa4 (by omega)]
 ·grind
theorem Ev.MJ{b:Nat}{i:BI}{ob:Ob}{gr:Option (Nat×Nat×Nat)}(h:fK P σ m w)(hb:σ b=some i)(hd:m.get b≠.dead)
  (hh:Holds (σ.add m.n ⟨i.cX,gr⟩) ⟨i.cX,gr⟩ w' ob)
  (hw:∀B,B≠i.cX->w'.heap[B]?=w.heap[B]?) (hs:w'.heap.size=w.heap.size) (ho:w'.os=w.os) (ht:w'.tape=w.tape) (hu:w'.output=w.output):
  Ev P σ m w (σ.add m.n ⟨i.cX,gr⟩) ((m.set b .dead).push ob) w':=by
 have k0:=M.lg hd;have hn:=h.kB;have hle:=Sg.uA (i:=⟨i.cX,gr⟩) hn;have l0:(m.set b .dead).n=m.n:=rfl;have n0:((m.set b .dead).push ob).n=m.n+1:=rfl;have m0:((m.set b .dead).push ob).low=min m.low b:=rfl
 have g0:∀c,((m.set b .dead).push ob).get c=if c=m.n then ob else if c=b then .dead else m.get c:=by intro c;rw[M.kZ,l0,M.cA _ _ _ _ k0]
 have H:∀c j,(σ.add m.n ⟨i.cX,gr⟩) c=some j->(c=m.n/\j=⟨i.cX,gr⟩)\/(c≠m.n/\σ c=some j):=by
  intro c j hc
  unfold Sg.add at hc
  grind
 refine⟨hle,⟨?_,?_,?_,?_,?_⟩,by omega,by omega,by omega,?_,?_,?_,ho,ht,hu⟩
 ·intro c j hc;rcases H c j hc with⟨rfl,_⟩ |⟨_,hc⟩;·omega
  have:=h.rI c j hc;omega
 ·intro c j hc;rw[g0];rcases H c j hc with⟨rfl,rfl⟩ |⟨d0,hc⟩
  ·grind
  rw[aa4 d0];by_cases a0:c=b;·rw[aa5 a0];trivial
  rw[aa4 a0];by_cases i0:m.get c=.dead;·rw[i0];trivial
  exact(h.obj c j hc).bs hle (hw _ (λe=>a0 (h.inj c b j i hc hb i0 hd e)))
 ·intro c j hc;rcases H c j hc with⟨_,rfl⟩ |⟨_,hc⟩;·have:=h.lt b i hb;rw[hs];exact this
  rw[hs];exact h.lt c j hc
 ·intro c c' j j' hc e0 hl b0 he;rw[g0]at hl b0;rcases H c j hc with⟨rfl,rfl⟩ |⟨d0,hc⟩ <;>rcases H c' j' e0 with⟨rfl,rfl⟩ |⟨h0,e0⟩
  ·rfl
  ·rw[aa4 h0]at b0;by_cases a0:c'=b
   ·grind
   rw[aa4 a0]at b0;exact absurd (h.inj b c' i j' hb e0 hd b0 he).symm a0
  ·rw[aa4 d0]at hl;by_cases a0:c=b
   ·grind
   rw[aa4 a0]at hl;exact absurd (h.inj c b j i hc hb hl hd he) a0
  rw[aa4 d0]at hl;rw[aa4 h0]at b0;by_cases a0:c=b
  ·grind
  by_cases j0:c'=b
  ·grind
  rw[aa4 a0]at hl;rw[aa4 j0]at b0;exact h.inj c c' j j' hc e0 hl b0 he
 ·intro g hg;exact hle g _ (h.kY g hg)
 ·grind
 ·grind
 ·grind
theorem fK.of_heap(h:fK P σ m w)(he:w'.heap=w.heap):fK P σ m w':=⟨h.rI,λb i H=>(h.obj b i H).bs (λ_ _ x=>x) (by rw[he]),λb i H=>(by rw[he];exact h.lt b i H),h.inj,h.kY⟩
theorem Ev.of_heap(h:fK P σ m w)(he:w'.heap=w.heap)(H:w'.os=w.os)(ht:w'.tape=w.tape)(hu:w'.output=w.output):Ev P σ m w σ m w':=⟨λ_ _ x=>x,h.of_heap he,aaV _,aaV _,(by grind),λb i x y=>(by grind),λ_ _ _=>rfl,λ_ _ _=>(by rw[he]),H,ht,hu⟩
end
end
section
section
variable {E:Env} {P:Program}
structure TIF(P:Program)(t:TypeId)(ti:TI)(i:TypeInfo)(u:TypeDesc):Prop where
 info:P.info? t=some i
 gU:P.underlying t=some u
 d:ti.d=hZ P u
 size:ti.size=i.size
 bytes:ti.bytes=i.bytes
 zero:ti.zero=i.zero
 es:ti.es=yT P u
 cmp:ti.cmp=HU P t u
theorem Env.OK.rM(hE:E.OK P){t:TypeId}{ti:TI}(h:E.ty.get t=some ti):∃i u,TIF P t ti i u:=by
 have h:=hE.ty t ti h
 unfold Tq at h
 cases hi:P.info? t with
 |none=>rw[hi]at h;simp at h
 |some i=>
  cases hu:P.underlying t with
  |none=>rw[hi,hu]at h;simp at h
  |some u=>rw[hi,hu]at h;simp only[Option.bind_eq_bind,acS,aa7]at h;subst h;exact⟨i,u,hi,hu,rfl,rfl,rfl,rfl,rfl,rfl⟩
theorem bK.kT{σ:Sg}{v:aes}(h:bF v):bK σ v v:=by
 cases v with
 |tuple H=>refine .tuple _ _ rfl λj u u' a b=>?_;rw[a]at b;cases b;exact .kU (aby.1 h u (by grind))
 |_=>exact .kU h
theorem Env.OK.flat(hE:E.OK P){t:TypeId}{ti:TI}{z:aes}(h:E.ty.get t=some ti)(hz:ti.zero=some z):bF z:=by
 have H:=hE.KK
 unfold Env.KK at H
 simp only[aa3]at H
 have:=aby.1 H.1 _ (Tr.get_mem E.ty t 1 0 h)
 grind
theorem Env.OK.fld(hE:E.OK P){t:TypeId}{ti:TI}{fs:List Fd}{f:Fd}(h:E.ty.get t=some ti)(hd:ti.d=.struct fs)(hf:f∈fs):∃H,E.ty.get f.ty=some H/\H.size=f.size:=by
 have hc:=hE.KK
 unfold Env.KK at hc
 simp only[aa3]at hc
 have:=aby.1 hc.1 _ (Tr.get_mem E.ty t 1 0 h)
 simp only[aa3,hd]at this
 have h2:=aby.1 this.2 f hf
 cases hg:E.ty.get f.ty with
 |none=>rw[hg]at h2;simp at h2
 |some H=>rw[hg]at h2;exact⟨H,rfl,by simpa using h2⟩
theorem Env.OK.code(hE:E.OK P){f:FuncId}{fn:Func}(h:E.fn.get f=some fn):yu P.globals.size fn:=by
 have H:=hE.KK
 unfold Env.KK at H
 simp only[aa3]at H
 have:=aby.1 H.2 _ (Tr.get_mem E.fn f 1 0 h)
 rw[hE.G]at this
 grind
theorem qd{u:TypeDesc}(h:hZ P u=.bool):u=.bool:=by cases u <;>simp[hZ]at h⊢
theorem ph{u:TypeDesc}{k:IntKind}(h:hZ P u=.int k):u=.int k:=by cases u <;>simp[hZ]at h⊢;exact h
theorem jx{u:TypeDesc}(h:hZ P u=.str):u=.string:=by cases u <;>simp[hZ]at h⊢
theorem fS{u:TypeDesc}{e:Nat}(h:hZ P u=.slice e):u=.slice e:=by cases u <;>simp[hZ]at h⊢;exact h
theorem iT{u:TypeDesc}{n e:Nat}(h:hZ P u=.array n e):u=.array n e:=by cases u <;>simp[hZ]at h⊢;exact h
theorem mT{u:TypeDesc}{k e:Nat}(h:hZ P u=.map k e):u=.map k e:=by cases u <;>simp[hZ]at h⊢;exact h
theorem um{u:TypeDesc}(h:hZ P u=.func):∃a b c,u=.func a b c:=by cases u <;>simp[hZ]at h⊢
def uq(P:Program)(f:Field):Fd:=⟨f.type,f.offset,((P.info? f.type).map (·.size)).getD 0,f.name== "_" ||(P.info? f.type).isNone⟩
theorem DA{u:TypeDesc}{e:Nat}(h:hZ P u=.ptr e):u=.pointer e:=by cases u <;>simp[hZ]at h⊢;exact h
theorem yy{u:TypeDesc}{b:Bool}(h:hZ P u=.iface b):∃ms:Array (String×TypeId),u=.interface ms/\ms.isEmpty=b:=by cases u <;>simp[hZ]at h⊢;exact h
theorem jw{u:TypeDesc}{H:List Fd}(h:hZ P u=.struct H):∃gs:Array Field,u=.struct gs/\H=gs.toList.map (uq P):=by
 cases u <;>simp[hZ]at h
 exact⟨_,rfl,h.symm⟩
theorem sL(u:TypeDesc)(w:World)(t:TypeId)(h:P.underlying t=some u):(isAgg t).run P w=.ok (hZ P u).agg w:=by unfold isAgg;rw[abh,aa9 h,abd];cases u <;>rfl
theorem run_typeInfo{t:TypeId}{i:TypeInfo}(h:P.info? t=some i)(w:World):(typeInfo t).run P w=.ok i w:=by simp[typeInfo,program,Sem.run,h]
theorem run_sizeOf{t:TypeId}{i:TypeInfo}(h:P.info? t=some i)(w:World):(sizeOf t).run P w=.ok i.size w:=by unfold sizeOf;rw[abh,run_typeInfo h];rfl
theorem gR{t:TypeId}{i:TypeInfo}{z:aes}(h:P.info? t=some i)(H:i.zero=some z)(w:World):(zeroValue t).run P w=.ok z w:=by unfold zeroValue;rw[abh,run_typeInfo h,abd];simp[H]
variable {σ:Sg} {m m':M} {w:World}
theorem fK.cells(h:fK P σ m w){b:Nat}{i:BI}(H:σ b=some i){c:aet}{e:TypeId}{g:Option Nat}(hg:m.get b=.cells c e g):
  ∃c':Array aes,w.heap[i.cX]?=some (.cells c' e (0,0))/\c.length<=c'.size/\bQ σ c (c'.toList.take c.length)/\We i c.length c'.size g:=by have:=h.obj b i H;rw[hg]at this;exact this
theorem fK.ro(h:fK P σ m w){b:Nat}{i:BI}(hb:σ b=some i){c:aet}(hg:m.get b=.ro c):
  ∃(c':Array aes) (e':TypeId) (fz:Nat×Nat),w.heap[i.cX]?=some (.cells c' e' fz)/\c.length<=c'.size/\∀(j:Nat) u H,c[j]?=some u->c'[j]?=some H->one u->bK σ u H:=by have:=h.obj b i hb;rw[hg]at this;exact this.2
theorem dS(b o n:Nat):(⟨b,o,none⟩:Addr).add n=⟨b,o+n,none⟩:=by unfold Addr.add;split <;>simp_all
theorem jK(hs:fK P σ m w){a:Addr}{i:BI}(ha:σ a.block=some i){n:Nat}{cs:aet}(h:loadCells m a n=some cs):
  ∃a0:aet,(Go.loadCells ⟨i.cX,a.off,none⟩ n).run P w=.ok a0.toArray w/\bQ σ cs a0/\cs.length=n/\a.spot=none:=by
 unfold loadCells at h;split at h
 ·rename_i c e g hg
  cases H:(a.spot.isNone && Nat.ble (a.off+n) c.length)with
  |false=>rw[H]at h;simp at h
  |true=>
   rw[H]at h
   simp only[cond_true,aa7]at h
   subst h
   simp only[aa3]at H
   have hle:=abz H.2
   have⟨c',h1,h2,h3,_⟩:=hs.cells ha hg
   have hlen:((c.drop a.off).take n).length=n:=by grind
   refine⟨((c'.toList.take c.length).drop a.off).take n,?_,(h3.drop _).take _,hlen,by simp_all⟩
   have:=run_loadCells_list (P:=P) w ⟨i.cX,a.off,none⟩ (((c'.toList.take c.length).drop a.off).take n) (λj v hj=>by
    rw[dS]
    have b0:j < n:=by
     grind
    simp only[World.cell?,h1]
    grind)
   grind
 ·rename_i c hg
  cases H:(a.spot.isNone && Nat.ble (a.off+n) c.length && ((c.drop a.off).take n).all one)with
  |false=>rw[H]at h;simp at h
  |true=>
   rw[H]at h
   simp only[cond_true,aa7]at h
   subst h
   simp only[aa3]at H
   have hle:=abz H.1.2
   have⟨c',e',fz,h1,h2,h3⟩:=hs.ro ha hg
   have hlen:((c.drop a.off).take n).length=n:=by grind
   have hr:bQ σ ((c.drop a.off).take n) ((c'.toList.drop a.off).take n):=⟨by grind,λj u u' x y=>by
    grind⟩
   refine⟨(c'.toList.drop a.off).take n,?_,hr,hlen,by simp_all⟩
   have:=run_loadCells_list (P:=P) w ⟨i.cX,a.off,none⟩ ((c'.toList.drop a.off).take n) (λj v hj=>by
    rw[dS]
    have b0:j < n:=by
     grind
    simp only[World.cell?,h1]
    grind)
   grind
 cases h
theorem Cn(hs:fK P σ m w){a:Addr}{i:BI}(ha:σ a.block=some i){v:aes}(h:cellAt m a=some v):
  ∃v',w.cell? ⟨i.cX,a.off,none⟩=some v'/\bK σ v v'/\a.spot=none:=by
 unfold cellAt at h;split at h
 ·rename_i c e g hg;by_cases b0:a.spot.isNone=true
  ·rw[aa5 b0]at h;have⟨c',h1,h2,h3,_⟩:=hs.cells ha hg;have⟨u',hu,hr⟩:=h3.get h;have d0:=(aa0.1 h).1;rw[acb d0]at hu;exact⟨u',by simp only[World.cell?,h1];simpa using hu,hr,by simp_all⟩
  ·grind
 ·rename_i c hg;by_cases b0:a.spot.isNone=true
  ·rw[aa5 b0]at h
   have⟨c',e',fz,h1,h2,h3⟩:=hs.ro ha hg
   cases hx:c[a.off]? with
   |none=>rw[hx]at h;cases h
   |some u=>
    rw[hx]at h
    dsimp only at h
    cases H:one u with
    |false=>rw[H]at h;cases h
    |true=>
     rw[H]at h;simp only[cond_true,aa7]at h;subst h;have d0:=(aa0.1 hx).1;have a0:a.off < c'.size:=by omega
     exact⟨c'[a.off],by simp only[World.cell?,h1];simp[a0],h3 _ _ _ hx (adr a0) H,by simp_all⟩
  ·grind
 cases h
theorem qG(hE:E.OK P)(hs:fK P σ m w){t:TypeId}{a:Addr}{i:BI}(ha:σ a.block=some i){v:aes}(h:loadVar E m t a=some v):
  ∃v',(Go.loadVar t ⟨i.cX,a.off,none⟩).run P w=.ok v' w/\bK σ v v'/\a.spot=none:=by
 unfold loadVar at h;split at h
 ·rename_i ti a0
  have⟨inf,u,f⟩:=hE.rM a0
  unfold Go.loadVar
  rw[abh,sL u w t f.gU,abd,<-f.d]
  cases H:ti.d.agg with
  |true=>rw[H]at h;simp only[cond_true,abl]at h;obtain⟨cs,b0,rfl⟩:=h;have⟨d0,h1,h2,_,h4⟩:=jK hs ha b0;refine⟨.agg d0.toArray,?_,h2.agg,h4⟩;simp only[acZ,abh,run_sizeOf f.info,abd];rw[<-f.size,h1];rfl
  |false=>
   rw[H]at h
   simp only[abf]at h
   have⟨v',h1,h2,h3⟩:=Cn hs ha h
   simp_all
 cases h
theorem EP{σ:Sg}{c c' vs H:aet}{o:Nat}(hl:c.length<=c'.length)(h:bQ σ c (c'.take c.length))(hv:bQ σ vs H)(ho:o+vs.length<=c.length):
  bQ σ (c.take o++(vs++c.drop (o+vs.length))) ((c'.take o++H++c'.drop (o+H.length)).take c.length):=by
 have e:(c'.take o++H++c'.drop (o+H.length)).take c.length=(c'.take c.length).take o++(H++(c'.take c.length).drop (o+H.length)):=by
  have a0:=hv.1
  rw[abv,adD,adD,adz,abP]
  have h1:min o c'.length=o:=by omega
  have h2:List.take c.length (List.take o c')=List.take o c':=by grind
  rw[h1,abk (l:=H) (by omega),adz]
  congr 1
  ·grind
  ·congr 1
   rw[List.take_drop]
   grind
 rw[e,<-hv.1];exact(h.take o).append (hv.append (h.drop _))
theorem mF(hs:fK P σ m w){a:Addr}{i:BI}(ha:σ a.block=some i){vs H:aet}(hv:bQ σ vs H)(h:storeCells m a vs=some m'):
  ∃w',(Go.storeCells ⟨i.cX,a.off,none⟩ H).run P w=.ok () w'/\Ev P σ m w σ m' w'/\a.spot=none/\∀B,B≠i.cX->w'.heap[B]?=w.heap[B]?:=by
 unfold storeCells at h;split at h
 ·rename_i c e g hg
  cases hc:(a.spot.isNone && Nat.ble (a.off+vs.length) c.length && vs.all one)with
  |false=>rw[hc]at h;simp at h
  |true=>
   rw[hc]at h;simp only[cond_true,aa7]at h;subst h;simp only[aa3]at hc;have hle:=abz hc.1.2;have⟨c',h1,h2,h3,h4⟩:=hs.cells ha hg;have b0:=hv.ee hc.2;have a0:=run_storeCells_at (P:=P) i.cX a.off e H 0 c' w h1 (by rw[<-hv.1];omega) b0;simp only[acO]at a0
   have d0:∀B,B≠i.cX->(w.setRow i.cX (c'.toList.take a.off++H++c'.toList.drop (a.off+H.length)).toArray).heap[B]?=w.heap[B]?:=by
    intro B hB
    simp only[World.setRow,acY]
    grind
   refine⟨_,a0,?_,by simp_all,d0⟩
   have hlen:(c'.toList.take a.off++H++c'.toList.drop (a.off+H.length)).length=c'.size:=by
    have:=hv.1
    grind
   refine Ev.write hs ha (by grind) ?_ ?_ ?_ rfl rfl rfl
   ·have e0:(c.take a.off++(vs++c.drop (a.off+vs.length))).length=c.length:=by grind
    refine⟨_,setRow_heap w i.cX c' _ e _ h1,?_,?_,?_⟩
    ·grind
    ·rw[e0];exact EP (by grind) h3 hv (by omega)
    ·grind
   ·grind
   ·simp_all
 cases h
theorem xN(hE:E.OK P)(hs:fK P σ m w){t:TypeId}{a:Addr}{i:BI}(ha:σ a.block=some i){v v':aes}(hv:bK σ v v')(h:storeVar E m t a v=some m'):
  ∃w',(Go.storeVar t ⟨i.cX,a.off,none⟩ v').run P w=.ok () w'/\Ev P σ m w σ m' w'/\a.spot=none/\∀B,B≠i.cX->w'.heap[B]?=w.heap[B]?:=by
 unfold storeVar at h;split at h
 ·rename_i ti a0
  have⟨inf,u,f⟩:=hE.rM a0
  have hc:=hv.cells
  cases H:Nat.beq (cells v).length ti.size with
  |false=>rw[H]at h;simp at h
  |true=>
   rw[H]at h
   simp only[cond_true]at h
   have he:=aba H
   have⟨w',h1,h2,h3⟩:=mF hs ha hc h
   refine⟨w',?_,h2,h3⟩
   unfold Go.storeVar
   rw[abh,run_sizeOf f.info,abd]
   have hl:v'.cells.size=inf.size:=by rw[<-f.size,<-he,hc.1];simp
   grind
 cases h
end
end
section
section
variable {E:Env} {P:Program} {w:World}
theorem fY:∀{H:List Kd} {xs ys:aet} {b:Bool},cD H xs ys=some b->xs.length=H.length/\ys.length=H.length
 |[],[],[],_,_=>⟨rfl,rfl⟩
 |[],[],_::_,_,h=>by simp[cD]at h
 |[],_::_,_,_,h=>by simp[cD]at h
 |_::_,[],_,_,h=>by simp[cD]at h
 |_::_,_::_,[],_,h=>by simp[cD]at h
 |k::H,a::x,c::y,b,h=>by
  unfold cD at h
  split at h
  ·rename_i h1
   have⟨e1,e2⟩:=fY h1
   grind
  ·cases h
theorem lC:∀{H k2:List Kd} {xs ys:aet} {b:Bool},cD (H++k2) xs ys=some b->
  ∃b1 b2,cD H (xs.take H.length) (ys.take H.length)=some b1/\cD k2 (xs.drop H.length) (ys.drop H.length)=some b2/\b=(b1 && b2)
 |[],_,_,_,b,h=>⟨true,b,by simp[cD],by grind,by simp⟩
 |k::H,k2,[],_,_,h=>by simp[cD]at h
 |k::H,k2,_::_,[],_,h=>by simp[cD]at h
 |k::H,k2,a::x,c::y,b,h=>by
  simp only[acw,cD]at h
  split at h
  ·rename_i b0 r h0 h1
   have⟨c1,c2,e1,e2,e3⟩:=lC h1
   simp only[aa7]at h
   exact⟨b0 && c1,c2,by simp[cD,h0,e1],by grind,by grind⟩
  ·cases h
def valOf(u:TypeDesc)(cs:aet):aes:=
 match u with
 |.struct _ |.array _ _=> .agg cs.toArray
 |_=>cs.headD undef
def Ig:TypeDesc->Nat->Prop
 |.struct _,_=>True
 |.array _ _,_=>True
 |_,n=>n=1
theorem qN(H:List Kd):∀n:Nat,(nM H n).length=n*H.length
 |0=>by simp[nM]
 |n+1=>by unfold nM;rw[abq,qN H n,abx];omega
theorem rZ{t:TypeId}{i:TypeInfo}{u:TypeDesc}(hi:P.info? t=some i)(hu:P.underlying t=some u)(cs:aet)(off:Nat)(h:off+i.size<=cs.length)
  (h1:Ig u i.size):(Go.part t cs.toArray off).run P w=.ok (valOf u ((cs.drop off).take i.size)) w:=by
 have H:cs.toArray.extract off (off+i.size)=((cs.drop off).take i.size).toArray:=by
  grind
 have b0:=sL (P:=P) u w t hu
 unfold Go.part
 rw[abh,b0,abd]
 have basic:(hZ P u).agg=false->i.size=1->valOf u ((cs.drop off).take i.size)=cs[off]?.getD undef->
   (if(hZ P u).agg=true then do let n<-sizeOf t;pure (Value.agg (cs.toArray.extract off (off+n)))else match cs.toArray[off]? with |some v=>pure v |none=>stuck "part: no such cell" :Sem aes).run P w=.ok (valOf u ((cs.drop off).take i.size)) w:=by
  intro ha hs hv
  have a0:off < cs.length:=by omega
  simp_all
 have head:i.size=1->((cs.drop off).take i.size).headD undef=cs[off]?.getD undef:=by
  intro hs
  have a0:off < cs.length:=by omega
  rw[hs,abR a0,aaW a0]
  rfl
 cases u with
 |struct fs=>
  have:(hZ P (.struct fs)).agg:=rfl
  simp only[this,acZ,abh,run_sizeOf hi,abd,abH,H,valOf]
 |array n e=>
  have:(hZ P (.array n e)).agg:=rfl
  simp only[this,acZ,abh,run_sizeOf hi,abd,abH,H,valOf]
 |_=>exact basic rfl h1 (head h1)
theorem Cd{d:Nat}{t:TypeId}{k:Kd}{u:TypeDesc}(hu:P.underlying t=some u)(hk:(u=.bool/\k=.b)\/((∃q,u=.int q)/\k=.i)\/(u=.string/\k=.s)){x y:aes}{b:Bool}
  (h:HL k x y=some b):(Op.equalIn (d+1) t x y).run P w=.ok b w:=by
 rcases hk with⟨rfl,rfl⟩ |⟨⟨q,rfl⟩,rfl⟩ |⟨rfl,rfl⟩
 ·cases x <;>cases y <;>simp[HL]at h
  subst h;simp[Op.equalIn,aa9 hu]
 ·cases x <;>cases y <;>simp[HL]at h
  obtain⟨rfl,rfl⟩:=h;simp[Op.equalIn,aa9 hu]
 cases x <;>cases y <;>simp[HL]at h
 subst h;simp[Op.equalIn,aa9 hu]
theorem qU{t:TypeId}{r:Option (List Kd)}{H:List Kd}(h:sized P t r=some H):∃i,P.info? t=some i/\r=some H/\H.length=i.size:=by
 unfold sized at h
 grind
theorem yQ(d:Nat)(xs ys:aet)
  (ih:∀(t:TypeId) (ks:List Kd) (u:TypeDesc) (x y:aet) (b:Bool),lF P d t=some ks->P.underlying t=some u->cD ks x y=some b->∀K,d<=K->(Op.equalIn K t (valOf u x) (valOf u y)).run P w=.ok b w)
  (K:Nat) (hK:d<=K):∀(fs:List Field) (off:Nat) (ks:List Kd) (b:Bool),kinds (lF P d) fs off=some ks->cD ks (xs.drop off) (ys.drop off)=some b->
   off+ks.length=xs.length->off+ks.length=ys.length->(Op.eqFields K xs.toArray ys.toArray fs).run P w=.ok b w
 |[],off,ks,b,h,he,_,_=>by
  simp only[kinds,aa7]at h
  subst h
  have:=(fY he)
  have e1:xs.drop off=[]:=acr (by grind)
  have e2:ys.drop off=[]:=acr (by grind)
  rw[e1,e2]at he
  simp only[cD,aa7]at he
  subst he
  simp[Op.eqFields]
 |f::fs,off,ks,b,h,he,hx,hy=>by
  unfold kinds at h
  by_cases hn:f.name= "_"
  ·grind
  ·rw[aa4 hn]at h
   by_cases ho:f.offset=off
   ·rw[aa5 ho]at h
    split at h
    ·rename_i k1 a0
     split at h
     ·rename_i r hr
      cases h
      obtain⟨b1,b2,e1,e2,rfl⟩:=lC he
      cases d with
      |zero=>simp[lF]at a0
      |succ d=>
       have b0:=a0
       unfold lF at a0
       have⟨i,hi,H,hlen⟩:=qU a0
       cases hu:P.underlying f.type with
       |none=>rw[hu]at H;simp at H
       |some u=>
        simp only[abq]at hx hy
        have h1:Ig u i.size:=by
         rw[hu]at H
         cases u <;>simp at H <;>first |trivial |(subst H;exact hlen.symm)
        have p1:=rZ (w:=w) hi hu xs f.offset (by omega) h1
        have p2:=rZ (w:=w) hi hu ys f.offset (by omega) h1
        have q:=ih f.type k1 u _ _ b1 b0 hu (by rw[hlen]at e1;exact e1) K hK
        simp only[acE]at e2
        unfold Op.eqFields
        rw[aa5 hn]
        simp only[abh,p1,p2,abd]
        rw[ho,q]
        have rest:=yQ (d+1) xs ys ih K hK fs (off+k1.length) r b2 hr e2 (by omega) (by omega)
        cases b1
        ·simp
        ·simp[rest]
     ·cases h
    ·cases h
   ·grind
theorem AD(d:Nat)(xs ys:aet)(e:TypeId)(i:TypeInfo)(hi:P.info? e=some i)(u:TypeDesc)(hu:P.underlying e=some u)(H:List Kd)(a0:lF P d e=some H)(hl:H.length=i.size) (h1:Ig u i.size) (ih:∀(t:TypeId) (ks:List Kd) (u:TypeDesc) (x y:aet) (b:Bool),lF P d t=some ks->P.underlying t=some u->cD ks x y=some b->∀K,d<=K->(Op.equalIn K t (valOf u x) (valOf u y)).run P w=.ok b w)
  (K:Nat) (hK:d<=K):∀(n j:Nat) (b:Bool),cD (nM H n) (xs.drop (j*i.size)) (ys.drop (j*i.size))=some b->(j+n)*i.size=xs.length->(j+n)*i.size=ys.length->(Op.eqItems K e i.size xs.toArray ys.toArray (List.range' j n)).run P w=.ok b w
 |0,j,b,he,hx,hy=>by
  simp only[acO]at hx hy
  rw[hx,adm,<-hx,hy,adm]at he
  simp only[nM,cD,aa7]at he
  subst he
  simp[Op.eqItems]
 |n+1,j,b,he,hx,hy=>by
  unfold nM at he
  obtain⟨b1,b2,e1,e2,rfl⟩:=lC he
  have hmul:(j+(n+1))*i.size=j*i.size+i.size+n*i.size:=by
   grind
  have p1:=rZ (w:=w) hi hu xs (j*i.size) (by omega) h1
  have p2:=rZ (w:=w) hi hu ys (j*i.size) (by omega) h1
  have q:=ih e H u _ _ b1 a0 hu (by rw[hl]at e1;exact e1) K hK
  rw[acE,acE,hl]at e2
  have hj:j*i.size+i.size=(j+1)*i.size:=by grind
  rw[hj]at e2
  have rest:=AD d xs ys e i hi u hu H a0 hl h1 ih K hK n (j+1) b2 e2 (by grind) (by grind)
  rw[List.range'_succ]
  unfold Op.eqItems
  simp only[abh,p1,p2,abd,q]
  cases b1
  ·simp
  ·grind
theorem Ck:∀(d:Nat) (t:TypeId) (ks:List Kd) (u:TypeDesc) (xs ys:aet) (b:Bool),lF P d t=some ks->P.underlying t=some u->cD ks xs ys=some b->
  ∀K,d<=K->(Op.equalIn K t (valOf u xs) (valOf u ys)).run P w=.ok b w
 |0,_,_,_,_,_,_,h,_,_,_,_=>by simp[lF]at h
 |d+1,t,ks,u,xs,ys,b,h,hu,he,K,hK=>by
  obtain⟨K,rfl⟩:∃K',K=K'+1:=⟨K-1,by omega⟩
  unfold lF at h
  have⟨i,hi,H,hlen⟩:=qU h
  rw[hu]at H
  have one:∀k,ks=[k]->∃x y,xs=[x]/\ys=[y]/\HL k x y=some b:=by
   intro k hk
   subst hk
   have:=fY he
   match xs,ys,this,he with
   |[x],[y],_,he=>
    refine⟨x,y,rfl,rfl,?_⟩
    simp only[cD]at he
    grind
  cases u with
  |bool=>
   simp only[aa7]at H
   obtain⟨x,y,rfl,rfl,hk⟩:=one _ H.symm
   exact Cd hu (.inl ⟨rfl,rfl⟩) hk
  |int q=>
   simp only[aa7]at H
   obtain⟨x,y,rfl,rfl,hk⟩:=one _ H.symm
   exact Cd hu (.inr (.inl ⟨⟨q,rfl⟩,rfl⟩)) hk
  |string=>
   simp only[aa7]at H
   obtain⟨x,y,rfl,rfl,hk⟩:=one _ H.symm
   exact Cd hu (.inr (.inr ⟨rfl,rfl⟩)) hk
  |struct fs=>
   simp only at H
   by_cases i0:P.stoodInHeld t=true
   ·grind
   ·rw[aa4 i0]at H
    have j0:P.fieldsOf t=fs:=by unfold Program.fieldsOf;rw[hu]
    have k0:=fY he
    have:=run_equalIn_struct (P:=P) w K t xs.toArray ys.toArray (by grind) (by grind)
    rw[j0]at this
    show(Op.equalIn (K+1) t (.agg xs.toArray) (.agg ys.toArray)).run P w=_
    rw[this]
    exact yQ d xs ys (λt ks u x y b=>Ck d t ks u x y b) K (by omega) fs.toList 0 ks b H (by grind) (by omega) (by omega)
  |array n e=>
   simp only at H
   split at H
   ·rename_i k1 d0
    by_cases hn:n*k1.length<=64
    ·rw[aa5 hn]at H
     cases H
     have k0:=fY he
     cases d with
     |zero=>simp[lF]at d0
     |succ d=>
      have h0:=d0
      unfold lF at d0
      have⟨ie,e0,b0,a0⟩:=qU d0
      cases g0:P.underlying e with
      |none=>rw[g0]at b0;simp at b0
      |some ue=>
       have h1:Ig ue ie.size:=by
        rw[g0]at b0
        cases ue <;>simp at b0 <;>first |trivial |(subst b0;exact a0.symm)
       have m0:(nM k1 n).length=n*ie.size:=by rw[<-a0];exact qN k1 n
       have l0:P.cellsOf e=ie.size:=by unfold Program.cellsOf;rw[e0];rfl
       have:=run_equalIn_array (P:=P) w K xs.toArray ys.toArray hu e0
       rw[l0]at this
       show(Op.equalIn (K+1) t (.agg xs.toArray) (.agg ys.toArray)).run P w=_
       rw[this,List.range_eq_range']
       exact AD (d+1) xs ys e ie e0 ue g0 k1 h0 a0 h1 (λt ks u x y b=>Ck (d+1) t ks u x y b) K (by omega) n 0 b (by grind) (by grind) (by grind)
    ·grind
   ·cases H
  |_=>simp at H
end
end
section
section
variable {E:Env} {P:Program} {σ:Sg} {m m':M} {w:World}
theorem bK.int{k:IntKind}{n:Int}{v':aes}(h:bK σ (.int k n) v'):v'=.int k n:=h.bT rfl
theorem bK.bool{b:Bool}{v':aes}(h:bK σ (.bool b) v'):v'=.bool b:=h.bT rfl
theorem bK.string{s:ByteArray}{v':aes}(h:bK σ (.string s) v'):v'=.string s:=h.bT rfl
theorem bK.iC{a:Addr}{v':aes}(h:bK σ (.pointer (some a)) v'):∃i,σ a.block=some i/\a.spot=none/\v'=aeq i.cX a.off:=by
 cases h with
 |flat _ h=>simp[bI]at h
 |ptr _ i h H=>exact⟨i,h,H,rfl⟩
theorem bK.eG{a:Addr}{n c:Nat}{v':aes}(h:bK σ (.slice (some a) n c) v'):∃(i:BI) (a':Addr) (c':Nat),σ a.block=some i/\v'=.slice (some a') n c'/\
  ((a.spot=none/\a'=⟨i.cX,a.off,none⟩/\((i.gr=none/\c'=c)\/∃k sz N,i.gr=some (k,sz,N)/\(c'=c\/(c<=c'/\a.off+c*k=sz/\a.off+c'*k=N))))\/(n=0/\c=0/\∃k sz N,i.gr=some (k,sz,N)/\a.off=sz)):=by
 cases h with
 |flat _ h=>simp[bI]at h
 |slice _ i _ _ h hs H=>exact⟨i,_,_,h,rfl,.inl ⟨hs,rfl,.inl ⟨H,rfl⟩⟩⟩
 |gX _ i _ _ c' k sz N h hs H hc=>exact⟨i,_,_,h,rfl,.inl ⟨hs,rfl,.inr ⟨k,sz,N,H,hc⟩⟩⟩
 |empty _ a' i c' k sz N h H ho=>exact⟨i,a',c',h,rfl,.inr ⟨rfl,rfl,k,sz,N,H,ho⟩⟩
theorem bK.iO{n c:Nat}{v':aes}(h:bK σ (.slice none n c) v'):n=0/\c=0/\v'=aew:=by
 cases h with
 |flat _ h=>
  unfold bI at h
  grind
theorem bK.sM{r:Nat}{v':aes}(h:bK σ (.map (some r)) v'):∃i,σ r=some i/\v'=.map (some i.cX):=by
 cases h with
 |flat _ h=>simp[bI]at h
 |map _ i h=>exact⟨i,h,rfl⟩
theorem bK.tO{b:Option Addr}{n c:Nat}{v':aes}(h:bK σ (.slice b n c) v'):∃H c',v'=.slice H n c'/\H.isNone=b.isNone:=by
 cases b with
 |none=>obtain⟨rfl,rfl,rfl⟩:=h.iO;exact⟨_,_,rfl,rfl⟩
 |some a=>obtain⟨_,a',c',_,rfl,_⟩:=h.eG;exact⟨_,_,rfl,rfl⟩
theorem bK.QC{b:Option Nat}{v':aes}(h:bK σ (.map b) v'):∃H,v'=.map H/\H.isNone=b.isNone:=by
 cases b with
 |none=>exact⟨_,h.bT rfl,rfl⟩
 |some r=>
  cases h with
  |flat _ h=>simp[bI]at h
  |map _ i h=>exact⟨_,rfl,rfl⟩
theorem bK.Ha{b:Option Addr}{v':aes}(h:bK σ (.pointer b) v'):∃H,v'=.pointer H/\H.isNone=b.isNone:=by
 cases b with
 |none=>exact⟨_,h.bT rfl,rfl⟩
 |some r=>obtain⟨_,_,_,rfl⟩:=h.iC;exact⟨_,rfl,rfl⟩
theorem bK.map_nil{v':aes}(h:bK σ (.map none) v'):v'=.map none:=h.bT rfl
theorem bK.mg{a:Array aes}{v':aes}(h:bK σ (.agg a) v'):∃H:Array aes,v'=.agg H/\bQ σ a.toList H.toList:=by
 cases h with
 |flat _ h=>simp[bI]at h
 |agg _ H ha h1=>exact⟨H,rfl,by grind,λj u u' x y=>h1 j u u' (by grind) (by grind)⟩
theorem bK.tJ{a:Array aes}{v':aes}(h:bK σ (.tuple a) v'):∃H:Array aes,v'=.tuple H/\bQ σ a.toList H.toList:=by
 cases h with
 |flat _ h=>simp[bI]at h
 |tuple _ H ha h1=>exact⟨H,rfl,by grind,λj u u' x y=>h1 j u u' (by grind) (by grind)⟩
theorem bK.yN{f:FuncId}{a b:Array aes}{v':aes}(h:bK σ (.func (.func f) a b) v'):∃H b':Array aes,v'=.func (.func f) H b'/\bQ σ a.toList H.toList/\bQ σ b.toList b'.toList:=by
 cases h with
 |flat _ h=>simp[bI]at h;obtain⟨rfl,rfl⟩:=h;exact⟨_,_,rfl,bQ.nil,bQ.nil⟩
 |func _ _ _ H b' ha hb h1 h2=>exact⟨H,b',rfl,⟨by grind,λj u u' x y=>h1 j u u' (by grind) (by grind)⟩,⟨by grind,λj u u' x y=>h2 j u u' (by grind) (by grind)⟩⟩
theorem ON{k:Kd}{x y x' y':aes}{b:Bool}(h:HL k x y=some b)(H:bK σ x x')(hy:bK σ y y'):x'=x/\y'=y:=by
 unfold HL at h;split at h;·exact⟨H.bool,hy.bool⟩
 ·exact⟨H.int,hy.int⟩
 ·exact⟨H.string,hy.string⟩
 cases h
theorem td:∀{ks:List Kd} {x y H y':aet} {b:Bool},cD ks x y=some b->bQ σ x H->bQ σ y y'->H=x/\y'=y
 |[],[],[],_,_,_,_,hx,hy=>⟨hx.nil_eq,hy.nil_eq⟩
 |[],[],_::_,_,_,_,h,_,_=>by simp[cD]at h
 |[],_::_,_,_,_,_,h,_,_=>by simp[cD]at h
 |_::_,[],_,_,_,_,h,_,_=>by simp[cD]at h
 |_::_,_::_,[],_,_,_,h,_,_=>by simp[cD]at h
 |k::ks,a::x,c::y,H,y',b,h,hx,hy=>by
  obtain⟨a',x1,rfl,ha,a0⟩:=hx.cases
  obtain⟨c',y1,rfl,hc,b0⟩:=hy.cases
  unfold cD at h
  split at h
  ·rename_i h1 h2
   have⟨q1,q2⟩:=ON h1 ha hc
   have⟨q3,q4⟩:=td h2 a0 b0
   grind
  ·cases h
theorem FP(hE:E.OK P){t:TypeId}{x y x' y':aes}{b:Bool}(h:eq? E t x y=some b)(hx:bK σ x x')(hy:bK σ y y'){d:Nat}(H:12<=d+1):
  (Op.equalIn (d+1) t x' y').run P w=.ok b w:=by
 unfold eq? at h;split at h;·cases h
 rename_i ti d0;have⟨inf,u,f⟩:=hE.rM d0;rw[f.d]at h
 have b0:∀(xs ys:Array aes) (ks:List Kd),x=.agg xs->y=.agg ys->ti.cmp=some ks->cD ks xs.toList ys.toList=some b->(∀cs,valOf u cs=.agg cs.toArray)->(Op.equalIn (d+1) t x' y').run P w=.ok b w:=by
  intro xs ys ks e1 e2 a0 he hv
  subst e1;subst e2
  obtain⟨a',rfl,ha⟩:=hx.mg
  obtain⟨c',rfl,hc⟩:=hy.mg
  have⟨q1,q2⟩:=td he ha hc
  have e0:lF P 12 t=some ks:=by
   rw[f.cmp]at a0
   unfold HU at a0
   grind
  have:=Ck (w:=w) 12 t ks u _ _ b e0 f.gU he (d+1) H
  simp_all
 split at h
 ·rename_i H;cases h;rw[hx.bool,hy.bool];simp[Op.equalIn,aa9 (f.gU.trans (by rw[qd H]))]
 ·rename_i H;split at h
  ·rename_i hk;subst hk;cases h;rw[hx.int,hy.int];simp[Op.equalIn,aa9 (f.gU.trans (by rw[ph H]))]
  cases h
 ·rename_i H;cases h;rw[hx.string,hy.string];simp[Op.equalIn,aa9 (f.gU.trans (by rw[jx H]))]
 ·rename_i H;obtain⟨gs,rfl,_⟩:=jw H;split at h
  ·rename_i ks a0;exact b0 _ _ ks rfl rfl a0 h (λ_=>rfl)
  cases h
 ·rename_i H;obtain rfl:=iT H;split at h
  ·rename_i ks a0;exact b0 _ _ ks rfl rfl a0 h (λ_=>rfl)
  cases h
 ·rename_i H;cases h;obtain⟨rfl,rfl,rfl⟩:=hx.iO;have hu:=f.gU.trans (by rw[fS H]);obtain⟨b',c',rfl,hb⟩:=hy.tO;rw[<-hb];simp[Op.equalIn,aa9 hu]
 ·rename_i H;cases h;obtain⟨rfl,rfl,rfl⟩:=hy.iO;obtain⟨_,a',c',_,rfl,_⟩:=hx.eG;have hu:=f.gU.trans (by rw[fS H]);simp[Op.equalIn,aa9 hu]
 ·rename_i H;cases h;rw[hx.map_nil];have hu:=f.gU.trans (by rw[mT H]);obtain⟨b',rfl,hb⟩:=hy.QC;rw[<-hb];simp[Op.equalIn,aa9 hu]
 ·rename_i H;cases h;rw[hy.map_nil];obtain⟨_,_,rfl⟩:=hx.sM;have hu:=f.gU.trans (by rw[mT H]);simp[Op.equalIn,aa9 hu]
 ·rename_i H;cases h;obtain⟨a,c,e,rfl⟩:=um H;rw[hx.bT rfl,hy.bT rfl];simp[Op.equalIn,aa9 f.gU]
 ·rename_i H;cases h;obtain⟨a,c,e,rfl⟩:=um H;rw[hx.bT rfl];cases hy <;>simp[Op.equalIn,aa9 f.gU]
 ·rename_i H;cases h;obtain⟨a,c,e,rfl⟩:=um H;rw[hy.bT rfl];cases hx <;>simp[Op.equalIn,aa9 f.gU]
 ·rename_i H;cases h;have hu:=f.gU.trans (by rw[DA H]);rw[hx.bT rfl];obtain⟨b',rfl,hb⟩:=hy.Ha;rw[<-hb];simp[Op.equalIn,aa9 hu]
 ·rename_i H;cases h;have hu:=f.gU.trans (by rw[DA H]);rw[hy.bT rfl];obtain⟨_,_,_,rfl⟩:=hx.iC;simp[Op.equalIn,aa9 hu]
 ·rename_i H;cases h;obtain⟨ms,rfl,_⟩:=yy H;rw[hx.bT rfl,hy.bT rfl];simp[Op.equalIn,aa9 f.gU]
 cases h
theorem pH(hE:E.OK P){t:TypeId}{x y H y':aes}{b:Bool}(h:eq? E t x y=some b)(hx:bK σ x H)(hy:bK σ y y'):(Op.equal t H y').run P w=.ok b w:=
 FP hE h hx hy (d:=9999) (by omega)
theorem vB(hE:E.OK P){t:TypeId}{x y x' y':aes}{b:Bool}(h:eq? E t x y=some b)(H:bK σ x x')(hy:bK σ y y')(op:BinOp)(xo yo:Operand):(eqGuard op t xo yo x' y').run P w=.ok () w:=by
 unfold eq? at h
 split at h
 ·cases h
 ·rename_i ti b0
  have⟨inf,u,f⟩:=hE.rM b0
  have calm:∀ks,ti.cmp=some ks->P.eqGuardType P.depth t=false:=by
   intro ks a0
   rw[f.cmp]at a0
   unfold HU at a0
   grind
  split at h
  ·rw[H.bool];rw[eqGuard_at_bool];rfl
  ·rw[H.int];rw[eqGuard_at_int];rfl
  ·rw[H.string];rw[eqGuard_at_string];rfl
  ·split at h
   ·rename_i ks a0
    obtain⟨a',rfl,ha⟩:=H.mg
    obtain⟨c',rfl,hc⟩:=hy.mg
    exact run_eqGuard_agg w op t xo yo a' c' (calm ks a0)
   ·cases h
  ·split at h
   ·rename_i ks a0
    obtain⟨a',rfl,ha⟩:=H.mg
    obtain⟨c',rfl,hc⟩:=hy.mg
    exact run_eqGuard_agg w op t xo yo a' c' (calm ks a0)
   ·cases h
  ·obtain⟨rfl,rfl,rfl⟩:=H.iO
   rw[eqGuard_at_slice];rfl
  ·obtain⟨_,a',c',_,rfl,_⟩:=H.eG
   rw[eqGuard_at_slice];rfl
  ·rw[H.map_nil,eqGuard_at_map];rfl
  ·obtain⟨_,_,rfl⟩:=H.sM
   rw[eqGuard_at_map];rfl
  ·rw[H.bT rfl,eqGuard_at_nilFunc];rfl
  ·rw[H.bT rfl,eqGuard_at_nilFunc];rfl
  ·cases H <;>(rw[eqGuard_at_func];rfl)
  ·rw[H.bT rfl]
   obtain⟨b',rfl,_⟩:=hy.Ha
   unfold eqGuard;split <;>rfl
  ·obtain⟨_,_,_,rfl⟩:=H.iC
   unfold eqGuard;split <;>rfl
  ·rename_i hd
   rw[f.d]at hd
   obtain⟨ms,rfl,he⟩:=yy hd
   rw[H.bT rfl,hy.bT rfl]
   have hg:(Op.eqGuardIn (9999+1) t .nilIface .nilIface).run P w=.ok false w:=by
    unfold Op.eqGuardIn
    rw[abh,aa9 f.gU]
    simp_all
   have hg:(Op.eqGuardIn Op.maxDepth t .nilIface .nilIface).run P w=.ok false w:=hg
   generalize hG:Op.eqGuardIn Op.maxDepth t .nilIface .nilIface=G at hg
   have key:(do if<-G then unsupported (.noEntry "binop/eql: two nil values of an interface type with methods, neither of them the literal nil"):Sem Unit).run P w=.ok () w:=by
    simp_all
   unfold eqGuard
   simp_all
  ·cases h
end
end
section
section
variable {E:Env} {P:Program} {σ:Sg} {m m':M} {w:World}
def mn:aes->Bool
 |.int _ _ |.float _ _ |.complex _ _ _ |.string _=>false
 |_=>true
theorem bK.mn{x H:aes}(h:bK σ x H):mn H=mn x:=by cases h <;>rfl
theorem Eg{t:TypeId}{x y:aes}{b:Bool}(h:eq? E t x y=some b)(hi:∀k a k' b,x=.int k a->y=.int k' b->False)(hs:∀a b,x=.string a->y=.string b->False):mn x:=by
 unfold eq? at h
 cases H:E.ty.get t with
 |none=>rw[H]at h;simp at h
 |some ti=>
  rw[H]at h
  have⟨d,_,_,_,_,_⟩:=ti
  cases x with
  |int k a=>cases d <;>cases y <;>first |(simp at h;done) |exact(hi _ _ _ _ rfl rfl).elim
  |string a=>cases d <;>cases y <;>first |(simp at h;done) |exact(hs _ _ rfl rfl).elim
  |float k a=>cases d <;>simp at h
  |complex k a b=>cases d <;>simp at h
  |_=>rfl
theorem zr{t:TypeId}{x y:aes}(h:mn x):binOp .eql t x y=(do pure (.bool (<-Op.equal t x y))):=by cases x <;>simp[mn]at h <;>cases y <;>rfl
theorem zq{t:TypeId}{x y:aes}(h:mn x):binOp .neq t x y=(do pure (.bool (!(<-Op.equal t x y)))):=by cases x <;>simp[mn]at h <;>cases y <;>rfl
theorem Gp{op:BinOp}{t:TypeId}{k:IntKind}{a b:Int}{v:aes}(h:iJ op k a b=some v):(binOp op t (.int k a) (.int k b)).run P w=.ok v w/\bI v:=by
 unfold iJ at h;cases op <;>simp only[aa7,reduceCtorEq]at h
 case quo=>
  split at h;·cases h
  cases h;rename_i H;exact⟨by simp[binOp,Op.intDiv,H],rfl⟩
 case rem=>
  split at h;·cases h
  cases h;rename_i H;exact⟨by simp[binOp,Op.intDiv,H],rfl⟩
 all_goals
  subst h
  exact⟨by simp[binOp,Op.intArith,Op.intBits,Op.intCmp],rfl⟩
theorem Gm{op:BinOp}{t:TypeId}{a b:ByteArray}{v:aes}(h:Gn op a b=some v):(binOp op t (.string a) (.string b)).run P w=.ok v w/\bI v:=by
 unfold Gn at h;cases op <;>simp only[aa7,reduceCtorEq]at h
 case add=>
  split at h;·cases h
  cases h;rename_i H;exact⟨by simp only[binOp,Op.stringOp,aa4 H];rfl,rfl⟩
 all_goals
  subst h
  exact⟨by simp[binOp,Op.stringOp],rfl⟩
theorem AY(hE:E.OK P){op:BinOp}{t:TypeId}{x y x' y' v:aes}(h:aC E op t x y=some v)(hx:bK σ x x')(hy:bK σ y y')(xo yo:Operand):
  (eqGuard op t xo yo x' y' >>=λ_=>binOp op t x' y').run P w=.ok v w/\bI v:=by
 unfold aC at h;split at h
 ·rw[hx.int,hy.int];split at h;·cases h
  cases h;rename_i hb;exact⟨by rw[eqGuard_shl];simp[binOp,Op.shift,hb],rfl⟩
 ·rw[hx.int,hy.int];split at h;·cases h
  cases h;rename_i hb;exact⟨by rw[eqGuard_shr];simp[binOp,Op.shift,hb],rfl⟩
 ·rw[hx.int,hy.int];split at h
  ·rename_i hk;subst hk;have⟨h1,h2⟩:=Gp (P:=P) (w:=w) (t:=t) h;exact⟨by rw[eqGuard_at_int];simpa using h1,h2⟩
  cases h
 ·rw[hx.string,hy.string];have⟨h1,h2⟩:=Gm (P:=P) (w:=w) (t:=t) h;exact⟨by rw[eqGuard_at_string];simpa using h1,h2⟩
 ·rename_i hi hs
  cases H:eq? E t x y with
  |none=>rw[H]at h;simp at h
  |some b=>rw[H]at h;simp only[aa8,aa7]at h;subst h;have hh:=Eg H (λk a k' b e1 e2=>hi _ _ _ _ e1 e2) (λa b e1 e2=>hs _ _ e1 e2);have hg:=vB (w:=w) hE H hx hy .eql xo yo;have he:=pH (w:=w) hE H hx hy;refine⟨?_,rfl⟩;rw[zr (by rw[hx.mn];exact hh),abh,hg,abd,abh,he];rfl
 ·rename_i hi hs
  cases H:eq? E t x y with
  |none=>rw[H]at h;simp at h
  |some b=>rw[H]at h;simp only[aa8,aa7]at h;subst h;have hh:=Eg H (λk a k' b e1 e2=>hi _ _ _ _ e1 e2) (λa b e1 e2=>hs _ _ e1 e2);have hg:=vB (w:=w) hE H hx hy .neq xo yo;have he:=pH (w:=w) hE H hx hy;refine⟨?_,rfl⟩;rw[zq (by rw[hx.mn];exact hh),abh,hg,abd,abh,he];rfl
 cases h
theorem CS{op:UnOp}{x H v:aes}(h:dh op x=some v)(hx:bK σ x H):(Op.unary op H).run P w=.ok v w/\bI v:=by
 unfold dh at h;split at h;·cases h;rw[hx.int];exact⟨by simp[Op.unary,Op.intArith],rfl⟩
 ·cases h;rw[hx.bool];exact⟨by simp[Op.unary],rfl⟩
 cases h
theorem FY(hE:E.OK P){s d:TypeId}{x x' v:aes}(h:OR E s d x=some v)(hx:bK σ x x'):(convert s d x').run P w=.ok v w/\bI v:=by
 unfold OR at h;split at h
 ·rename_i si ti k n hs ht;have⟨_,us,fs⟩:=hE.rM hs;have⟨_,ut,H⟩:=hE.rM ht;split at h
  ·rename_i hd;cases h;rw[H.d]at hd;rw[hx.int];have hu:=H.gU.trans (by rw[ph hd]);refine⟨?_,rfl⟩;simp[convert,aa9 fs.gU,aa9 hu,Conv.intToInt]
  cases h
 ·rename_i si ti b hs ht;have⟨_,us,fs⟩:=hE.rM hs;have⟨_,ut,H⟩:=hE.rM ht;split at h
  ·rename_i hd;cases h;rw[H.d]at hd;rw[hx.string];have hu:=H.gU.trans (by rw[jx hd]);refine⟨?_,rfl⟩;simp[convert,aa9 fs.gU,aa9 hu]
  cases h
 cases h
theorem Fg(hE:E.OK P){t:TypeId}{cs H:aet}{off:Nat}{v:aes}(h:part E t cs off=some v)(hc:bQ σ cs H):
  ∃v',(Go.part t H.toArray off).run P w=.ok v' w/\bK σ v v':=by
 unfold part at h;split at h
 ·rename_i ti d0
  have⟨i,u,f⟩:=hE.rM d0
  have a0:=sL (P:=P) u w t f.gU
  rw[<-f.d]at a0
  unfold Go.part
  rw[abh,a0,abd]
  cases ha:ti.d.agg with
  |true=>
   rw[ha]at h
   simp only[cond_true]at h
   cases hb:Nat.ble (off+ti.size) cs.length with
   |false=>rw[hb]at h;simp at h
   |true=>
    rw[hb]at h;simp only[cond_true,aa7]at h;subst h;refine⟨.agg ((H.drop off).take ti.size).toArray,?_,((hc.drop off).take ti.size).agg⟩
    have b0:H.toArray.extract off (off+i.size)=((H.drop off).take ti.size).toArray:=by
     apply ac7
     rw[Array.toList_extract,List.extract_eq_take_drop,f.size]
     grind
    simp only[acZ,abh,run_sizeOf f.info,abd,abH,b0]
  |false=>
   rw[ha]at h
   simp only[abf]at h
   have⟨u',hu,hr⟩:=hc.get h
   simp_all
 cases h
theorem oh(hE:E.OK P){t:TypeId}{x x' v:aes}{n:Nat}(h:af E t x n=some v)(hx:bK σ x x'):∃v',(Instr.fieldAt t x' n).run P w=.ok v' w/\bK σ v v':=by
 unfold af at h;split at h
 ·rename_i ti a d0;have⟨i,u,f⟩:=hE.rM d0;split at h
  ·rename_i fs hd;rw[f.d]at hd;obtain⟨gs,rfl,rfl⟩:=jw hd;split at h
   ·rename_i fd H
    simp only[ach,abl]at H
    obtain⟨g,hg,rfl⟩:=H
    obtain⟨bi,hb,a0,rfl⟩:=hx.iC
    cases hz:Nat.beq (uq P g).size 0 with
    |true=>rw[hz]at h;simp at h
    |false=>
     rw[hz]at h
     simp only[abf,aa7]at h
     subst h
     have b0:=abU hz
     cases hi:P.info? g.type with
     |none=>simp[uq,hi]at b0
     |some gi=>
      have e0:gi.size≠0:=by simpa[uq,hi]using b0
      have g0:gs[n]?=some g:=by grind
      have⟨bl,o,sp⟩:=a;simp only at a0 hb;subst a0;refine⟨aeq bi.cX (o+g.offset),?_,?_⟩;·simp only[Instr.fieldAt,abh,aa9 f.gU,abd,g0,Instr.sureAddr,abH,fieldPlace,run_sizeOf hi,aa4 e0,dS]
      have:((uq P g).off)=g.offset:=rfl;rw[this,dS];exact .ptr ⟨bl,o+g.offset,none⟩ bi hb rfl
   cases h
  cases h
 cases h
theorem ru{u:TypeDesc}{e:Nat}(hu:yT P u=0->False)(he:u=.slice e\/∃n,u=.array n e):∃H,P.info? e=some H/\yT P u=H.size:=by
 rcases he with rfl |⟨n,rfl⟩
 ·cases hi:P.info? e with
  |none=>simp[yT,hi]at hu
  |some H=>exact⟨H,rfl,by simp[yT,hi]⟩
 ·cases hi:P.info? e with
  |none=>simp[yT,hi]at hu
  |some H=>exact⟨H,rfl,by simp[yT,hi]⟩
theorem oe(hE:E.OK P){t:TypeId}{x x' y y' v:aes}(h:an E t x y=some v)(hx:bK σ x x')(hy:bK σ y y'):∃v',(Instr.indexAt t x' y').run P w=.ok v' w/\bK σ v v':=by
 unfold an at h;split at h;·cases h
 rename_i ti e0;have⟨i,u,f⟩:=hE.rM e0;split at h
 ·rename_i e a n c k j hd;rw[f.d]at hd;obtain rfl:=fS hd;split at h
  ·rename_i hc;cases h;obtain⟨ei,H,a0⟩:=ru (P:=P) (u:=.slice e) (by rw[<-f.es];omega) (.inl rfl);rw[hy.int];obtain⟨bi,a',c',hb,rfl,b0⟩:=hx.eG;rcases b0 with⟨d0,rfl,_⟩ |⟨rfl,rfl,_⟩
   ·have⟨bl,o,sp⟩:=a;subst d0;refine⟨aeq bi.cX (o+j.toNat*ei.size),?_,?_⟩
    ·have h2:0<=j/\j < (n:Int):=⟨hc.1,hc.2.1⟩
     simp only[Instr.indexAt,abh,asIntOf,abH,abd,aa9 f.gU,aa5 h2,run_sizeOf H,dS]
    rw[f.es,a0,dS];exact .ptr ⟨bl,o+j.toNat*ei.size,none⟩ bi hb rfl
   ·grind
  cases h
 ·rename_i n e a k j hd;rw[f.d]at hd;obtain rfl:=iT hd;split at h
  ·rename_i hc;cases h;obtain⟨ei,H,a0⟩:=ru (P:=P) (u:=.array n e) (by rw[<-f.es];omega) (.inr ⟨n,rfl⟩);rw[hy.int];obtain⟨bi,hb,d0,rfl⟩:=hx.iC;have⟨bl,o,sp⟩:=a;subst d0;refine⟨aeq bi.cX (o+j.toNat*ei.size),?_,?_⟩
   ·have h2:0<=j/\j < (n:Int):=⟨hc.1,hc.2.1⟩
    simp only[Instr.indexAt,abh,asIntOf,abH,abd,aa9 f.gU,Instr.sureAddr,aa5 h2,run_sizeOf H,dS]
   rw[f.es,a0,dS];exact .ptr ⟨bl,o+j.toNat*ei.size,none⟩ bi hb rfl
  cases h
 cases h
theorem vA(hE:E.OK P){t:TypeId}{x x' y y' v:aes}(h:index? E t x y=some v)(hx:bK σ x x')(hy:bK σ y y'):∃v',(Instr.index t x' y').run P w=.ok v' w/\bK σ v v':=by
 unfold index? at h;split at h;·cases h
 rename_i ti a0;have⟨i,u,f⟩:=hE.rM a0;split at h
 ·rename_i n e cs k j H;rw[f.d]at H;obtain rfl:=iT H;split at h
  ·rename_i hc;rw[hy.int];obtain⟨e0,rfl,b0⟩:=hx.mg;have⟨v',h1,h2⟩:=Fg (w:=w) hE h b0;refine⟨v',?_,h2⟩;have hp:=h;unfold part at hp;split at hp
   ·rename_i ei d0
    have⟨ie,ue,fe⟩:=hE.rM d0
    have g0:ti.es=ie.size:=by rw[f.es];simp[yT,fe.info]
    have h3:(0:Int)<=j/\j < (n:Int):=hc
    simp only[Instr.index,abh,asIntOf,abH,abd,aa9 f.gU,aa5 h3,run_sizeOf fe.info]
    simp_all
   cases hp
  cases h
 ·rename_i s k j H;rw[f.d]at H;obtain rfl:=jx H;split at h
  ·rename_i hc;simp only[abl]at h;obtain⟨b,hb,rfl⟩:=h;rw[hy.int,hx.string];refine⟨.int .u8 b.toNat,?_,.flat _ rfl⟩;simp only[Instr.index,abh,asIntOf,abH,abd,aa9 f.gU,aa5 hc,hb]
  cases h
 cases h
end
end
section
def KC(P:Program)(σ:Sg)(m:M)(w:World)(s:Sem aes)(v:aes)(m':M):Prop:=
 ∃σ' w' H,s.run P w=.ok H w'/\bK σ' v H/\Ev P σ m w σ' m' w'
section
variable {E:Env} {P:Program} {σ:Sg} {m m':M} {w:World}
theorem KC.pure(H:fK P σ m w){s:Sem aes}{v v':aes}(h:s.run P w=.ok v' w)(hv:bK σ v v'):KC P σ m w s v m:=⟨σ,w,v',h,hv,Ev.refl H⟩
def TF(len size:Nat):Option Nat->Option (Nat×Nat×Nat)
 |none=>none
 |some k=>some (k,len,size)
theorem Hj(H:fK P σ m w){c:aet}{c':Array aes}{e:TypeId}{g:Option Nat}(hl:c.length<=c'.size)(h:bQ σ c (c'.toList.take c.length))
  (hg:We ⟨w.heap.size,TF c.length c'.size g⟩ c.length c'.size g):
  Ev P σ m w (σ.add m.n ⟨w.heap.size,TF c.length c'.size g⟩) (m.push (.cells c e g)) (w.alloc (.cells c' e)):=by refine Ev.uk H ⟨c',?_,hl,h.mono (Sg.uA H.kB),hg⟩;exact heap_alloc_new w _
theorem uj(H:fK P σ m w){c:aet}{c':Array aes}{e:TypeId}(h:bQ σ c c'.toList):
  Ev P σ m w (σ.add m.n ⟨w.heap.size,none⟩) (m.push (.cells c e none)) (w.alloc (.cells c' e)):=by
 have hl:c.length=c'.size:=by simpa using h.1
 refine Hj (g:=none) H (by omega) ?_ ⟨rfl,hl.symm⟩;rw[abk (by grind)];exact h
theorem Kv(H:fK P σ m w){t:TypeId}{v v':aes}(hv:bK σ v v'):KC P σ m w (Instr.box t v') (newVar m t v).1 (newVar m t v).2:=by
 refine⟨_,_,aeq w.heap.size 0,?_,?_,uj H hv.cells (e:=t)⟩;·simp[Instr.box,Go.newVar,newRow]
 exact .ptr ⟨m.n,0,none⟩ _ (Sg.add_same _ _) rfl
theorem Ey(hE:E.OK P)(hs:fK P σ m w){t:TypeId}{z:aes}(H:uX E t=some z):KC P σ m w (Instr.alloc t true (.tuple #[])) (newVar m t z).1 (newVar m t z).2:=by
 unfold uX at H
 cases ht:E.ty.get t with
 |none=>rw[ht]at H;simp at H
 |some ti=>
  rw[ht]at H;have⟨i,u,f⟩:=hE.rM ht;have hr:=gR (w:=w) f.info (by rw[<-f.zero];exact H);refine⟨_,_,aeq w.heap.size 0,?_,?_,uj hs (bK.kT (hE.flat ht H)).cells (e:=t)⟩;·simp[Instr.alloc,hr,Go.newVar,newRow]
  exact .ptr ⟨m.n,0,none⟩ _ (Sg.add_same _ _) rfl
theorem sS(off:Nat):∀(l:aet) (k:Nat) (cs:Array aes),off+k+l.length<=cs.size->(l.zipIdx k).foldl (λcs p=>cs.setIfInBounds (off+p.2) p.1) cs=(cs.toList.take (off+k)++(l++cs.toList.drop (off+k+l.length))).toArray
 |[],k,cs,_=>by simp
 |v::l,k,cs,h=>by
  simp only[abe]at h
  simp only[List.zipIdx_cons,ade]
  rw[sS off l (k+1) (cs.setIfInBounds (off+k) v) (by grind)]
  have e:=list_seg_step cs.toList (off+k) v l (by grind)
  simp only[Array.toList_setIfInBounds,abe]
  grind
theorem nI{place place':Nat->Option (Nat×Nat)}(hp:∀i o,place i=some o->place' i=some o){T:Operand->aes}{A:Operand->aes}:
  ∀(ps:List (Nat×Operand)) (cs:aet) (H:Array aes) (out:aet),(∀p∈ps,bK σ (T p.2) (A p.2))->bQ σ cs H.toList->
   fill place cs (ps.map λp=>(p.1,T p.2))=some out->∃a0:Array aes,Instr.fill place' H (ps.map λp=>(p.1,A p.2))=some a0/\bQ σ out a0.toList
 |[],cs,H,out,_,hc,h=>by
  simp only[ads,fill,aa7]at h
  subst h
  exact⟨H,rfl,hc⟩
 |p::ps,cs,H,out,hv,hc,h=>by
  simp only[acJ,fill]at h
  split at h
  ·cases h
  ·rename_i off size ho
   have hx:=hv p abT
   have b0:=hx.cells
   cases hb:(Nat.beq (cells (T p.2)).length size && Nat.ble (off+size) cs.length)with
   |false=>rw[hb]at h;simp at h
   |true=>
    rw[hb]at h
    simp only[cond_true]at h
    simp only[aa3]at hb
    have h1:=aba hb.1
    have h2:=abz hb.2
    have e0:=b0.1
    have g0:=hc.1
    simp only[abI]at e0 g0
    have d0:=sS off (A p.2).cells.toList 0 H (by grind)
    simp only[acO]at d0
    have h0:((A p.2).cells.zipIdx.foldl (λcs (x:aes×Nat)=>cs.setIfInBounds (off+x.2) x.1) H)=(H.toList.take off++((A p.2).cells.toList++H.toList.drop (off+(A p.2).cells.toList.length))).toArray:=by
     rw[<-d0,<-adv]
     simp
    have i0:bQ σ (cs.take off++(cells (T p.2)++cs.drop (off+size))) (H.toList.take off++((A p.2).cells.toList++H.toList.drop (off+(A p.2).cells.toList.length))):=by
     have:(A p.2).cells.toList.length=size:=by grind
     rw[this]
     exact(hc.take off).append (b0.append (hc.drop _))
    obtain⟨a0,e1,e2⟩:=nI hp ps _ (H.toList.take off++((A p.2).cells.toList++H.toList.drop (off+(A p.2).cells.toList.length))).toArray out (λq hq=>hv q (abS _ hq)) (by grind) h
    refine⟨a0,?_,e2⟩
    simp only[acJ,Instr.fill,hp _ _ ho]
    grind
theorem vI(hE:E.OK P){T A:Operand->aes}{t:TypeId}{ps:Array (Nat×Operand)}{v:aes}(hv:∀p∈ps.toList,bK σ (T p.2) (A p.2))
  (h:aK E t (ps.toList.map λp=>(p.1,T p.2))=some v):∃v',(Instr.build t (ps.map λp=>(p.1,A p.2))).run P w=.ok v' w/\bK σ v v':=by
 unfold aK at h;split at h;·cases h
 rename_i ti d0;have⟨i,u,f⟩:=hE.rM d0;split at h
 ·rename_i z fs hz hd;have H:=hE.flat d0 hz;have h0:=hd;rw[f.d]at hd;obtain⟨gs,rfl,rfl⟩:=jw hd;simp only[abl]at h;obtain⟨cs,e0,rfl⟩:=h;have hr:=gR (w:=w) f.info (by rw[<-f.zero];exact hz)
  have a0:(gs.mapM (m:=Sem) λf=>do pure (f.offset,<-sizeOf f.type)).run P w=.ok (gs.map λg=>(g.offset,(uq P g).size)) w:=by
   have key:∀(l:List Field),(∀g∈l,∃gi,P.info? g.type=some gi)->(l.mapM (m:=Sem) λf=>do pure (f.offset,<-sizeOf f.type)).run P w=.ok (l.map λg=>(g.offset,(uq P g).size)) w:=by
    intro l
    induction l with
    |nil=>intro _;rfl
    |cons g l ih=>intro hl;have⟨gi,g0⟩:=hl g abT;have h2:=ih (λg hg=>hl g (abS _ hg));rw[List.mapM_cons];simp only[abh,run_sizeOf g0,abd,abH,h2,acJ];simp[uq,g0]
   have:=key gs.toList (λg hg=>by have⟨fi,h1,_⟩:=hE.fld d0 h0 (acH (f:=uq P) hg);have⟨gi,gu,gf⟩:=hE.rM h1;exact⟨gi,gf.info⟩)
   rw[adV,Sem.run_map,this]
   simp only[abd]
   congr 1
   grind
  obtain⟨b0,e1,e2⟩:=nI (σ:=σ) (place':=((gs.map λg=>(g.offset,(uq P g).size))[·]?)) (by
   intro j o ho;simp only[ach,Option.map_map,abl]at ho;obtain⟨g,hg,rfl⟩:=ho;have:gs[j]?=some g:=by grind
   simp[this,uq]) ps.toList (cells z) z.cells cs hv (bK.kT H).cells e0
  refine⟨.agg b0,?_,?_⟩
  ·simp only[Instr.build,abh,hr,abd,aa9 f.gU,a0]
   simp_all
  have:=e2.agg;simpa using this
 ·rename_i z n e hz hd
  have H:=hE.flat d0 hz
  rw[f.d]at hd
  obtain rfl:=iT hd
  cases hb:Nat.beq ti.es 0 with
  |true=>rw[hb]at h;simp at h
  |false=>
   rw[hb]at h;have i0:=abU hb;simp only[abf,abl]at h;obtain⟨cs,e0,rfl⟩:=h;have hr:=gR (w:=w) f.info (by rw[<-f.zero];exact hz);obtain⟨ei,j0,k0⟩:=ru (P:=P) (u:=.array n e) (by rw[<-f.es];exact i0) (.inr ⟨n,rfl⟩)
   obtain⟨b0,e1,e2⟩:=nI (σ:=σ) (place':=λj=>some (j*ei.size,ei.size)) (by intro j o ho;rw[f.es,k0]at ho;exact ho) ps.toList (cells z) z.cells cs hv (bK.kT H).cells e0
   refine⟨.agg b0,?_,?_⟩
   ·simp only[Instr.build,abh,hr,abd,aa9 f.gU,run_sizeOf j0]
    simp_all
   have:=e2.agg;simpa using this
 cases h
end
end
section
section
variable {E:Env} {P:Program} {σ:Sg} {m m':M} {w:World}
theorem ng(z:aet):∀n:Nat,(lP z n).length=n*z.length
 |0=>by simp[lP]
 |n+1=>by unfold lP;rw[abq,ng z n,abx];omega
theorem zW(z:aet):∀(n i:Nat),i < n*z.length->(lP z n)[i]?=z[i%z.length]?
 |0,i,h=>by grind
 |n+1,i,h=>by
  unfold lP
  by_cases hi:i < z.length
  ·rw[acB hi,acD hi]
  ·rw[acj (by omega),zW z n _ (by grind)]
   congr 1
   rw[<-aeh (by omega)]
theorem zV{z H:aet}(h:bQ σ z H):∀n:Nat,bQ σ (lP z n) (lP H n)
 |0=>bQ.nil
 |n+1=>h.append (zV h n)
theorem Dg(z:Array aes)(n:Nat):((Array.range (n*z.size)).map λi=>z[i%z.size]!)=(lP z.toList n).toArray:=by
 apply ac7
 apply ab9
 intro i
 simp only[Array.toList_map,ach,Array.toList_range]
 by_cases hi:i < n*z.size
 ·rw[aee hi,zW z.toList n i (by grind)]
  have H:0 < z.size:=by
   grind
  have hm:i%z.size < z.size:=acI _ H
  grind
 ·rw[ab5 (by grind),ab5 (by rw[ng];simpa using hi)]
  rfl
theorem uQ(hE:E.OK P)(hs:fK P σ m w){T A:Operand->aes}{t:TypeId}{n:Nat}{ps:Array (Nat×Operand)}{v:aes}(hv:∀p∈ps.toList,bK σ (T p.2) (A p.2))
  (h:aI E m t n (ps.toList.map λp=>(p.1,T p.2))=some (v,m')):KC P σ m w (Instr.buildSlice t n (ps.map λp=>(p.1,A p.2))) v m':=by
 unfold aI at h;split at h;·cases h
 rename_i ti e0;have⟨i,u,f⟩:=hE.rM e0;split at h
 ·rename_i e hd;rw[f.d]at hd;obtain rfl:=fS hd;split at h;·cases h
  ·rename_i z hz
   unfold uX at hz
   cases he:E.ty.get e with
   |none=>rw[he]at hz;simp at hz
   |some ei=>
    rw[he]at hz
    have⟨ie,ue,fe⟩:=hE.rM he
    have j0:ti.es=ie.size:=by rw[f.es];simp[yT,fe.info]
    cases hb:(Nat.beq (cells z).length ti.es && Nat.ble (n*ti.es) 1048576)with
    |false=>rw[hb]at h;simp at h
    |true=>
     rw[hb]at h;simp only[cond_true,abl,abY]at h;obtain⟨cs,g0,rfl,rfl⟩:=h;simp only[aa3]at hb;have h1:=aba hb.1;have h2:=abz hb.2;have d0:=(bK.kT (σ:=σ) (hE.flat he hz)).cells;have i0:z.cells.size=ie.size:=by have:=d0.1;simp at this;omega
     have hr:=gR (w:=w) fe.info (by rw[<-fe.zero];exact hz)
     obtain⟨a0,e1,e2⟩:=nI (σ:=σ) (place':=λj=>some (j*ie.size,ie.size)) (by
      grind) ps.toList (lP (cells z) n) (lP z.cells.toList n).toArray cs hv (by simpa using zV d0 n) g0
     refine⟨_,_,aer w.heap.size 0 n n,?_,?_,uj hs e2 (e:=e)⟩
     ·have b0:Instr.fill (λi=>some (i*ie.size,ie.size)) ((Array.range (n*ie.size)).map (z.cells[·%z.cells.size]!)) (ps.map λp=>(p.1,A p.2)).toList=some a0:=by
       have:=Dg z.cells n
       simp_all
      by_cases h0:n*ie.size=0
      ·have k0:(lP z.cells.toList n).toArray= #[]:=by apply ac7;exact acr (by rw[ng];simp only[abI];rw[i0];exact h0)
       have H:Instr.fill (λi=>some (i*ie.size,ie.size)) ((Array.range (n*ie.size)).map ((#[]:Array aes)[·%(#[]:Array aes).size]!)) (ps.map λp=>(p.1,A p.2)).toList=some a0:=by
        grind
       simp only[Instr.buildSlice,abh,aa9 f.gU,abd,run_sizeOf fe.info,Sem.run_ite];simp only[abH,abd,h0,acZ];rw[h0]at H;rw[H];simp[newRow]
      simp only[Instr.buildSlice,abh,aa9 f.gU,abd,run_sizeOf fe.info,Sem.run_ite];rw[aa4 (by grind)];simp only[abH,abd,h0,if_false,hr];rw[b0];simp[newRow]
     exact .slice ⟨m.n,0,none⟩ _ n n (Sg.add_same _ _) rfl rfl
 cases h
end
end
section
section
variable {E:Env} {P:Program} {σ:Sg} {m m':M} {w:World}
theorem jC{x x':aes}{y n:Nat}(h:rD x y=some n)(hx:bK σ x x')(H:Nat)(hy:y<=H)(c:BoundsCode):(Instr.sliceBound x' H c).run P w=.ok n w/\n<=y:=by
 unfold rD at h;split at h
 ·rename_i k i;split at h
  ·rename_i hc;cases h;rw[hx.int];refine⟨?_,by omega⟩;have h2:0<=i/\i<=(H:Int):=by omega
   simp only[Instr.sliceBound,abh,asIntOf,abH,abd,aa5 h2]
  cases h
 cases h
def zu(σ:Sg)(x H:Option aes):Prop:=match x,H with
 |none,none=>True
 |some v,some v'=>bK σ v v'
 |_,_=>False
theorem fh{len cap:Nat}{lo hi mx a0 b0 mx':Option aes}{l h k:Nat}(e:fH len cap lo hi mx=some (l,h,k))(h1:zu σ lo a0)(h2:zu σ hi b0)(h3:zu σ mx mx')
  (d0:len<=cap) (b:Bool) (H:Nat) (hc:cap<=H):
  (Instr.sliceBounds b len H a0 b0 mx').run P w=.ok (l,h,if mx.isNone then H else k) w/\l<=h/\h<=k/\k<=cap/\(mx=none->k=cap):=by
 unfold fH at e;split at e;·cases e
 rename_i m hm;split at e;·cases e
 rename_i h' hh;split at e;·cases e
 ·rename_i l' hl
  cases e
  cases mx with
  |some vm=>
   cases mx' with
   |none=>exact h3.elim
   |some j0=>
    have⟨r1,r2⟩:=jC (P:=P) (w:=w) hm h3 H hc (if b then .slice3Acap else .slice3Alen)
    cases hi with
    |none=>simp at hh
    |some vh=>
     cases b0 with
     |none=>exact h2.elim
     |some e0=>
      obtain⟨s1,s2⟩:=jC (P:=P) (w:=w) hh h2 k (aaV _) .slice3B
      cases lo with
      |none=>
       cases a0 with
       |some _=>exact h1.elim
       |none=>simp only[aa7]at hl;subst hl;refine⟨?_,by omega,s2,r2,by simp⟩;simp only[Instr.sliceBounds,abh,r1,s1,abH,abd];rfl
      |some vl=>
       cases a0 with
       |none=>exact h1.elim
       |some g0=>obtain⟨t1,t2⟩:=jC (P:=P) (w:=w) hl h1 h (aaV _) .slice3C;refine⟨?_,t2,s2,r2,by simp⟩;simp[Instr.sliceBounds,abh,r1,s1,t1]
  |none=>
   cases mx' with
   |some _=>exact h3.elim
   |none=>
    simp only[aa7]at hm;subst hm
    have h0:(match b0 with |some v=>Instr.sliceBound v H (if b then .sliceAcap else .sliceAlen) |none=>pure len:Sem Nat).run P w=.ok h w/\h<=cap:=by
     cases hi with
     |none=>
      cases b0 with
      |some _=>exact h2.elim
      |none=>simp only[aa7]at hh;subst hh;exact⟨rfl,d0⟩
     |some vh=>
      cases b0 with
      |none=>exact h2.elim
      |some e0=>exact jC (P:=P) (w:=w) hh h2 H hc _
    have i0:(match a0 with |some v=>Instr.sliceBound v h .sliceB |none=>pure 0:Sem Nat).run P w=.ok l w/\l<=h:=by
     cases lo with
     |none=>
      cases a0 with
      |some _=>exact h1.elim
      |none=>simp only[aa7]at hl;subst hl;exact⟨rfl,by omega⟩
     |some vl=>
      cases a0 with
      |none=>exact h1.elim
      |some g0=>exact jC (P:=P) (w:=w) hl h1 h (aaV _) _
    refine⟨?_,i0.2,h0.2,aaV _,λ_=>rfl⟩;simp only[Instr.sliceBounds,abh,abH,abd];cases b0 <;>cases a0 <;>simp_all
theorem bw{a:Addr}(H:a.spot=none)(n:Nat):a.add n=⟨a.block,a.off+n,none⟩:=by have⟨b,o,s⟩:=a;subst H;rw[dS]
theorem pQ(a:Addr)(n:Nat):(a.add n).block=a.block/\(a.add n).off=a.off+n:=by
 unfold Addr.add
 grind
theorem fm{t e:TypeId}{H:TypeInfo}{a:Option Addr}{n c l h k:Nat}{lo hi mx:Option aes}(hu:P.underlying t=some (.slice e))(he:P.info? e=some H)
  (hb:(Instr.sliceBounds true n c lo hi mx).run P w=.ok (l,h,k) w):(Instr.sliceAt t (.slice a n c) lo hi mx).run P w=.ok (.slice (if k=l then a else a.map (·.add (l*H.size))) (h-l) (k-l)) w:=by simp only[Instr.sliceAt,Instr.slice,abh,aa9 hu,abd,hb,run_sizeOf he,abH]
theorem CX(hE:E.OK P)(hs:fK P σ m w){t:TypeId}{x x' v:aes}{lo hi mx m0 n0 mx':Option aes}(h:slice? E m t x lo hi mx=some v)(hx:bK σ x x')(h1:zu σ lo m0)(h2:zu σ hi n0)(h3:zu σ mx mx'):
  ∃v',(Instr.sliceAt t x' m0 n0 mx').run P w=.ok v' w/\bK σ v v':=by
 unfold slice? at h;split at h;·cases h
 rename_i ti B0;have⟨i,u,f⟩:=hE.rM B0;split at h
 ·rename_i s hd;rw[f.d]at hd;obtain rfl:=jx hd;rw[hx.string];split at h
  ·rename_i l hh _ hb
   cases h
   cases mx' with
   |some _=>exact h3.elim
   |none=>obtain⟨r,_⟩:=fh (P:=P) (w:=w) hb h1 h2 (mx':=none) trivial (aaV _) false s.size (aaV _);refine⟨.string (s.extract l hh),?_,.flat _ rfl⟩;simp[Instr.sliceAt,Instr.slice,aa9 f.gU,r]
  cases h
 ·rename_i e hd;rw[f.d]at hd;obtain rfl:=fS hd;rw[hx.bT rfl];split at h
  ·rename_i p hb
   have⟨l,hh,k⟩:=p
   cases hz:Nat.beq ti.es 0 with
   |true=>rw[hz]at h;simp at h
   |false=>
    rw[hz]at h;simp only[abf,aa7]at h;subst h;obtain⟨ei,g0,o0⟩:=ru (P:=P) (u:=.slice e) (by rw[<-f.es];exact abU hz) (.inl rfl);obtain⟨r,q1,q2,q3,_⟩:=fh (P:=P) (w:=w) hb h1 h2 h3 (aaV _) true 0 (aaV _);obtain rfl:k=0:=by omega
    obtain rfl:hh=0:=by omega
    obtain rfl:l=0:=by omega
    have r':(Instr.sliceBounds true 0 0 m0 n0 mx').run P w=.ok (0,0,0) w:=by simpa using r
    refine⟨aew,?_,.flat _ rfl⟩;rw[fm f.gU g0 r'];rfl
  cases h
 ·rename_i e a n c hd;rw[f.d]at hd;obtain rfl:=fS hd;split at h
  ·rename_i l hh k cs te g hb hg
   cases hz:(Nat.beq ti.es 0 || !(Nat.ble n c))with
   |true=>rw[hz]at h;simp at h
   |false=>
    rw[hz]at h
    simp only[acm,abj]at hz
    have p0:=abz hz.2
    have q0:=abU hz.1
    obtain⟨ei,g0,o0⟩:=ru (P:=P) (u:=.slice e) (by rw[<-f.es];exact q0) (.inl rfl)
    have j0:ti.es=ei.size:=by rw[f.es,o0]
    simp only[abf]at h
    obtain⟨bi,a',c',b0,rfl,i0⟩:=hx.eG
    have⟨row,G0,hlen,_,u0⟩:=hs.cells b0 hg
    cases g with
    |none=>
     have⟨a0,H0⟩:=u0;simp only[aa7]at h;subst h;rcases i0 with⟨d0,rfl,r0⟩ |⟨_,_,k0,sz,N,v0,_⟩
     ·rcases r0 with⟨_,rfl⟩ |⟨k0,sz,N,v0,_⟩
      ·obtain⟨r,q1,q2,q3,q4⟩:=fh (P:=P) (w:=w) hb h1 h2 h3 p0 true c' (aaV _)
       have r':(Instr.sliceBounds true n c' m0 n0 mx').run P w=.ok (l,hh,k) w:=by
        rw[r];cases mx with
        |none=>simp[q4 rfl]
        |some _=>simp
       refine⟨_,fm f.gU g0 r',?_⟩;by_cases H:k=l
       ·subst H;simp only[ack,cond_true,acZ];exact .slice a bi _ _ b0 d0 a0
       have:Nat.beq k l=false:=by
        cases hq:Nat.beq k l with
        |true=>exact absurd (aba hq) H
        |false=>rfl
       rw[this,aa4 H];simp only[abf,aa8,dS,bw d0];rw[j0];exact .slice ⟨a.block,a.off+l*ei.size,none⟩ bi _ _ b0 rfl a0
      ·grind
     ·grind
    |some k0=>
     have⟨a0,v0,I0⟩:=u0
     dsimp only at h
     cases hq:Nat.beq k0 ti.es with
     |false=>rw[hq]at h;simp at h
     |true=>
      rw[hq]at h;have z0:=aba hq;simp only[cond_true,aa7]at h;subst h
      have hD:∀A:Addr,(if k=l/\¬(mx=none/\a.off+c*ti.es=cs.length)then a else a.add (l*ti.es))=A->
        (bif Nat.beq k l && !(mx.isNone && Nat.beq (a.off+c*ti.es) cs.length)then a else a.add (l*ti.es))=A:=by
       rintro A rfl
       by_cases c1:k=l
       ·by_cases c2:mx=none
        ·simp_all
        ·cases mx with
         |none=>exact absurd rfl c2
         |some _=>simp[c1]
       ·have:Nat.beq k l=false:=by
         cases C0:Nat.beq k l with
         |true=>exact absurd (aba C0) c1
         |false=>rfl
        simp[c1,this]
      rw[hD _ rfl];rcases i0 with⟨d0,rfl,r0⟩ |⟨rfl,rfl,k1,sz,N,s0,J0⟩
      ·rcases r0 with⟨K0,_⟩ |⟨k1,sz,N,s0,D0⟩
       ·grind
       rw[a0]at s0;obtain⟨rfl,rfl,rfl⟩:=s0
       have A0:c<=c':=by
        grind
       have⟨r,q1,q2,q3,q4⟩:=fh (P:=P) (w:=w) hb h1 h2 h3 p0 true c' A0;refine⟨_,fm f.gU g0 r,?_⟩;have E0:mx=none\/∃y,mx=some y:=by cases mx <;>simp
       rcases E0 with rfl |⟨y,rfl⟩
       ·obtain rfl:=q4 rfl;simp only[aei,acZ,true_and];by_cases l0:a.off+k*ti.es=cs.length
        ·rw[aa4 (by simp[l0])];by_cases H:k=l
         ·subst H;obtain rfl:hh=k:=by omega
          simp only[aeo];have⟨b1,b2⟩:=pQ a (hh*ti.es);by_cases y0:c'=hh
          ·rw[aa5 y0];exact .empty _ _ bi _ k0 _ _ (by rw[b1];exact b0) a0 (by rw[b2];exact l0)
          rw[aa4 y0];exact .empty _ _ bi _ k0 _ _ (by rw[b1];exact b0) a0 (by rw[b2];exact l0)
         rw[aa4 (by omega),bw d0,<-j0];simp only[aa8,dS];refine .gX ⟨a.block,a.off+l*ti.es,none⟩ bi _ _ _ k0 _ _ b0 rfl a0 ?_;rcases D0 with rfl |⟨e0,e1,e2⟩;·exact .inl rfl
         refine .inr ⟨by omega,?_,?_⟩
         ·dsimp only;rw[<-z0,acy,Nat.add_assoc,aef (abC _ (by omega))];exact e1
         dsimp only;rw[<-z0,acy,Nat.add_assoc,aef (abC _ (by omega))];exact e2
        have y0:c'=k:=by
         grind
        subst y0;simp only[l0,not_false_eq_true,and_true];by_cases H:c'=l
        ·rw[aa5 H,aa5 H];exact .gX a bi _ _ _ k0 _ _ b0 d0 a0 (.inl rfl)
        rw[aa4 H,aa4 H,bw d0,<-j0];simp only[aa8,dS];exact .gX ⟨a.block,a.off+l*ti.es,none⟩ bi _ _ _ k0 _ _ b0 rfl a0 (.inl rfl)
       simp only[adR,adO,if_false,reduceCtorEq,false_and,not_false_eq_true,and_true];by_cases H:k=l
       ·rw[aa5 H,aa5 H];exact .gX a bi _ _ _ k0 _ _ b0 d0 a0 (.inl rfl)
       rw[aa4 H,aa4 H,bw d0,<-j0];simp only[aa8,dS];exact .gX ⟨a.block,a.off+l*ti.es,none⟩ bi _ _ _ k0 _ _ b0 rfl a0 (.inl rfl)
      rw[a0]at s0;obtain⟨rfl,rfl,rfl⟩:=s0;obtain⟨r,q1,q2,q3,q4⟩:=fh (P:=P) (w:=w) hb h1 h2 h3 p0 true c' (aa6 _);obtain rfl:k=0:=by omega
      obtain rfl:hh=0:=by omega
      obtain rfl:l=0:=by omega
      refine⟨_,fm f.gU g0 r,?_⟩;have⟨b1,b2⟩:=pQ a (0*ti.es)
      have hA:σ (if 0=0/\¬(mx=none/\a.off+0*ti.es=cs.length)then a else a.add (0*ti.es)).block=some bi/\(if 0=0/\¬(mx=none/\a.off+0*ti.es=cs.length)then a else a.add (0*ti.es)).off=cs.length:=by
       grind
      have hR:∃a2,(if(if mx.isNone then c' else 0)=0 then some a' else(some a').map (·.add (0*ei.size)))=some a2:=by
       grind
      have⟨a2,F0⟩:=hR;rw[F0];exact .empty _ _ bi _ k0 _ _ hA.1 a0 hA.2
  ·rename_i l hh k cs hb hg
   cases hz:(Nat.beq ti.es 0 || !(Nat.ble n c))with
   |true=>rw[hz]at h;simp at h
   |false=>
    rw[hz]at h;simp only[acm,abj]at hz;have p0:=abz hz.2;have q0:=abU hz.1;obtain⟨ei,g0,o0⟩:=ru (P:=P) (u:=.slice e) (by rw[<-f.es];exact q0) (.inl rfl);have j0:ti.es=ei.size:=by rw[f.es,o0]
    simp only[abf,aa7]at h;subst h;obtain⟨bi,a',c',b0,rfl,i0⟩:=hx.eG
    have a0:bi.gr=none:=by have:=hs.obj _ _ b0;rw[hg]at this;exact this.1
    rcases i0 with⟨d0,rfl,r0⟩ |⟨_,_,k0,sz,N,v0,_⟩
    ·rcases r0 with⟨_,rfl⟩ |⟨k0,sz,N,v0,_⟩
     ·obtain⟨r,q1,q2,q3,q4⟩:=fh (P:=P) (w:=w) hb h1 h2 h3 p0 true c' (aaV _)
      have r':(Instr.sliceBounds true n c' m0 n0 mx').run P w=.ok (l,hh,k) w:=by
       rw[r];cases mx with
       |none=>simp[q4 rfl]
       |some _=>simp
      refine⟨_,fm f.gU g0 r',?_⟩;by_cases H:k=l
      ·subst H;simp only[ack,cond_true,acZ];exact .slice a bi _ _ b0 d0 a0
      have:Nat.beq k l=false:=by
       cases hq:Nat.beq k l with
       |true=>exact absurd (aba hq) H
       |false=>rfl
      rw[this,aa4 H];simp only[abf,aa8,dS,bw d0];rw[j0];exact .slice ⟨a.block,a.off+l*ei.size,none⟩ bi _ _ b0 rfl a0
     ·grind
    ·grind
  cases h
 ·rename_i n e a hd;rw[f.d]at hd;obtain rfl:=iT hd;split at h
  ·rename_i l hh k hb
   cases hz:(CY m a ||Nat.beq ti.es 0)with
   |true=>rw[hz]at h;simp at h
   |false=>
    rw[hz]at h;simp only[abf,aa7]at h;subst h;simp only[acm]at hz;obtain⟨ei,g0,o0⟩:=ru (P:=P) (u:=.array n e) (by rw[<-f.es];exact abU hz.2) (.inr ⟨n,rfl⟩);have j0:ti.es=ei.size:=by rw[f.es,o0]
    obtain⟨bi,b0,d0,rfl⟩:=hx.iC
    have a0:bi.gr=none:=by
     have h0:=hz.1;unfold CY at h0;split at h0
     ·rename_i cs te hg;have⟨_,_,_,_,u0⟩:=hs.cells b0 hg;exact u0.1
     cases h0
    obtain⟨r,q1,q2,q3,q4⟩:=fh (P:=P) (w:=w) hb h1 h2 h3 (aaV _) false n (aaV _)
    have r':(Instr.sliceBounds false n n m0 n0 mx').run P w=.ok (l,hh,k) w:=by
     rw[r];cases mx with
     |none=>simp[q4 rfl]
     |some _=>simp
    refine⟨.slice (some (if k=l then⟨bi.cX,a.off,none⟩else(⟨bi.cX,a.off,none⟩:Addr).add (l*ei.size))) (hh-l) (k-l),by simp only[Instr.sliceAt,abh,aa9 f.gU,abd,Instr.sureAddr,abH,r',run_sizeOf g0],?_⟩;by_cases H:k=l
    ·subst H;simp only[ack,cond_true,acZ];exact .slice a bi _ _ b0 d0 a0
    have:Nat.beq k l=false:=by
     cases hq:Nat.beq k l with
     |true=>exact absurd (aba hq) H
     |false=>rfl
    rw[this,aa4 H];simp only[abf,dS,bw d0];rw[j0];exact .slice ⟨a.block,a.off+l*ei.size,none⟩ bi _ _ b0 rfl a0
  cases h
 cases h
end
end
section
section
variable {E:Env} {P:Program} {σ:Sg} {m m':M} {w:World}
theorem kV{a b:Nat}(h:a≠b):Nat.beq a b=false:=by
 cases H:Nat.beq a b with
 |true=>exact absurd (aba H) h
 |false=>rfl
theorem bQ.M7{l:aet}(h:∀v∈l,bI v):bQ σ l l:=⟨rfl,λj u H a b=>by
 rw[a]at b;cases b
 exact .flat _ (h u (aa2 a))⟩
theorem vE(hs:fK P σ m w){s n:Nat}{x x':aes}{cs:aet}(h:first? m s n x=some cs)(hx:bK σ x x')(hn:∀l,lW x=some l->n<=l):
  ∃H:aet,(Builtin.firstCells s n x').run P w=.ok H.toArray w/\bQ σ cs H:=by
 unfold first? at h;split at h
 ·rename_i a len cap;obtain⟨bi,a',c',b0,rfl,a0⟩:=hx.eG;by_cases h0:n=0
  ·subst h0;simp only[ack,cond_true,aa7]at h;subst h;refine⟨[],?_,bQ.nil⟩;have:=run_loadCells_list (P:=P) w a' [] (by simp);simpa[Builtin.firstCells]using this
  rw[kV h0]at h;simp only[abf]at h;rcases a0 with⟨d0,rfl,_⟩ |⟨rfl,_,_⟩
  ·have⟨H,h1,h2,_,_⟩:=jK hs b0 h;exact⟨H,by simpa[Builtin.firstCells]using h1,h2⟩
  have:=hn 0 rfl;omega
 ·cases h;obtain⟨_,_,rfl⟩:=hx.iO;exact⟨[],by simp[Builtin.firstCells],bQ.nil⟩
 ·rename_i b;cases h;rw[hx.string];refine⟨((b.extract 0 n).data.toList.map λb=> .int .u8 b.toNat),?_,bQ.M7 ?_⟩
  ·simp only[Builtin.firstCells,abH]
   congr 1
   grind
  intro v hv;obtain⟨b,_,rfl⟩:=abF.1 hv;rfl
 cases h
theorem BQ{x H:aes}{n:Nat}(h:lW x=some n)(hx:bK σ x H):(Builtin.lenOf H).run P w=.ok n w:=by
 unfold lW at h;split at h
 ·cases h;obtain⟨b',c',rfl,_⟩:=hx.tO;rfl
 ·cases h;rw[hx.string];rfl
 cases h
theorem iA{t u ty e:TypeId}{i:TypeInfo}{uu:TypeDesc}(ht:P.underlying t=some (.slice e))(hi:P.info? e=some i)(hu:P.underlying u=some uu)(a0:∀k,uu≠.int k)
  {base:Option Addr} {sl sc n:Nat} {x:aes} {new:aet} {w':World} (hl:(Builtin.lenOf x).run P w=.ok n w) (hf:(Builtin.firstCells i.size n x).run P w=.ok new.toArray w) (hle:sl+n<=sc)
  (H:(match base with |some a=>Go.storeCells (a.add (sl*i.size)) new |none=>pure ()).run P w=.ok () w'):
  (Builtin.append_ #[t,u] ty #[.slice base sl sc,x]).run P w=.ok (.slice base (sl+n) sc) w':=by
 cases base with
 |none=>simp only[abH]at H;cases H;simp[Builtin.append_,aa9 ht,aa9 hu,run_sizeOf hi,hl,hf,hle]
 |some a=>simp only at H;simp[Builtin.append_,aa9 ht,aa9 hu,run_sizeOf hi,hl,hf,hle,H]
theorem yd{t u ty e:TypeId}{i:TypeInfo}{uu:TypeDesc}{z:aes}(ht:P.underlying t=some (.slice e))(hi:P.info? e=some i)(hu:P.underlying u=some uu)(e0:∀k,uu≠.int k)
  (hz:i.zero=some z) {base:Option Addr} {sl sc n:Nat} {x:aes} {eZ new:aet} (hl:(Builtin.lenOf x).run P w=.ok n w) (ho:(Builtin.firstCells i.size sl (.slice base sl sc)).run P w.drew=.ok eZ.toArray w.drew)
  (hf:(Builtin.firstCells i.size n x).run P w.drew=.ok new.toArray w.drew) (b0:sc < sl+n) (hb:i.bytes<=65536) (hn:sl+n<=268435456):
  ∃N,sl+n<=N/\(Builtin.append_ #[t,u] ty #[.slice base sl sc,x]).run P w=.ok (aer w.heap.size 0 (sl+n) N) (w.drew.alloc (.cells (eZ++new++(Builtin.zeroCells z.cells (N-(sl+n))).toList).toArray e)):=by
 refine⟨grownCap w (sl+n) sc e,grownCap_ge _ _ _ _,?_⟩
 have h1:¬(sl+n<=sc):=by omega
 have d0:=growslice_fits (bytes:=i.bytes) b0 (by
  calc (sl+n)*i.bytes<=268435456*65536:=ad9 hn hb
   _<=_:=by decide)
 have H:¬(281474976710656 < Builtin.nextslicecap (sl+n) sc*i.bytes):=by omega
 have a0:¬(9223372036854775807 < ((sl:Int)+(n:Int))):=by omega
 simp[Builtin.append_,aa9 ht,aa9 hu,sizeOf,typeInfo,zeroValue,hi,hz,hl,h1,H,a0,Question.forced,hf,ho,newRow,grownCap]
 congr 2
 grind
theorem AF(hs:fK P σ m w){eZ news H new' rest:aet}{e k sl n N:Nat}(h1:bQ σ eZ H)(h2:bQ σ news new')(l1:eZ.length=sl*k)(l2:news.length=n*k)(hk:0 < k)(hn:0 < sl+n)
  (hN:sl+n<=N) (lr:rest.length=(N-(sl+n))*k):
  Ev P σ m w (σ.add m.n ⟨w.heap.size,some (k,(sl+n)*k,N*k)⟩) (m.push (.cells (eZ++news) e (some k))) (w.drew.alloc (.cells (H++new'++rest).toArray e))/\
  bK (σ.add m.n ⟨w.heap.size,some (k,(sl+n)*k,N*k)⟩) (aer m.n 0 (sl+n) (sl+n)) (aer w.heap.size 0 (sl+n) N):=by
 have hlen:(eZ++news).length=(sl+n)*k:=by grind
 have a0:(H++new').length=(sl+n)*k:=by rw[<-hlen,(h1.append h2).1]
 have d0:((H++new'++rest).toArray).size=N*k:=by
  rw[acF,abq,a0,lr,<-abx]
  grind
 have g0:0 < (sl+n)*k:=Nat.mul_pos hn hk;have hle:(sl+n)*k<=N*k:=abC _ hN;have e0:fK P σ m w.drew:=hs.of_heap rfl
 have b0:=Hj (g:=some k) (e:=e) (c:=eZ++news) (c':=(H++new'++rest).toArray) e0 (by grind) (by
  rw[hlen,<-a0];simp only[adK];exact h1.append h2) (by
  refine⟨?_,hk,by grind⟩;rfl)
 have he:TF (eZ++news).length ((H++new'++rest).toArray).size (some k)=some (k,(sl+n)*k,N*k):=by rw[hlen,d0];rfl
 rw[he]at b0;refine⟨(Ev.of_heap hs rfl rfl rfl rfl:Ev P σ m w σ m w.drew).trans b0,?_⟩;exact .gX ⟨m.n,0,none⟩ ⟨w.heap.size,_⟩ _ _ _ k ((sl+n)*k) (N*k) (Sg.add_same _ _) rfl rfl (.inr ⟨hN,by simp,by simp⟩)
theorem Cz(hE:E.OK P)(hs:fK P σ m w){t u ty:TypeId}{s x s' x' v:aes}(h:dR E m t u s x=some (v,m'))(hx:bK σ s s')(hy:bK σ x x'):
  KC P σ m w (Builtin.append_ #[t,u] ty #[s',x']) v m':=by
 unfold dR at h;split at h
 ·rename_i ti ui base sl sc n y1 z1 d1;have⟨i,ut,f⟩:=hE.rM y1;have⟨iu,uu,fu⟩:=hE.rM z1;split at h;·cases h
  ·rename_i e hd A1;rw[f.d]at hd;obtain rfl:=fS hd
   have g0:∀k,uu≠.int k:=by rintro k rfl;exact A1 k fu.d
   split at h
   ·rename_i ei news i1 B1
    have⟨ie,ue,fe⟩:=hE.rM i1
    have i0:ti.es=ie.size:=by rw[f.es];simp[yT,fe.info]
    cases hb:(Nat.beq ti.es 0 ||Nat.blt 65536 ei.bytes || !news.all one ||Nat.blt 268435456 (sl+n) || !Nat.beq news.length (n*ti.es) || !gj ei.zero ti.es)with
    |true=>rw[hb]at h;simp at h
    |false=>
     rw[hb]at h
     simp only[abf]at h
     simp only[acm,abj]at hb
     have⟨⟨⟨⟨⟨b1,b2⟩,b3⟩,b4⟩,b5⟩,b6⟩:=hb
     have P1:=abU b1
     have C1:ie.bytes<=65536:=by rw[nP]at b2;have:=fe.bytes;simp at b2;omega
     have N0:sl+n<=268435456:=by rw[nP]at b4;simp at b4;omega
     have q0:=aba b5
     obtain⟨z,hz,D1⟩:∃z,ie.zero=some z/\z.cells.size=ie.size:=by
      cases D0:ei.zero with
      |none=>rw[D0]at b6;simp[gj]at b6
      |some z=>rw[D0]at b6;have:=aba b6;have E1:=(bK.kT (σ:=σ) (hE.flat i1 D0)).cells.1;refine⟨z,by rw[<-fe.zero];exact D0,?_⟩;simp only[abI]at E1;omega
     have r0:=λw=>BQ (P:=P) (w:=w) d1 hy
     have b0:=λ(w:World) (hs:fK P σ m w)=>vE (P:=P) hs B1 hy (λl hl=>by rw[d1]at hl;cases hl;exact aaV _)
     rw[i0]at b0 q0
     cases j0:Nat.ble (sl+n) sc with
     |true=>
      rw[j0]at h
      have hle:=abz j0
      simp only[cond_true]at h
      have⟨H,n0,l0⟩:=b0 w hs
      cases base with
      |none=>
       obtain⟨rfl,rfl,rfl⟩:=hx.iO;simp only at h;obtain rfl:n=0:=by omega
       simp only[ack,cond_true,aa7,abY]at h;obtain⟨rfl,rfl⟩:=h;refine KC.pure hs (iA f.gU fe.info fu.gU g0 (base:=none) (r0 w) n0 (aaV _) rfl) (.flat _ rfl)
      |some a=>
       obtain⟨bi,a',c',m0,rfl,d0⟩:=hx.eG;by_cases h0:n=0
       ·subst h0;simp only[ack,cond_true,aa8,aa7,abY]at h;obtain⟨rfl,rfl⟩:=h
        have j1:H=[]:=by have:=l0.1;rw[q0]at this;simpa using this.symm
        subst j1
        have s0:sl+0<=c':=by rcases d0 with⟨_,_,⟨_,rfl⟩ |⟨k,sz,N,hk,rfl |⟨e0,e1,e2⟩⟩⟩ |⟨rfl,_⟩ <;>omega
        refine KC.pure hs (iA f.gU fe.info fu.gU g0 (base:=some a') (r0 w) n0 s0 rfl) hx
       rw[kV h0]at h;simp only[abf,abl,abY]at h;obtain⟨m2,u0,rfl,rfl⟩:=h;rcases d0 with⟨E0,rfl,p0⟩ |⟨rfl,rfl,_⟩
       ·have s0:sl+n<=c':=by rcases p0 with⟨_,rfl⟩ |⟨k,sz,N,hk,rfl |⟨e0,e1,e2⟩⟩ <;>omega
        rw[bw E0,i0]at u0;have⟨w',F1,G1,_⟩:=mF (a:=⟨a.block,a.off+sl*ie.size,none⟩) hs m0 l0 u0;refine⟨σ,w',_,iA f.gU fe.info fu.gU g0 (base:=some ⟨bi.cX,a.off,none⟩) (r0 w) n0 s0 (by simp only[dS];exact F1),?_,G1⟩;rcases p0 with⟨hg,rfl⟩ |⟨k,sz,N,hk,hc⟩;·exact .slice a bi _ _ m0 E0 hg
        exact .gX a bi _ _ _ k sz N m0 E0 hk hc
       omega
     |false=>
      rw[j0]at h
      have H1:sc < sl+n:=by
       rcases aen sc (sl+n)with hh |hh;·exact hh
       rw[abO hh]at j0;cases j0
      simp only[abf]at h;have O0:0 < ti.es:=by omega
      have fresh:∀(m1:M) (o0:Option Addr) (c':Nat) (eZ a0:aet),Ev P σ m w σ m1 w->m1.n=m.n->
        (Builtin.firstCells ie.size sl (.slice o0 sl c')).run P w.drew=.ok a0.toArray w.drew->bQ σ eZ a0->eZ.length=sl*ti.es->c' < sl+n->
        s'=.slice o0 sl c'->v=aer m.n 0 (sl+n) (sl+n)->m'=m1.push (.cells (eZ++news) e (some ti.es))->KC P σ m w (Builtin.append_ #[t,u] ty #[s',x']) v m':=by
       rintro m1 o0 c' eZ a0 he I1 ho F0 v0 hc rfl rfl rfl
       obtain⟨H,n0,l0⟩:=b0 w.drew (hs.of_heap rfl)
       have⟨N,hN,y0⟩:=yd (ty:=ty) f.gU fe.info fu.gU g0 hz (r0 w) ho n0 hc C1 N0
       obtain⟨g1,g2⟩:=AF (e:=e) (rest:=(Builtin.zeroCells z.cells (N-(sl+n))).toList) he.tS F0 l0 v0 (by rw[q0,i0]) O0 (by omega) hN (by rw[abI,size_zeroCells,D1,i0])
       refine⟨_,_,_,y0,?_,he.trans g1⟩
       rw[I1]at g2⊢
       exact g2
      unfold lX at h;split at h
      ·cases hq:(Nat.beq sl 0 && Nat.beq sc 0)with
       |false=>rw[hq]at h;simp at h
       |true=>rw[hq]at h;simp only[cond_true,aa7,abY]at h;simp only[aa3]at hq;obtain rfl:=aba hq.1;obtain rfl:=aba hq.2;obtain⟨rfl,rfl⟩:=h;refine fresh m none 0 [] [] (Ev.refl hs) rfl (by simp[Builtin.firstCells]) bQ.nil (by simp) H1 (hx.bT rfl) rfl rfl
      rename_i a;have⟨bi,a',c',m0,G0,d0⟩:=hx.eG;split at h
      ·rename_i cs te g eZ hg hold
       have⟨row,I0,hlen,J1,P0⟩:=hs.cells m0 hg
       have K1:∀w1,fK P σ m w1->∃a0,(Builtin.firstCells ie.size sl (.slice (some a') sl c')).run P w1=.ok (a0:aet).toArray w1/\bQ σ eZ a0:=by intro w1 h1;have z0:first? m ti.es sl (.slice (some a) sl sc)=some eZ:=hold;have:=vE (P:=P) h1 z0 hx (λl hl=>by cases hl;exact aaV _);rw[G0,i0]at this;exact this
       have v0:eZ.length=sl*ti.es:=by
        by_cases h0:sl=0
        ·subst h0;simp only[ack,cond_true,aa7]at hold;subst hold;simp
        rw[kV h0]at hold;simp only[abf]at hold;have⟨_,_,_,hl,_⟩:=jK hs m0 hold;exact hl
       obtain⟨a0,J0,F0⟩:=K1 w.drew (hs.of_heap rfl)
       cases hq:(g.isNone ||(g==some ti.es && Nat.blt (a.off+sc*ti.es) cs.length))with
       |true=>
        rw[hq]at h
        simp only[cond_true,aa7,abY]at h
        obtain⟨rfl,rfl⟩:=h
        refine fresh m (some a') c' eZ a0 (Ev.refl hs) rfl J0 F0 v0 ?_ G0 rfl rfl
        cases g with
        |none=>
         have S0:=P0.1
         grind
        |some k0=>
         have⟨A0,k1,l1⟩:=P0
         simp only[adR,ac0,aa3,beq_iff_eq,aa7]at hq
         obtain⟨rfl,hq⟩:=hq
         rw[nP]at hq
         grind
       |false=>
        rw[hq]at h
        simp only[abf]at h
        cases H0:(g==some ti.es && Nat.beq a.off 0 && a.spot.isNone && Nat.beq (sl*ti.es) cs.length && Nat.beq sc sl && Nat.beq te e)with
        |false=>rw[H0]at h;simp at h
        |true=>
         rw[H0]at h;simp only[cond_true,aa7,abY]at h;obtain⟨rfl,rfl⟩:=h;simp only[aa3]at H0;have⟨⟨⟨⟨⟨q1,q2⟩,q3⟩,q4⟩,q5⟩,q6⟩:=H0;obtain rfl:=aba q6;have q1:g=some ti.es:=by simpa using q1
         subst q1;have q2:=aba q2;have q4:=aba q4;obtain rfl:=aba q5;have⟨A0,k1,l1⟩:=P0;have B0:m.get a.block≠.dead:=by rw[hg];simp
         by_cases L1:c' < sc+n
         ·have hw:=Ev.write (w':=w) (ob:=.dead) hs m0 B0 trivial (λ_ _=>rfl) rfl rfl rfl rfl;exact fresh _ (some a') c' eZ a0 hw rfl J0 F0 v0 L1 G0 rfl rfl
         ·
          have N1:sc≠0:=by rintro rfl;simp at q4;omega
          rcases d0 with⟨E0,rfl,p0⟩ |⟨rfl,_⟩
          ·rcases p0 with⟨S0,_⟩ |⟨k,sz,N,hk,p0⟩;·rw[A0]at S0;cases S0
           rw[A0]at hk;simp only[aa7,abY]at hk;obtain⟨rfl,rfl,rfl⟩:=hk;rcases p0 with rfl |⟨e0,e1,e2⟩;·omega
           have⟨H,n0,l0⟩:=b0 w hs
           have a1:eZ=cs:=by
            rw[kV N1]at hold
            simp only[abf]at hold
            unfold loadCells at hold
            rw[hg]at hold
            simp only[q2,abA,q4,abM,abD]at hold
            cases o1:(a.spot.isNone && Nat.ble cs.length cs.length)with
            |false=>rw[o1]at hold;simp at hold
            |true=>rw[o1]at hold;simpa using hold.symm
           subst a1;have K0:H.length=n*ti.es:=by rw[<-l0.1,q0,i0]
           have C0:(sc+n)*ti.es<=row.size:=by rw[<-e2,q2,abA];exact abC _ (by omega)
           rw[abx]at C0;have p1:=l0.ee b3;have u0:=run_storeCells_at (P:=P) bi.cX (sc*ti.es) te H 0 row w I0 (by omega) p1;simp only[acO]at u0
           have r1:(row.toList.take (sc*ti.es)++H).length=(sc+n)*ti.es:=by rw[abq,abP,K0,abx,abI];omega
           have u1:(row.toList.take (sc*ti.es)++H++row.toList.drop (sc*ti.es+H.length)).length=row.size:=by rw[abq,r1,acq,K0,abI,abx];omega
           have c1:(eZ++news).length=(sc+n)*ti.es:=by rw[abq,v0,q0,<-i0,abx]
           have v1:bQ σ (eZ++news) (row.toList.take (sc*ti.es)++H):=by rw[q4];exact J1.append l0
           have O1:=Ev.MJ (ob:=.cells (eZ++news) te (some ti.es)) (gr:=some (ti.es,(sc+n)*ti.es,row.size)) (w':=w.setRow bi.cX (row.toList.take (sc*ti.es)++H++row.toList.drop (sc*ti.es+H.length)).toArray) hs m0 B0
            (by
             refine⟨_,setRow_heap w bi.cX row _ te _ I0,?_,?_,?_⟩;·rw[c1,acF,u1,abx];exact C0
             ·rw[c1,<-r1];simp only[adK];exact v1.mono (Sg.uA hs.kB)
             have L0:=u1;rw[<-acF]at L0;rw[c1,L0];exact⟨rfl,O0,Nat.mul_pos (by omega) O0⟩)
            (λB hB=>by simp only[World.setRow,acY];rw[aa4 (λe=>hB e.symm)])
            (by simp[World.setRow]) rfl rfl rfl
           have y0:=iA (ty:=ty) f.gU fe.info fu.gU g0 (base:=some ⟨bi.cX,a.off,none⟩) (r0 w) n0 (show sc+n<=c' by omega) (by simp only[dS,q2,abA,<-i0];exact u0)
           rw[G0];refine⟨_,_,_,y0,?_,O1⟩;rw[q2];exact .gX ⟨m.n,0,none⟩ ⟨bi.cX,some (ti.es,(sc+n)*ti.es,row.size)⟩ _ _ _ ti.es ((sc+n)*ti.es) row.size (Sg.add_same _ _) rfl rfl (.inr ⟨by omega,by simp,by rw[<-e2,q2]⟩)
          ·omega
      cases h
   cases h
  cases h
 cases h
end
end
section
section
variable {E:Env} {P:Program} {σ:Sg} {m m':M} {w:World}
theorem Jv(hE:E.OK P)(hs:fK P σ m w){t ty:TypeId}{x x' v:aes}(h:vV E m t x=some v)(hx:bK σ x x'):(Builtin.len_ #[t] ty #[x']).run P w=.ok v w/\bI v:=by
 unfold vV at h;split at h;·cases h
 rename_i ti a0;have⟨i,u,f⟩:=hE.rM a0;split at h
 ·rename_i s H;rw[f.d]at H;obtain rfl:=jx H;cases h;rw[hx.string];exact⟨by simp[Builtin.len_,aa9 f.gU,goInt],rfl⟩
 ·rename_i n e H;rw[f.d]at H;obtain rfl:=iT H;cases h;exact⟨by simp[Builtin.len_,aa9 f.gU,goInt],rfl⟩
 ·rename_i e b n c H;rw[f.d]at H;obtain rfl:=fS H;cases h;obtain⟨b',c',rfl,_⟩:=hx.tO;exact⟨by simp[Builtin.len_,aa9 f.gU,goInt],rfl⟩
 ·rename_i k e H;rw[f.d]at H;obtain rfl:=mT H;cases h;rw[hx.map_nil];exact⟨by simp[Builtin.len_,aa9 f.gU,goInt],rfl⟩
 ·rename_i k e r H;rw[f.d]at H;obtain rfl:=mT H;split at h
  ·rename_i es clock hg;cases h;obtain⟨bi,b0,rfl⟩:=hx.sM;have ho:=hs.obj _ _ b0;rw[hg]at ho;have⟨_,d0,h1,h2,_⟩:=ho;refine⟨?_,rfl⟩;have e0:(getObj bi.cX).run P w=.ok (.map d0 clock) w:=by simp[getObj,Sem.run,h1]
   simp[Builtin.len_,aa9 f.gU,e0,goInt,h2]
  cases h
 cases h
theorem vD{g:Int->Int->Int}{op:aes->aes->Sem aes}(a0:∀k x k' y,(op (.int k x) (.int k' y)).run P w=.ok (.int k (g x y)) w):
  ∀(l H:aet) (k:IntKind) (x:Int) (v:aes),bQ σ l H->DZ g k x l=some v->(H.foldlM op (.int k x)).run P w=.ok v w/\bI v=true
 |[],H,k,x,v,hl,h=>by
  obtain rfl:=hl.nil_eq
  simp only[DZ,aa7]at h
  subst h
  exact⟨rfl,rfl⟩
 |y::l,H,k,x,v,hl,h=>by
  unfold DZ at h
  split at h
  ·grind
  ·rename_i k' y' rest heq
   cases heq
   obtain⟨v',l2,rfl,hv,b0⟩:=hl.cases
   rw[hv.int]
   obtain⟨h1,h2⟩:=vD a0 _ _ _ _ _ b0 h
   simp_all
  ·cases h
theorem py{g:Int->Int->Int}{op:aes->aes->Sem aes}(H:∀k x k' y,(op (.int k x) (.int k' y)).run P w=.ok (.int k (g x y)) w){l l':aet}{v:aes}(hl:bQ σ l l')(h:fw g l=some v):
  ∃x rest,l'=x::rest/\(rest.foldlM op x).run P w=.ok v w/\bI v:=by
 unfold fw at h;split at h
 ·obtain⟨v',l2,rfl,hv,a0⟩:=hl.cases;rw[hv.int];exact⟨_,_,rfl,vD H _ _ _ _ _ a0 h⟩
 cases h
theorem zH(H:fK P σ m w)(t:TypeId):KC P σ m w (Instr.makeMap t none) (.map (some m.n)) (m.push (.map [] 0)):=by
 refine⟨σ.add m.n ⟨w.heap.size,none⟩,w.alloc (.map #[] 0),.map (some w.heap.size),?_,.map _ ⟨w.heap.size,none⟩ (Sg.add_same _ _),?_⟩;·simp[Instr.makeMap]
 exact Ev.uk H ⟨rfl, #[],heap_alloc_new w _,rfl,by grind⟩
theorem rh{H:TypeId}{k:aes}(h:keyed E H k):dw k:=by
 unfold keyed at h;split at h
 ·split at h;·rfl
  ·rfl
  ·rfl
  ·simp only[aa3]at h;exact h.1.2
  cases h
 cases h
theorem bK.lZ{v v':aes}(h:bK σ v v')(h0:dw v):v'=v:=by
 by_cases hc:bI v=true;·exact h.bT hc
 ·cases v with
  |agg a=>
   obtain⟨a',rfl,ha⟩:=h.mg
   congr 1
   apply ac7
   apply ab9
   intro j
   cases H:a.toList[j]? with
   |none=>exact ab5 (by rw[<-ha.1];exact adq.1 H)
   |some u=>have⟨u',hu,hr⟩:=ha.get H;rw[hu,hr.bT (aby.1 h0 u (aa2 H))]
  |_=>exact absurd h0 hc
theorem EU(hE:E.OK P){t:TypeId}(h:scalar E t):∃u,P.underlying t=some u/\(u=.bool\/(∃k,u=.int k)\/u=.string):=by
 unfold scalar at h;split at h
 ·rename_i fi a0;have⟨i,u,f⟩:=hE.rM a0;refine⟨u,f.gU,?_⟩;split at h;·rename_i H;exact .inl (qd (by rw[<-f.d];exact H))
  ·rename_i k H;exact .inr (.inl ⟨k,ph (by rw[<-f.d];exact H)⟩)
  ·rename_i H;exact .inr (.inr (jx (by rw[<-f.d];exact H)))
  cases h
 cases h
theorem qH(hE:E.OK P)(e:Bool)(n:Nat)(cs:Array aes):∀gs:List Field,(∀g∈gs,g.offset < cs.toList.length/\scalar E g.type)->
  (forIn (m:=Sem) gs PUnit.unit λf _=>
   if f.name≠ "_" then do
    let x<-Go.part f.type cs f.offset
    Instr.checkKey e (n+1) f.type x
    pure (ForInStep.yield PUnit.unit)
   else pure (ForInStep.yield PUnit.unit)).run P w=.ok PUnit.unit w
 |[],_=>rfl
 |g::gs,h=>by
  have⟨h1,h2⟩:=h g abT
  have⟨u,hu,H⟩:=EU hE h2
  have ih:=qH hE e n cs gs (λg hg=>h g (abS _ hg))
  have hp:(Go.part g.type cs g.offset).run P w=.ok cs[g.offset]! w:=by
   unfold Go.part
   have h3:g.offset < cs.size:=by grind
   have ha:=sL (P:=P) u w g.type hu
   have a0:(hZ P u).agg=false:=by
    rcases H with rfl |⟨k,rfl⟩ |rfl <;>rfl
   simp_all
  have hk:∀v,(Instr.checkKey e (n+1) g.type v).run P w=.ok () w:=by
   intro v
   rcases H with rfl |⟨k,rfl⟩ |rfl <;>simp[Instr.checkKey,aa9 hu]
  simp_all
theorem pJ(hE:E.OK P){kt:TypeId}{k:aes}(h:keyed E kt k)(e:Bool)(n:Nat):(Instr.checkKey e (n+2) kt k).run P w=.ok () w:=by
 unfold keyed at h;split at h
 ·rename_i ti a0;have⟨i,u,f⟩:=hE.rM a0;split at h
  ·rename_i H;rw[f.d]at H;obtain rfl:=qd H;simp[Instr.checkKey,aa9 f.gU]
  ·rename_i H;rw[f.d]at H;obtain rfl:=ph H;simp[Instr.checkKey,aa9 f.gU]
  ·rename_i H;rw[f.d]at H;obtain rfl:=jx H;simp[Instr.checkKey,aa9 f.gU]
  ·rename_i fs cs H
   rw[f.d]at H
   obtain⟨gs,rfl,rfl⟩:=jw H
   simp only[aa3]at h
   have:=qH (w:=w) hE e n cs gs.toList (λg hg=>by have:=aby.1 h.2 _ (acH (f:=uq P) hg);simp only[aa3]at this;refine⟨?_,this.2⟩;have h2:=this.1.2;rw[nP]at h2;simpa[uq]using aa1 h2)
   rw[Array.forIn_toList]at this
   unfold Instr.checkKey
   simp only[abh,aa9 f.gU,abd]
   simp_all
  cases h
 cases h
def zx(σ:Sg)(es H:List MapEntry):Prop:=es.length=H.length/\∀(j:Nat) e e',es[j]?=some e->H[j]?=some e'->e'.key=e.key/\e'.born=e.born/\dw e.key=true/\bK σ e.val e'.val
theorem zx.tail{e e':MapEntry}{es H:List MapEntry}(h:zx σ (e::es) (e'::H)):zx σ es H:=
 ⟨by simpa using h.1,λj a b x y=>h.2 (j+1) a b (by grind) (by grind)⟩
theorem zx.cases{e:MapEntry}{es x:List MapEntry}(h:zx σ (e::es) x):∃e' H,x=e'::H/\zx σ es H/\e'.key=e.key/\dw e.key/\bK σ e.val e'.val:=by
 cases x with
 |nil=>have:=h.1;simp at this
 |cons e' H=>have⟨h1,_,h3,h4⟩:=h.2 0 e e' rfl rfl;exact⟨e',H,rfl,h.tail,h1,h3,h4⟩
def RU(σ:Sg):Option (Nat×aes)->Option (Nat×aes)->Prop
 |none,none=>True
 |some (i,v),some (j,H)=>i=j/\bK σ v H
 |_,_=>False
theorem qJ{kt:TypeId}{k:aes}{ti:TI}{u:TypeDesc}{it:TypeInfo}(b0:E.ty.get kt=some ti)(f:TIF P kt ti it u)(hu:u=.bool\/(∃k,u=.int k)\/u=.string):
  ∀(es H:List MapEntry) (i:Nat) (r:Option (Nat×aes)),zx σ es H->findKey E kt k es i=some r->∃r',Instr.findNow u k H i=some r'/\RU σ r r'
 |[],H,i,r,h,hf=>by
  have:H=[]:=acr h.1.symm
  subst this
  simp only[findKey,aa7]at hf
  subst hf
  exact⟨none,rfl,trivial⟩
 |e::es,x,i,r,h,hf=>by
  obtain⟨e',H,rfl,ht,hk,_,hv⟩:=h.cases
  unfold findKey at hf
  have a0:∀b,eq? E kt k e.key=some b->Instr.sameNow u k e.key=some b:=by
   intro b hb
   unfold eq? at hb
   rw[b0]at hb
   simp only[f.d]at hb
   rcases hu with rfl |⟨q,rfl⟩ |rfl
   ·simp only[hZ]at hb
    split at hb <;>simp_all [Instr.sameNow]
   ·simp only[hZ]at hb
    split at hb <;>simp_all [Instr.sameNow]
   ·simp only[hZ]at hb
    split at hb <;>simp_all [Instr.sameNow]
  cases hq:eq? E kt k e.key with
  |none=>rw[hq]at hf;cases hf
  |some b=>
   rw[hq]at hf
   have hn:=a0 b hq
   unfold Instr.findNow
   rw[hk,hn]
   cases b with
   |true=>
    simp only[aa7]at hf
    subst hf
    exact⟨_,rfl,rfl,hv⟩
   |false=>exact qJ b0 f hu es H (i+1) r ht hf
theorem mX(hE:E.OK P){kt:TypeId}{k:aes}(a0:dw k):
  ∀(es H:List MapEntry) (i:Nat) (r:Option (Nat×aes)),zx σ es H->findKey E kt k es i=some r->∃r',(Instr.findAsking kt k H i).run P w=.ok r' w/\RU σ r r'
 |[],H,i,r,h,hf=>by
  have:H=[]:=acr h.1.symm
  subst this
  simp only[findKey,aa7]at hf
  subst hf
  exact⟨none,rfl,trivial⟩
 |e::es,x,i,r,h,hf=>by
  obtain⟨e',H,rfl,ht,hk,b0,hv⟩:=h.cases
  unfold findKey at hf
  cases hq:eq? E kt k e.key with
  |none=>rw[hq]at hf;cases hf
  |some b=>
   rw[hq]at hf
   have he:=pH (w:=w) (σ:=σ) hE hq (bK.kU a0) (bK.kU b0)
   unfold Instr.findAsking
   rw[hk,abh,he,abd]
   cases b with
   |true=>
    simp only[aa7]at hf
    subst hf
    exact⟨_,rfl,rfl,hv⟩
   |false=>exact mX hE a0 es H (i+1) r ht hf
theorem qK(hE:E.OK P){kt:TypeId}{k:aes}(hk:keyed E kt k){es H:List MapEntry}{r:Option (Nat×aes)}(h:zx σ es H)(hf:findKey E kt k es 0=some r):
  ∃r',(Instr.findKey kt k H).run P w=.ok r' w/\RU σ r r':=by
 have d0:=hk;unfold keyed at hk;split at hk
 ·rename_i ti b0;have⟨i,u,f⟩:=hE.rM b0
  have a0:(u=.bool\/(∃k,u=.int k)\/u=.string)->∃r',(Instr.findKey kt k H).run P w=.ok r' w/\RU σ r r':=by intro hu;have⟨r',h1,h2⟩:=qJ b0 f hu es H 0 r h hf;exact⟨r',by simp[Instr.findKey,aa9 f.gU,h1],h2⟩
  split at hk
  ·rename_i hd;exact a0 (.inl (qd (by rw[<-f.d];exact hd)))
  ·rename_i hd;exact a0 (.inr (.inl ⟨_,ph (by rw[<-f.d];exact hd)⟩))
  ·rename_i hd;exact a0 (.inr (.inr (jx (by rw[<-f.d];exact hd))))
  ·rename_i fs cs hd
   rw[f.d]at hd
   obtain⟨gs,rfl,rfl⟩:=jw hd
   have⟨r',h1,h2⟩:=mX (w:=w) hE (rh d0) es H 0 r h hf
   refine⟨r',?_,h2⟩
   cases H with
   |nil=>
    have:r'=none:=by
     simp only[Instr.findAsking,abH,Result.ok.injEq]at h1
     grind
    subst this;simp[Instr.findKey,aa9 f.gU,Instr.findNow]
   |cons e H=>simp[Instr.findKey,aa9 f.gU,Instr.findNow,Instr.sameNow,h1]
  cases hk
 cases hk
def Pz(w:World)(x:aes)(es:Array MapEntry):Prop:=(x=.map none/\es= #[])\/∃r clock,x=.map (some r)/\w.heap[r]?=some (.map es clock)
theorem xY{t H et:TypeId}{x k v:aes}{es:Array MapEntry}{j:Nat}(ok:Bool)(hu:P.underlying t=some (.map H et))(hm:Pz w x es)(hc:(Instr.checkKey es.isEmpty 10000 H k).run P w=.ok () w)
  (hf:(Instr.findKey H k es.toList).run P w=.ok (some (j,v)) w):(Instr.lookup t x k ok).run P w=.ok (if ok then .tuple #[v,aex]else v) w:=by
 rcases hm with⟨rfl,rfl⟩ |⟨r,clock,rfl,hr⟩;·simp only[Instr.lookup,abh,aa9 hu,abd,abH,hc,hf]
 have hg:(getObj r).run P w=.ok (.map es clock) w:=by simp only[getObj,Sem.run,hr]
 simp only[Instr.lookup,abh,aa9 hu,abd,abH,hg,hc,hf]
theorem vS{t H et:TypeId}{x k z:aes}{es:Array MapEntry}(ok:Bool)(hu:P.underlying t=some (.map H et))(hm:Pz w x es)(hc:(Instr.checkKey es.isEmpty 10000 H k).run P w=.ok () w)
  (hf:(Instr.findKey H k es.toList).run P w=.ok none w) (hz:(zeroValue et).run P w=.ok z w):(Instr.lookup t x k ok).run P w=.ok (if ok then .tuple #[z,aey]else z) w:=by
 rcases hm with⟨rfl,rfl⟩ |⟨r,clock,rfl,hr⟩;·simp only[Instr.lookup,abh,aa9 hu,abd,abH,hc,hf,hz]
 have hg:(getObj r).run P w=.ok (.map es clock) w:=by simp only[getObj,Sem.run,hr]
 simp only[Instr.lookup,abh,aa9 hu,abd,abH,hg,hc,hf,hz]
theorem BL(hE:E.OK P)(hs:fK P σ m w){t:TypeId}{x k x' k' v:aes}{ok:Bool}(h:qf E m t x k ok=some v)(hx:bK σ x x')(hk:bK σ k k'):
  ∃v',(Instr.lookup t x' k' ok).run P w=.ok v' w/\bK σ v v':=by
 unfold qf at h;split at h;·cases h
 rename_i ti j0;have⟨i,u,f⟩:=hE.rM j0;split at h
 ·rename_i kt et hd;rw[f.d]at hd;obtain rfl:=mT hd;split at h;·cases h
  ·rename_i es b0
   cases a0:keyed E kt k with
   |false=>rw[a0]at h;simp at h
   |true=>
    rw[a0]at h
    simp only[cond_true]at h
    obtain rfl:=hk.lZ (rh a0)
    have k0:∃H:Array MapEntry,Pz w x' H/\zx σ es H.toList:=by
     split at b0
     ·cases b0;exact⟨#[],.inl ⟨hx.map_nil,rfl⟩,rfl,by grind⟩
     ·split at b0
      ·rename_i r _ _ hg;cases b0;obtain⟨bi,l0,rfl⟩:=hx.sM;have ho:=hs.obj _ _ l0;rw[hg]at ho;have⟨_,H,h1,h2,h3⟩:=ho;exact⟨H,.inr ⟨_,_,rfl,h1⟩,by grind,λj e e' a b=>h3 j e e' a (by grind)⟩
      ·grind
     ·grind
    have⟨H,e0,m0⟩:=k0
    have g0:=pJ (w:=w) hE a0 H.isEmpty 9998
    cases hf:findKey E kt k' es 0 with
    |none=>rw[hf]at h;cases h
    |some r=>
     have⟨r',h0,d0⟩:=qK (w:=w) hE a0 m0 hf
     rw[hf]at h
     cases r with
     |some p=>
      have⟨j,v0⟩:=p
      cases r' with
      |none=>exact d0.elim
      |some p'=>
       have⟨j',i0⟩:=p';have⟨_,hv⟩:=d0;simp only[aa7]at h;subst h;refine⟨if ok then .tuple #[i0,aex]else i0,?_,?_⟩;·exact xY ok f.gU e0 g0 h0
       cases ok;·exact hv
       exact(bQ.cons hv (bQ.cons (.flat _ rfl) bQ.nil)).tuple
     |none=>
      cases r' with
      |some p'=>exact d0.elim
      |none=>
       simp only[abl]at h
       obtain⟨z,hz,rfl⟩:=h
       unfold uX at hz
       cases he:E.ty.get et with
       |none=>rw[he]at hz;simp at hz
       |some ei=>
        rw[he]at hz;simp only[acS]at hz;have⟨ie,ue,fe⟩:=hE.rM he;have n0:=bK.kT (σ:=σ) (hE.flat he hz);have hr:=gR (w:=w) fe.info (by rw[<-fe.zero];exact hz);refine⟨if ok then .tuple #[z,aey]else z,?_,?_⟩;·exact vS ok f.gU e0 g0 h0 hr
        cases ok
        ·grind
        exact(bQ.cons n0 (bQ.cons (.flat _ rfl) bQ.nil)).tuple
 cases h
theorem OU{a b:ByteArray}(h:(a==b)):a=b:=by
 cases a;cases b
 rename_i x y
 have:(x==y):=h
 grind
theorem sY{q:Kd}{x y:aes}(h:HL q x y=some true)(n:Nat):Instr.sameBits n y x:=by
 unfold HL at h;split at h
 ·simp only[aa7,beq_iff_eq]at h;subst h;simp[Instr.sameBits]
 ·split at h
  ·rename_i hk;subst hk;simp only[aa7,beq_iff_eq]at h;subst h;simp[Instr.sameBits]
  cases h
 ·simp only[aa7]at h;obtain rfl:=OU h;simpa[Instr.sameBits]using h
 cases h
theorem sZ(n:Nat):∀{H:List Kd} {xs ys:aet},cD H xs ys=some true->xs.length=ys.length/\((ys.zip xs).all λ(x,y)=>Instr.sameBits n x y)=true
 |[],[],[],_=>⟨rfl,rfl⟩
 |k::H,x::xs,y::ys,h=>by
  unfold cD at h
  cases h1:HL k x y with
  |none=>rw[h1]at h;simp at h
  |some c=>
   cases h2:cD H xs ys with
   |none=>rw[h1,h2]at h;simp at h
   |some r=>
    rw[h1,h2]at h
    simp only[aa7,aa3]at h
    obtain⟨rfl,rfl⟩:=h
    have⟨a,b⟩:=sZ n h2
    refine⟨by simp[a],?_⟩
    simp only[List.zip_cons_cons,List.all_cons,aa3]
    exact⟨sY h1 n,b⟩
theorem Rr{kt:TypeId}{k y:aes}(hk:keyed E kt k)(h:eq? E kt k y=some true):Instr.sameBits 10000 y k:=by
 unfold keyed at hk;unfold eq? at h;split at hk
 ·rename_i ti H;rw[H]at h;have⟨d,_,_,_,_,cmp⟩:=ti;dsimp only at h hk;split at hk;·exact sY (q:=.b) (by cases y <;>simp_all [HL]) _
  ·exact sY (q:=.i) (by cases y <;>simp_all [HL]) _
  ·exact sY (q:=.s) (by cases y <;>simp_all [HL]) _
  ·cases y with
   |agg ys=>
    simp only at h
    cases cmp with
    |none=>simp at h
    |some ks=>
     simp only at h
     have⟨a,b⟩:=sZ 9999 h
     simp only[Instr.sameBits,aa3]
     grind
   |_=>simp at h
  cases hk
 cases hk
theorem yP{H:TypeId}{k:aes}:∀(es:List MapEntry) (i j:Nat) (v:aes),findKey E H k es i=some (some (j,v))->∃e,i<=j/\es[j-i]?=some e/\eq? E H k e.key=some true
 |[],i,j,v,h=>by simp[findKey]at h
 |e::es,i,j,v,h=>by
  unfold findKey at h
  cases hq:eq? E H k e.key with
  |none=>rw[hq]at h;cases h
  |some b=>
   rw[hq]at h
   cases b with
   |true=>
    grind
   |false=>
    have⟨e',h1,h2,h3⟩:=yP es (i+1) j v h
    grind
theorem nX(hE:E.OK P)(hs:fK P σ m w){t:TypeId}{x k v x' k' v':aes}(h:eQ E m t x k v=some m')(hx:bK σ x x')(hk:bK σ k k')(hv:bK σ v v'):
  ∃w',(Instr.mapUpdate t x' k' v').run P w=.ok () w'/\Ev P σ m w σ m' w':=by
 unfold eQ at h;split at h
 ·rename_i ti r u0;have⟨i,u,f⟩:=hE.rM u0;split at h
  ·rename_i kt et es clock hd hg
   rw[f.d]at hd
   obtain rfl:=mT hd
   cases b0:keyed E kt k with
   |false=>rw[b0]at h;simp at h
   |true=>
    rw[b0]at h
    simp only[cond_true]at h
    have y0:=rh b0
    obtain rfl:=hk.lZ y0
    obtain⟨bi,i0,rfl⟩:=hx.sM
    have ho:=hs.obj _ _ i0
    rw[hg]at ho
    have⟨n0,H,h1,h2,h3⟩:=ho
    have o0:zx σ es H.toList:=⟨by grind,λj e e' a b=>h3 j e e' a (by grind)⟩
    have j0:(getObj bi.cX).run P w=.ok (.map H clock) w:=by simp only[getObj,Sem.run,h1]
    have k0:∀o,(setObj bi.cX o).run P w=.ok () {w with heap:=w.heap.setIfInBounds bi.cX o}:=λo=>MapKept.run_setObj_map o h1
    have p0:=pJ (w:=w) hE b0 false 9998
    have B0:=hs.lt _ _ i0
    have d0:∀o:Obj,({w with heap:=w.heap.setIfInBounds bi.cX o}:World).heap[bi.cX]?=some o:=by
     grind
    have a0:∀(o:Obj) B,B≠bi.cX->({w with heap:=w.heap.setIfInBounds bi.cX o}:World).heap[B]?=w.heap[B]?:=by
     grind
    have g0:∀o:Obj,({w with heap:=w.heap.setIfInBounds bi.cX o}:World).heap.size=w.heap.size:=by grind
    have h0:m.get r≠.dead:=by grind
    cases hf:findKey E kt k' es 0 with
    |none=>rw[hf]at h;cases h
    |some fr=>
     have⟨q0,r0,l0⟩:=qK (w:=w) hE b0 o0 hf
     rw[hf]at h
     cases fr with
     |some p=>
      have⟨j,v0⟩:=p
      cases q0 with
      |none=>exact l0.elim
      |some p'=>
       have⟨j',C0⟩:=p';obtain⟨rfl,_⟩:=l0;simp only[aa7]at h;subst h;have⟨e0,_,s0,heq⟩:=yP es 0 j v0 hf;simp only[adu]at s0;have z0:j < H.size:=by grind
       obtain⟨A0,_,_,_⟩:=h3 j e0 H[j] s0 (by grind)
       have m0:(Instr.keyThatStays (((H[j]?).map (·.key)).getD k') k').run P w=.ok k' w:=by
        have:((H[j]?).map (·.key)).getD k'=e0.key:=by grind
        rw[this];unfold Instr.keyThatStays;rw[aa5 (Rr b0 heq)];rfl
       refine⟨_,?_,Ev.write (ob:=.map (es.modify j λe=>{e with key:=k',val:=v}) clock) (w':={w with heap:=w.heap.setIfInBounds bi.cX (.map (H.modify j λe=>{e with key:=k',val:=v'}) clock)}) hs i0 h0 ?_ (a0 _) (g0 _) rfl rfl rfl⟩;·simp only[Instr.mapUpdate,abh,aa9 f.gU,abd,j0,p0,r0,m0,k0]
       ·refine⟨n0,_,d0 _,by grind,?_⟩
        grind
     |none=>
      cases q0 with
      |some p'=>exact l0.elim
      |none=>
       simp only[aa7]at h;subst h;refine⟨_,?_,Ev.write (ob:=.map (es++ [{key:=k',val:=v,born:=clock}]) (clock+1)) (w':={w with heap:=w.heap.setIfInBounds bi.cX (.map (H.push {key:=k',val:=v',born:=clock}) (clock+1))}) hs i0 h0 ?_ (a0 _) (g0 _) rfl rfl rfl⟩;·simp only[Instr.mapUpdate,abh,aa9 f.gU,abd,j0,p0,r0,k0]
       ·refine⟨n0,_,d0 _,by grind,?_⟩
        grind
  cases h
 cases h
end
end
section
def LK(m m':M):Prop:=∀b r,m.get b=.loop r->∃H,m'.get b=.loop H
section
variable {m m' m2:M} {E:Env}
theorem LK.refl:LK m m:=λ_ r h=>⟨r,h⟩
theorem LK.trans(h:LK m m')(H:LK m' m2):LK m m2:=λb r hb=>by
 have⟨r',h1⟩:=h b r hb
 exact H b r' h1
theorem LK.push{o:Ob}:LK m (m.push o):=λb r h=>⟨r,by
 have:b < m.n:=M.lg (by grind)
 rw[M.kZ,aa4 (by omega)];exact h⟩
theorem LK.set{b:Nat}{o:Ob}(hb:∀r,m.get b≠.loop r):LK m (m.set b o):=λc r h=>by
 by_cases H:c=b
 ·grind
 ·refine⟨r,?_⟩
  have:c < m.n:=M.lg (by grind)
  rw[M.kg]
  have hn:(m.set b o).n=m.n:=rfl
  rw[hn,aa5 this]
  show((m.st.set b o).get c).getD .dead=_
  rw[Tr.cA,aa4 H]
  rw[M.kg,aa5 this]at h
  exact h
theorem LK.wI{b:Nat}{H:zv}:LK m (m.set b (.loop H)):=λc r h=>by
 have:c < m.n:=M.lg (by grind)
 by_cases hc:c=b
 ·subst hc;exact⟨H,by rw[M.cA _ _ _ _ this,aa5 rfl]⟩
 ·refine⟨r,?_⟩
  rw[M.kg]
  have hn:(m.set b (.loop H)).n=m.n:=rfl
  rw[hn,aa5 this]
  show((m.st.set b _).get c).getD .dead=_
  rw[Tr.cA,aa4 hc]
  rw[M.kg,aa5 this]at h
  exact h
theorem LK.low{x:Nat}(h:LK m m'):LK m {m' with low:=x}:=h
theorem LK.Tl{x:Nat}(h:LK {m with low:=x} m'):LK m m':=h
theorem qB{a:Addr}{vs:aet}(h:storeCells m a vs=some m'):LK m m':=by
 unfold storeCells at h;split at h
 ·rename_i c e g hg
  cases H:(a.spot.isNone && Nat.ble (a.off+vs.length) c.length && vs.all one)with
  |false=>rw[H]at h;cases h
  |true=>rw[H]at h;cases h;exact LK.set λr=>by grind
 cases h
theorem CU{t:TypeId}{a:Addr}{v:aes}(h:storeVar E m t a v=some m'):LK m m':=by
 unfold storeVar at h;split at h
 ·cases H:Nat.beq (cells v).length _ with
  |false=>rw[H]at h;cases h
  |true=>rw[H]at h;exact qB h
 cases h
theorem Q7{e k sl sc H:Nat}{base:Option Addr}{news:aet}{v:aes}(h:lX m e k base sl sc H news=some (v,m')):LK m m':=by
 unfold lX at h;split at h
 ·cases hc:(Nat.beq sl 0 && Nat.beq sc 0)with
  |false=>rw[hc]at h;cases h
  |true=>rw[hc]at h;cases h;exact LK.push
 rename_i a;split at h
 ·rename_i c te g eZ hg _
  cases hc:(g.isNone ||(g==some k && Nat.blt (a.off+sc*k) c.length))with
  |true=>rw[hc]at h;cases h;exact LK.push
  |false=>
   rw[hc]at h
   cases a0:(g==some k && Nat.beq a.off 0 && a.spot.isNone && Nat.beq (sl*k) c.length && Nat.beq sc sl && Nat.beq te e)with
   |false=>rw[a0]at h;cases h
   |true=>rw[a0]at h;cases h;exact(LK.set λr=>by grind).trans LK.push
 cases h
theorem Kx{t u:TypeId}{s x v:aes}(h:dR E m t u s x=some (v,m')):LK m m':=by
 unfold dR at h;split at h
 ·rename_i ti ui base sl sc n _ _ _;split at h;·cases h
  ·rename_i e _ _;split at h
   ·rename_i ei news _ _
    cases hc:(Nat.beq ti.es 0 ||Nat.blt 65536 ei.bytes || !news.all one ||Nat.blt 268435456 (sl+n) || !Nat.beq news.length (n*ti.es) || !gj ei.zero ti.es)with
    |true=>rw[hc]at h;cases h
    |false=>
     rw[hc]at h
     simp only[abf]at h
     cases H:Nat.ble (sl+n) sc with
     |false=>rw[H]at h;exact Q7 h
     |true=>
      rw[H]at h;simp only[cond_true]at h;split at h
      ·rename_i a
       simp only[abl,abY]at h
       obtain⟨m1,h1,_,rfl⟩:=h
       cases hn:Nat.beq n 0 with
       |true=>rw[hn]at h1;cases h1;exact LK.refl
       |false=>rw[hn]at h1;exact qB h1
      ·cases hn:Nat.beq n 0 with
       |true=>rw[hn]at h;cases h;exact LK.refl
       |false=>rw[hn]at h;cases h
   cases h
  cases h
 cases h
theorem Gf{b:Builtin}{ts:List TypeId}{args:aet}{v:aes}(h:az E m b ts args=some (v,m')):LK m m':=by
 unfold az at h;split at h;·exact Kx h
 all_goals try (simp only[abl,abY]at h;obtain⟨_,_,_,rfl⟩:=h;exact LK.refl)
 cases h
theorem sN{t:TypeId}{x k v:aes}(h:eQ E m t x k v=some m'):LK m m':=by
 unfold eQ at h;split at h
 ·rename_i ti r _;split at h
  ·rename_i H et es clock _ hg
   cases hk:keyed E H k with
   |false=>rw[hk]at h;cases h
   |true=>
    rw[hk]at h;split at h;·cases h;exact LK.set λr=>by grind
    ·cases h;exact LK.set λr=>by grind
    cases h
  cases h
 cases h
theorem zQ{t:TypeId}{n:Nat}{ps:List (Nat×aes)}{v:aes}(h:aI E m t n ps=some (v,m')):LK m m':=by
 unfold aI at h;split at h;·cases h
 rename_i H _;split at h
 ·split at h;·cases h
  ·rename_i z _
   cases hc:(Nat.beq (cells z).length H.es && Nat.ble (n*H.es) 1048576)with
   |false=>rw[hc]at h;cases h
   |true=>rw[hc]at h;simp only[cond_true,abl,abY]at h;obtain⟨_,_,_,rfl⟩:=h;exact LK.push
 cases h
def mz(call:aM):Prop:=∀f args m v m',call f args m=some (v,m')->LK m m'
theorem Sc{call:aM}(hc:mz call){T:Tr aes}{o:Op}{v:aes}(h:eA o E call T m=some (v,m')):LK m m':=by
 have same:∀{r:Option aes},(match r with |some v=>some (v,m) |none=>none)=some (v,m')->LK m m':=by
  intro r H
  cases r with
  |none=>cases H
  |some x=>cases H;exact LK.refl
 cases o with
 |move x=>cases h;exact LK.refl
 |assign x=>cases h;exact LK.refl
 |pick c a b=>simp only[eA,qX]at h;split at h <;>cases h;exact LK.refl
 |alloc t=>simp only[eA,wN]at h;split at h <;>cases h;exact LK.push
 |box t x=>cases h;exact LK.push
 |build t ps=>exact same h
 |buildSlice t n ps=>exact zQ h
 |load t a=>
  simp only[eA,BC]at h;split at h;·exact same h
  cases h
 |store t a x=>
  simp only[eA,wM]at h;split at h
  ·split at h;·rename_i hs;cases h;exact CU hs
   cases h
  cases h
 |nilCheck x=>simp only[eA,hU]at h;split at h <;>cases h <;>exact LK.refl
 |binOp op t x y _=>exact same h
 |unOp op t x=>exact same h
 |convert s d x=>exact same h
 |makeFunc f a b=>simp only[eA,iR]at h;split at h <;>cases h;exact LK.refl
 |makeMap t r=>simp only[eA,pZ]at h;split at h <;>cases h;exact LK.push
 |slice t x lo hi mx=>exact same h
 |fieldAddr s x f=>exact same h
 |indexAddr t x i=>exact same h
 |index t x i=>exact same h
 |lookup t x i ok=>exact same h
 |mapUpdate t x k y=>simp only[eA,eY]at h;split at h <;>cases h;exact sN ‹_›
 |insert t x k y=>simp only[eA,eY]at h;split at h <;>cases h;exact sN ‹_›
 |extract x i=>
  simp only[eA,kA]at h;split at h;·exact same h
  cases h
 |call c=>
  simp only[eA,ug]at h;split at h;·exact Gf h
  ·split at h;·exact hc _ _ _ _ _ h
   cases h
  cases h
 |_=>simp[eA]at h
theorem Fl{call:aM}(hc:mz call){ops:Array Oper}:∀(l:List Oper) (fr H:Fr),zF E call ops l fr=some H->LK fr.m H.m
 |[],fr,H,h=>by simp only[Dp,aa7]at h;subst h;exact LK.refl
 |o::l,fr,H,h=>by
  rw[mR]at h
  cases hw:dv ops fr.T o with
  |false=>rw[hw]at h;exact Fl hc l {fr with T:=put fr.T o.dst undef} H h
  |true=>
   rw[hw]at h
   simp only[cond_true]at h
   cases ho:eA o.op E call fr.T fr.m with
   |none=>rw[ho]at h;cases h
   |some p=>
    rw[ho]at h
    exact(Sc hc ho).trans (Fl hc l _ H h)
theorem Ce{call:aM}(hc:mz call){ops:Array Oper}:∀(l:List Oper) (j:Nat) (fr H:Fr),oD E call ops l j fr=some H->LK fr.m H.m
 |[],j,fr,H,h=>by simp only[AP,aa7]at h;subst h;exact LK.refl
 |o::l,j,fr,H,h=>by
  rw[lE]at h
  cases hw:dv ops fr.T o with
  |false=>rw[hw]at h;exact Ce hc l (j+1) {fr with T:=put fr.T o.dst undef} H h
  |true=>
   rw[hw]at h
   simp only[cond_true]at h
   cases ho:eA o.op E call fr.T {fr.m with low:=fr.m.n}with
   |none=>rw[ho]at h;cases h
   |some p=>
    have⟨v,m1⟩:=p
    rw[ho]at h
    simp only at h
    cases hb:(Nat.ble fr.m.n m1.low ||gW ops j)with
    |false=>rw[hb]at h;cases h
    |true=>
     rw[hb]at h
     simp only[cond_true]at h
     have h1:LK fr.m m1:=LK.Tl (Sc hc ho)
     exact h1.trans (Ce hc l (j+1) _ H h)
theorem Hp{body:Fr->Option (Ex×Fr)}(hb:∀fr e H,body fr=some (e,H)->LK fr.m H.m):∀(n:Nat) (fr:Fr) (e:Ex) (H:Fr),ic body n fr=some (e,H)->LK fr.m H.m
 |0,_,_,_,h=>by simp[ic]at h
 |n+1,fr,e,H,h=>by
  unfold ic at h
  cases a0:body fr with
  |none=>rw[a0]at h;cases h
  |some p=>
   have⟨e1,b0⟩:=p
   rw[a0]at h
   have h1:=hb _ _ _ a0
   cases e1 with
   |normal=>exact h1.trans (Hp hb n b0 e H h)
   |exit id=>cases h;exact h1
   |ret=>cases h;exact h1
theorem gV{call:aM}(hc:mz call){n:Nat}:∀(c:Code) (fr:Fr) (e:Ex) (H:Fr),bU E call n c fr=some (e,H)->LK fr.m H.m
 |.skip,fr,e,H,h=>by cases h;exact LK.refl
 |.label l,fr,e,H,h=>by cases h;exact LK.refl
 |.exit id,fr,e,H,h=>by cases h;exact LK.refl
 |.ret,fr,e,H,h=>by cases h;exact LK.refl
 |.region id ops d,fr,e,H,h=>by
  unfold bU at h
  simp only[abl,abY]at h
  obtain⟨a0,h,rfl,rfl⟩:=h
  cases d with
  |false=>exact Fl hc _ _ _ h
  |true=>exact Ce hc _ _ _ _ h
 |.seq a b,fr,e,H,h=>by
  unfold bU at h
  cases ha:bU E call n a fr with
  |none=>rw[ha]at h;cases h
  |some p=>
   have⟨e1,a0⟩:=p
   rw[ha]at h
   have h1:=gV hc a _ _ _ ha
   cases e1 with
   |normal=>exact h1.trans (gV hc b _ _ _ h)
   |exit id=>cases h;exact h1
   |ret=>cases h;exact h1
 |.cond c x y,fr,e,H,h=>by
  unfold bU at h
  split at h
  ·rename_i t _
   cases t with
   |true=>exact gV hc x _ _ _ h
   |false=>exact gV hc y _ _ _ h
  ·cases h
 |.block id c,fr,e,H,h=>by
  unfold bU at h
  cases ha:bU E call n c fr with
  |none=>rw[ha]at h;cases h
  |some p=>
   have⟨e1,a0⟩:=p
   rw[ha]at h
   have h1:=gV hc c _ _ _ ha
   cases e1 with
   |normal=>cases h;exact h1
   |exit b0=>
    simp only at h
    cases hb:Nat.beq b0 id with
    |true=>rw[hb]at h;cases h;exact h1
    |false=>rw[hb]at h;cases h;exact h1
   |ret=>cases h;exact h1
 |.loop c,fr,e,H,h=>by
  unfold bU at h
  exact Hp (λfr e H hb=>gV hc c fr e H hb) n fr e H h
 |.scope c,fr,e,H,h=>by
  unfold bU at h
  exact gV hc c _ _ _ h
 |.rangeFunc g ps a b,fr,e,H,h=>by
  unfold bU at h
  split at h
  ·rename_i f first captured _
   split at h
   ·rename_i v m1 d0
    have h1:=LK.push.trans (hc _ _ _ _ _ d0)
    split at h
    ·split at h
     ·cases h
     ·cases h;exact h1.trans LK.wI
    ·cases h
   ·cases h
  ·cases h
 |.goto l,fr,e,H,h=>by simp[bU]at h
 |.refuse y,fr,e,H,h=>by simp[bU]at h
theorem MH{call:aM}(hc:mz call){n G l:Nat}{args:aet}{v:aes}(h:tV (bU E call n) G l args m=some (v,m')):LK m m':=by
 unfold tV at h;split at h
 ·rename_i r _
  cases hb:(Nat.beq args.length r.ps.size && Nat.beq r.G G)with
  |false=>rw[hb]at h;cases h
  |true=>
   rw[hb]at h;split at h
   ·rename_i H hx;have h1:LK m H.m:=(gV hc _ _ _ _ hx:LK m _)
    split at h
    ·split at h
     ·split at h
      ·rename_i a0 b0;have h2:LK m a0.m:=(h1.trans LK.wI).trans (gV hc _ _ _ _ b0);split at h
       ·split at h;·cases h;exact h2.trans LK.wI
        cases h;exact h2.trans LK.wI
       cases h
      cases h
     cases h
    cases h
   cases h
 cases h
theorem Cp{X:aM}(H:mz X):∀n,mz (cJ E X n)
 |0=>λf args m v m' h=>by simp[cJ]at h
 |n+1=>λf args m v m' h=>by
  have ih:=Cp H n
  cases f with
  |func f=>
   unfold cJ at h
   split at h
   ·rename_i r hr;cases h;exact H _ _ _ _ _ hr
   ·split at h
    ·cases h
    ·rename_i fn _
     split at h
     ·cases h
     ·cases hle:Nat.ble args.length fn.ntmps with
      |false=>rw[hle]at h;cases h
      |true=>
       rw[hle]at h
       simp only[cond_true]at h
       split at h
       ·cases h
       ·cases h
       ·rename_i fr _ hex
        have h0:LK m fr.m:=gV ih _ _ _ _ hex
        split at h
        ·cases h
        ·rename_i v1 _
         cases hb:(bF v1 && Nat.ble m.n fr.m.low)with
         |true=>rw[hb]at h;cases h;exact LK.refl
         |false=>rw[hb]at h;cases h;exact h0
  |yield l=>unfold cJ at h;exact MH ih h
  |_=>simp[cJ]at h
end
end
section
def iN(ro:Option Nat):Fence:={Fence.wide with round:=ro}
section
variable {E:Env} {P:Program} {σ:Sg} {m m':M} {w:World}
def eD(P:Program)(σ:Sg)(m:M)(w:World)(r:Result Next)(v:aes)(m':M):Prop:=
 (∃σ' w' H,bK σ' v H/\Ev P σ m w σ' m' w')/\
 ∀(ro:Option Nat) (n:Nat) (o:Oper) (a:Act) (next:Act->World->Prop) (Q:Exit->Act->World->Prop),
  (∀σ' w' H,bK σ' v H->Ev P σ m w σ' m' w'->next (a.put o.dst H) w')->o.uponIn (iN ro) n P a next Q r
def gE(P:Program)(σ:Sg)(m:M)(w:World)(v:aes)(m':M):Ending->World->Prop:=λe w'=>∃H σ',e=.returned H/\bK σ' v H/\Ev P σ m w σ' m' w'
structure du(P:Program)(call:aM):Prop where
 func:∀f args m v m',call (.func f) args m=some (v,m')->∀σ w (args':Array aes),fK P σ m w->bQ σ args args'.toList->
  CallsIn Fence.wide 0 P f args' w (gE P σ m w v m')/\(callFunc f args').run P w=.ok (.enter f args') w
 yield:∀l args m v m',call (.yield l) args m=some (v,m')->∀σ w i (args':Array aes),fK P σ m w->σ l=some i->bQ σ args args'.toList->eD P σ m w ((Instr.yield i.cX args').run P w) v m'
 bs:mz call
theorem eD.enter{f:FuncId}{args:Array aes}{v:aes}(h:CallsIn Fence.wide 0 P f args w (gE P σ m w v m')):eD P σ m w (.ok (.enter f args) w) v m':=by
 refine⟨?_,λro n o a next Q hk=>?_⟩
 ·obtain⟨e,w',fr,⟨H,σ',_,hv,he⟩,_⟩:=h.2 [] (room_wide _)
  grind
 ·refine⟨λhh=>by simp[iN,Fence.wide]at hh,?_⟩
  have h2:CallsIn (iN ro) (n-1) P f args w (gE P σ m w v m'):=⟨trivial,λcs _=>h.2 cs (room_wide _)⟩
  refine h2.mono λe w' he=>?_
  obtain⟨H,σ',rfl,hv,a0⟩:=he
  grind
theorem du.op{call:aM}(H:du P call)(f:FuncId)(args:aet)(m:M)(v:aes)(m':M)(h:call (.func f) args m=some (v,m'))(σ:Sg)(w:World)(args':Array aes)(hs:fK P σ m w)(hl:bQ σ args args'.toList):eD P σ m w ((callFunc f args').run P w) v m':=by have⟨h1,h2⟩:=H.func f args m v m' h σ w args' hs hl;rw[h2];exact .enter h1
theorem eD.value{v v':aes}{σ':Sg}{w':World}(H:bK σ' v v')(he:Ev P σ m w σ' m' w'):eD P σ m w (.ok (.value v') w') v m':=
 ⟨⟨σ',w',v',H,he⟩,λ_ _ _ _ _ _ h=>h σ' w' v' H he⟩
theorem eD.skip{σ':Sg}{w':World}(he:Ev P σ m w σ' m' w'):eD P σ m w (.ok .skip w') undef m':=
 ⟨⟨σ',w',undef,bK.undef,he⟩,λ_ _ _ _ _ _ h=>h σ' w' undef bK.undef he⟩
theorem KC.op{s:Sem aes}{v:aes}(h:KC P σ m w s v m'):eD P σ m w ((do let x<-s;Pure.pure (Next.value x):Sem Next).run P w) v m':=by have⟨σ',w',v',h1,H,h3⟩:=h;rw[abh,h1];exact .value H h3
theorem eD.same(H:fK P σ m w){s:Sem aes}{v v':aes}(h:s.run P w=.ok v' w)(hv:bK σ v v'):eD P σ m w ((do let x<-s;pure (Next.value x):Sem Next).run P w) v m:=
 (KC.pure H h hv).op
def eT(σ:Sg)(T:Tr aes)(a:Act)(nt:Nat):Prop:=a.tmps.size=nt/\∀t,t < nt->bK σ (qu T t) (a.eval (.tmp t))
theorem eT.mono{τ:Sg}{T:Tr aes}{a:Act}{nt:Nat}(h:eT σ T a nt)(hle:σ.le τ):eT τ T a nt:=⟨h.1,λt H=>(h.2 t H).mono hle⟩
theorem Gr(T:Tr aes)(d:Tmp)(v:aes)(t:Nat):qu (put T (some d) v) t=if t=d then v else qu T t:=by
 unfold qu D.put
 rw[Tr.cA]
 grind
theorem eT.put{T:Tr aes}{a:Act}{nt:Nat}{v v':aes}{dst:Option Tmp}(h:eT σ T a nt)(hd:∀d,dst=some d->d < nt)(hv:bK σ v v'):eT σ (put T dst v) (a.put dst v') nt:=by
 cases dst with
 |none=>exact h
 |some d=>
  have a0:=hd d rfl;refine⟨by simp[Act.put,h.1],λt ht=>?_⟩;rw[Gr];by_cases H:t=d
  ·subst H
   have:(a.put (some t) v').eval (.tmp t)=v':=by simp[Act.put,Act.eval,h.1,a0]
   grind
  rw[aa4 H,Act.eval_put (by grind)];exact h.2 t ht
theorem Ed{nt:Nat}{T:Tr aes}{a:Act}{x:Operand}(hs:fK P σ m w)(hT:∀t,x=.tmp t->bK σ (qu T t) (a.eval (.tmp t)))(H:qZ nt P.globals.size x):bK σ (ev T x) (a.eval x):=by
 cases x with
 |tmp t=>exact hT t rfl
 |const v=>exact .kU H
 |global g=>
  have hg:g < P.globals.size:=by
   have h:Nat.blt g P.globals.size:=H
   simp_all
  exact .ptr ⟨g,0,none⟩ ⟨g,none⟩ (hs.kY g hg) rfl
 |func f=>exact .flat _ rfl
theorem nc{T:Tr aes}{a:Act}(l:List Operand)(h:∀x∈l,bK σ (ev T x) (a.eval x)):bQ σ (l.map (ev T)) (l.map a.eval):=by
 refine⟨by simp,λj u u' hu H=>?_⟩
 grind
theorem zL(hE:E.OK P)(hs:fK P σ m w){b:Builtin}{ts:Array TypeId}{ty:TypeId}{cs:Array Bool}{args args':aet}{v:aes}(h:az E m b ts.toList args=some (v,m'))(hl:bQ σ args args'):
  eD P σ m w ((Go.builtin b ts ty cs args'.toArray).run P w) v m':=by
 unfold az at h;split at h
 ·rename_i t u s x a0;obtain⟨s',l1,rfl,h1,d0⟩:=hl.cases;obtain⟨x',l2,rfl,h2,b0⟩:=d0.cases;obtain rfl:=b0.nil_eq;have H:ts= #[t,u]:=ac7 a0;subst H;exact(Cz (ty:=ty) hE hs h h1 h2).op
 ·rename_i t x a0;obtain⟨x',l2,rfl,h2,b0⟩:=hl.cases;obtain rfl:=b0.nil_eq;have H:ts= #[t]:=ac7 a0;subst H;simp only[abl,abY]at h;obtain⟨v0,h,rfl,rfl⟩:=h;have⟨q1,q2⟩:=Jv (ty:=ty) hE hs h h2;exact eD.same hs q1 (.flat _ q2)
 ·simp only[abl,abY]at h;obtain⟨v0,h,rfl,rfl⟩:=h;obtain⟨x,rest,rfl,q1,q2⟩:=py (P:=P) (w:=w) (op:=Builtin.min2) (λk x k' y=>rfl) hl h;exact eD.same hs (s:=Builtin.min_ ts ty (x::rest).toArray) (by simpa[Builtin.min_]using q1) (.flat _ q2)
 ·simp only[abl,abY]at h;obtain⟨v0,h,rfl,rfl⟩:=h;obtain⟨x,rest,rfl,q1,q2⟩:=py (P:=P) (w:=w) (op:=Builtin.max2) (λk x k' y=>rfl) hl h;exact eD.same hs (s:=Builtin.max_ ts ty (x::rest).toArray) (by simpa[Builtin.max_]using q1) (.flat _ q2)
 cases h
theorem zu.map{T:Tr aes}{a:Act}{x:Option Operand}(h:∀o,x=some o->bK σ (ev T o) (a.eval o)):zu σ (x.map (ev T)) (x.map a.eval):=by
 cases x with
 |none=>trivial
 |some o=>exact h o rfl
theorem Ge(hE:E.OK P){call:aM}(fb:du P call)(hs:fK P σ m w){T:Tr aes}{a:Act}{c:Call}{ty:TypeId}{v:aes}(h:ug c E call T m=some (v,m'))
  (hT:∀x∈c.operands.toList,bK σ (ev T x) (a.eval x)):eD P σ m w ((do let d<-resolve a.eval c ty;invoke d.target d.args:Sem Next).run P w) v m':=by
 unfold ug at h;have a0:bQ σ (c.args.toList.map (ev T)) (c.args.toList.map a.eval):=nc _ (λx hx=>hT x (by simp[Call.operands];exact .inr (by grind)));have e0:c.args.map a.eval=(c.args.toList.map a.eval).toArray:=by grind
 unfold resolve;split at h
 ·rename_i b hc;rw[hc];simp only[abh,abH,abd,invoke,e0];exact zL hE hs h a0
 ·rename_i f hc;rw[hc];have hf:bK σ (ev T f) (a.eval f):=hT f (by simp[Call.operands,hc]);split at h
  ·rename_i g first captured hg
   rw[hg]at hf
   obtain⟨fv,b0⟩:∃x,a.eval f=x:=⟨_,rfl⟩
   rw[b0]at hf
   cases hf with
   |flat _ hh=>
    cases g with
    |func g=>
     simp only[b0,Deferred.ofValue,abh,abH,abd,invoke]
     refine fb.op g _ m v m' h σ w _ hs ?_
     rw[e0]
     simp only[bI,aa3,List.isEmpty_iff]at hh
     grind
    |_=>simp[bI]at hh
   |func g _ _ d0 H ha hb h1 h2=>
    simp only[b0,Deferred.ofValue,abh,abH,abd,invoke];refine fb.op g _ m v m' h σ w _ hs ?_;rw[e0];simp only[adp];have e1:bQ σ first.toList d0.toList:=⟨by grind,λj u u' x y=>h1 j u u' (by grind) (by grind)⟩
    have e2:bQ σ captured.toList H.toList:=⟨by grind,λj u u' x y=>h2 j u u' (by grind) (by grind)⟩
    rw[abv];exact e1.append (a0.append e2)
   |yield l i hl=>
    simp only[b0,Deferred.ofValue,abh,abH,abd,invoke]
    refine fb.yield l _ m v m' h σ w i _ hs hl ?_
    grind
  cases h
 cases h
theorem sI(hE:E.OK P){call:aM}(fb:du P call)(hs:fK P σ m w){T:Tr aes}{a:Act}{o:Oper}{v:aes}(h:eA o.op E call T m=some (v,m'))
  (H:∀x∈o.op.operands.toList,bK σ (ev T x) (a.eval x)):eD P σ m w ((execOp a.eval o).run P w) v m':=by
 unfold execOp
 cases ho:o.op with
 |move x=>rw[ho]at h H;dsimp only;cases h;exact .value (H x (by simp[Op.operands])) (Ev.refl hs)
 |assign x=>rw[ho]at h H;dsimp only;cases h;exact .value (H x (by simp[Op.operands])) (Ev.refl hs)
 |pick c x y=>
  rw[ho]at h H;dsimp only;simp only[eA,qX]at h;split at h
  ·rename_i t hc;simp only[aa7,abY]at h;obtain⟨rfl,rfl⟩:=h;have h1:=H c (by simp[Op.operands]);rw[hc]at h1;rw[h1.bool];simp only[asBool,abh,abH,abd];refine .value ?_ (Ev.refl hs);cases t;·exact H y (by simp[Op.operands])
   exact H x (by simp[Op.operands])
  cases h
 |alloc t=>
  rw[ho]at h;dsimp only;simp only[eA,wN]at h;split at h
  ·rename_i z hz;cases h;exact(Ey hE hs hz).op
  cases h
 |box t x=>rw[ho]at h H;dsimp only;cases h;exact(Kv hs (H x (by simp[Op.operands]))).op
 |build t ps=>
  rw[ho]at h H;dsimp only;simp only[eA,sK]at h;split at h
  ·rename_i z hz;cases h;obtain⟨v',h1,h2⟩:=vI (w:=w) hE (T:=ev T) (A:=a.eval) (λp hp=>H p.2 (by simp only[Op.operands];exact acH hp)) hz;exact eD.same hs h1 h2
  cases h
 |buildSlice t n ps=>rw[ho]at h H;dsimp only;simp only[eA,nD]at h;exact(uQ hE hs (T:=ev T) (A:=a.eval) (λp hp=>H p.2 (by simp only[Op.operands];exact acH hp)) h).op
 |load t x=>
  rw[ho]at h H;dsimp only;simp only[eA,BC]at h;split at h
  ·rename_i ad hx;split at h
   ·rename_i z hz;cases h;have h1:=H x (by simp[Op.operands]);rw[hx]at h1;have⟨i,hi,_,he⟩:=h1.iC;have⟨v',q1,q2,_⟩:=qG (w:=w) hE hs hi hz;refine eD.same hs (s:=Instr.loadAt t (a.eval x)) ?_ q2;rw[he];simpa[Instr.loadAt,Instr.sureAddr]using q1
   cases h
  cases h
 |store t x y=>
  rw[ho]at h H;dsimp only;simp only[eA,wM]at h;split at h
  ·rename_i ad hx;split at h
   ·rename_i m2 hz;cases h;have h1:=H x (by simp[Op.operands]);rw[hx]at h1;have⟨i,hi,_,he⟩:=h1.iC;obtain⟨w',q1,q2,_⟩:=xN hE hs hi (H y (by simp[Op.operands])) hz
    have hr:(Instr.storeAt t (a.eval x) (a.eval y)).run P w=.ok () w':=by rw[he];simpa[Instr.storeAt,Instr.sureAddr]using q1
    simp only[abh,hr,abd,abH];exact .skip q2
   cases h
  cases h
 |nilCheck x=>
  rw[ho]at h H;dsimp only;have h1:=H x (by simp[Op.operands]);simp only[eA,hU]at h;split at h
  ·rename_i ad hx;cases h;rw[hx]at h1;have h2:=h1;have⟨i,hi,_,he⟩:=h1.iC;rw[he]at h2⊢;exact .value h2 (Ev.refl hs)
  ·rename_i g a1 b1 hx;cases h;rw[hx]at h1;have h2:=h1;have⟨a',b',he,_⟩:=h1.yN;rw[he]at h2⊢;exact .value h2 (Ev.refl hs)
  cases h
 |binOp op t x y yt=>
  rw[ho]at h H;dsimp only;simp only[eA,Dq]at h;split at h
  ·rename_i z hz;cases h;obtain⟨q1,q2⟩:=AY (w:=w) hE hz (H x (by simp[Op.operands])) (H y (by simp[Op.operands])) x y;exact eD.same hs q1 (.flat _ q2)
  cases h
 |unOp op t x=>
  rw[ho]at h H;dsimp only;simp only[eA,MZ]at h;split at h
  ·rename_i z hz;cases h;obtain⟨q1,q2⟩:=CS (P:=P) (w:=w) hz (H x (by simp[Op.operands]));exact eD.same hs q1 (.flat _ q2)
  cases h
 |convert s d x=>
  rw[ho]at h H;dsimp only;simp only[eA,Fm]at h;split at h
  ·rename_i z hz;cases h;obtain⟨q1,q2⟩:=FY (P:=P) (w:=w) hE hz (H x (by simp[Op.operands]));exact eD.same hs q1 (.flat _ q2)
  cases h
 |makeFunc f x y=>
  rw[ho]at h H;dsimp only;simp only[eA,iR]at h;split at h
  ·rename_i g;cases h;have e1:bQ σ (x.toList.map (ev T)) (x.toList.map a.eval):=nc _ (λo hx=>H o (by simp[Op.operands];exact .inl (by grind)));have e2:bQ σ (y.toList.map (ev T)) (y.toList.map a.eval):=nc _ (λo hx=>H o (by simp[Op.operands];exact .inr (by grind)));refine eD.same hs (s:=Instr.makeFunc (.func g) (x.map a.eval) (y.map a.eval)) rfl ?_;refine .func g _ _ _ _ (by simp) (by simp) (λj u u' p q=>e1.2 j u u' (by grind) (by grind)) (λj u u' p q=>e2.2 j u u' (by grind) (by grind))
  cases h
 |makeMap t r=>
  rw[ho]at h;dsimp only;simp only[eA,pZ]at h;split at h
  ·cases h;exact(zH hs t).op
  cases h
 |slice t x lo hi mx=>
  rw[ho]at h H;dsimp only;simp only[eA,BA]at h;split at h
  ·rename_i z hz;cases h;obtain⟨v',q1,q2⟩:=CX (w:=w) hE hs hz (H x (by simp[Op.operands])) (zu.map (a:=a) (λo he=>H o (by simp[Op.operands,he]))) (zu.map (a:=a) (λo he=>H o (by simp[Op.operands,he]))) (zu.map (a:=a) (λo he=>H o (by simp[Op.operands,he])));exact eD.same hs q1 q2
  cases h
 |fieldAddr s x f=>
  rw[ho]at h H;dsimp only;simp only[eA,ju]at h;split at h
  ·rename_i z hz;cases h;obtain⟨v',q1,q2⟩:=oh (w:=w) hE hz (H x (by simp[Op.operands]));exact eD.same hs q1 q2
  cases h
 |indexAddr t x y=>
  rw[ho]at h H;dsimp only;simp only[eA,jt]at h;split at h
  ·rename_i z hz;cases h;obtain⟨v',q1,q2⟩:=oe (w:=w) hE hz (H x (by simp[Op.operands])) (H y (by simp[Op.operands]));exact eD.same hs q1 q2
  cases h
 |index t x y=>
  rw[ho]at h H;dsimp only;simp only[eA,sJ]at h;split at h
  ·rename_i z hz;cases h;obtain⟨v',q1,q2⟩:=vA (w:=w) hE hz (H x (by simp[Op.operands])) (H y (by simp[Op.operands]));exact eD.same hs q1 q2
  cases h
 |lookup t x y ok=>
  rw[ho]at h H;dsimp only;simp only[eA,yr]at h;split at h
  ·rename_i z hz;cases h;obtain⟨v',q1,q2⟩:=BL hE hs hz (H x (by simp[Op.operands])) (H y (by simp[Op.operands]));exact eD.same hs q1 q2
  cases h
 |mapUpdate t x k y=>
  rw[ho]at h H;dsimp only;simp only[eA,eY]at h;split at h
  ·rename_i m2 hz;cases h;obtain⟨w',q1,q2⟩:=nX hE hs hz (H x (by simp[Op.operands])) (H k (by simp[Op.operands])) (H y (by simp[Op.operands]));simp only[abh,q1,abd,abH];exact .skip q2
  cases h
 |insert t x k y=>
  rw[ho]at h H;dsimp only;simp only[eA,eY]at h;split at h
  ·rename_i m2 hz;cases h;obtain⟨w',q1,q2⟩:=nX hE hs hz (H x (by simp[Op.operands])) (H k (by simp[Op.operands])) (H y (by simp[Op.operands]));simp only[abh,q1,abd,abH];exact .skip q2
  cases h
 |extract x i=>
  rw[ho]at h H;dsimp only;simp only[eA,kA]at h;split at h
  ·rename_i vs hx;split at h
   ·rename_i z hz;cases h;have h1:=H x (by simp[Op.operands]);rw[hx]at h1;have⟨a0,he,hl⟩:=h1.tJ;have⟨u',hu,hr⟩:=hl.get hz;refine eD.same hs (s:=Instr.extract (a.eval x) i) (v':=u') ?_ hr;rw[he];have:a0[i]?=some u':=by grind
    simp[Instr.extract,this]
   cases h
  cases h
 |call c=>rw[ho]at h H;dsimp only;exact Ge hE fb hs h H
 |_=>rw[ho]at h;simp[eA]at h
end
end
section
section
variable {E:Env} {P:Program} {σ:Sg} {m m':M} {w:World}
theorem bK.PX{v:aes}{b:Bool}(h:bK σ v (.bool b)):v=.bool b:=by cases h;rfl
theorem rJ{ops:Array Oper}{T:Tr aes}{a:Act}{o:Oper}
  (hT:∀j want d,o.guard=some (j,want)->(ops[j]?).bind (·.dst)=some d->d < a.tmps.size/\bK σ (qu T d) (a.eval (.tmp d))):
  dv ops T o=Region.wanted o (yielded ops a.tmps):=by
 unfold dv Region.wanted
 cases hg:o.guard with
 |none=>rfl
 |some p=>
  have⟨j,want⟩:=p
  dsimp only
  unfold yielded
  simp only[ace]
  cases hd:(ops[j]?).bind (·.dst)with
  |none=>rfl
  |some d=>
   have⟨h1,H⟩:=hT j want d hg hd
   have he:a.tmps[d]?=some (a.eval (.tmp d)):=by simp[Act.eval,h1]
   simp only[acS,he]
   generalize a.eval (.tmp d)=u at H
   cases hv:qu T d with
   |bool b=>rw[hv]at H;rw[H.bool];simp
   |_=>
    rw[hv]at H
    cases u with
    |bool b=>have:=H.PX;cases this
    |_=>simp
theorem kS{nt G:Nat}{o:Oper}(h:jI nt G o):∀d,o.dst=some d->d < nt:=by
 intro d H
 unfold jI at h
 simp_all
theorem kR{nt G:Nat}{o:Oper}(h:jI nt G o):∀x∈o.op.operands.toList,qZ nt G x:=by
 intro x H
 unfold jI at h
 grind
theorem qY{nt G t:Nat}(h:qZ nt G (.tmp t)):t < nt:=by
 have h:Nat.blt t nt:=h
 simp_all
theorem eT.MY{T:Tr aes}{a:Act}{nt:Nat}(h:eT σ T a nt)(hs:fK P σ m w){x:Operand}(H:qZ nt P.globals.size x):bK σ (ev T x) (a.eval x):=
 Ed hs (λt ht=>by subst ht;exact h.2 t (qY H)) H
theorem eT.wanted{ops:Array Oper}{T:Tr aes}{a:Act}{nt:Nat}(h:eT σ T a nt)(a0:∀o∈ops.toList,jI nt P.globals.size o)(o:Oper):dv ops T o=Region.wanted o (yielded ops a.tmps):=by refine rJ (σ:=σ) λj want d _ hd=>?_;simp only[abV]at hd;have⟨o',d0,b0⟩:=hd;have H:=kS (a0 o' (by grind)) d b0;exact⟨by rw[h.1];exact H,h.2 d H⟩
theorem uf(hE:E.OK P){call:aM}(fb:du P call){nt:Nat}{ops:Array Oper}(b0:∀o∈ops.toList,jI nt P.globals.size o){ro:Option Nat}{n:Nat}{Q:Exit->Act->World->Prop}{ds:List Deferred}:
  ∀(l:List Oper),(∀o∈l,jI nt P.globals.size o)->∀(fr H:Fr),zF E call ops l fr=some H->∀(σ:Sg) (a:Act) (w:World),eT σ fr.T a nt->a.defers=ds->fK P σ fr.m w->(∀σ' a' w',eT σ' H.T a' nt->a'.defers=ds->Ev P σ fr.m w σ' H.m w'->Q .normal a' w')->wpListIn (iN ro) n P ops Q l a w
 |[],_,fr,H,h,σ,a,w,hf,hd,hs,k=>by
  simp only[Dp,aa7]at h
  subst h
  exact k σ a w hf hd (Ev.refl hs)
 |o::l,hl,fr,H,h,σ,a,w,hf,hd,hs,k=>by
  rw[mR]at h
  have hw:=hf.wanted b0 o
  have a0:=kS (hl o abT)
  have d0:=λo ho=>hl o (abS _ ho)
  unfold wpListIn
  rw[<-hw]
  cases e0:dv ops fr.T o with
  |false=>
   rw[e0]at h
   simp only[abf]at h
   rw[aa4 (by simp)]
   refine⟨λ_ _=>trivial,?_⟩
   refine uf hE fb b0 l d0 _ _ h σ (a.put o.dst undef) w (hf.put a0 bK.undef) ?_ hs k
   rw[<-hd];cases o.dst <;>rfl
  |true=>
   rw[e0]at h
   simp only[cond_true]at h
   rw[aa5 rfl]
   cases ho:eA o.op E call fr.T fr.m with
   |none=>rw[ho]at h;cases h
   |some p=>
    have⟨v,m1⟩:=p
    rw[ho]at h
    simp only at h
    refine⟨λ_ _=>trivial,?_⟩
    have g0:=sI hE fb hs ho (a:=a) (λx hx=>hf.MY hs (kR (hl o abT) x hx))
    rw[Oper.semAt_eq _ _ _ (λc hc=>by rw[hc]at ho;simp[eA]at ho)]
    refine g0.2 ro n o a _ Q λσ' w' v' hv he=>?_
    refine uf hE fb b0 l d0 _ _ h σ' (a.put o.dst v') w' ((hf.mono he.ext).put a0 hv) ?_ he.tS λh0 a2 w2 i0 j0 k0=>k h0 a2 w2 i0 j0 (he.trans k0)
    rw[<-hd];cases o.dst <;>rfl
end
end
section
inductive Reach (ops:Array Oper):Nat->Nat->Prop where
 |one {j:Nat} {o:Oper} {e:Edge} (ho:ops[j]?=some o) (he:e∈o.after) (hb:Region.binds .any e=true):Reach ops e.on j
 |step {i j:Nat} {o:Oper} {e:Edge} (ho:ops[j]?=some o) (he:e∈o.after) (hb:Region.binds .any e=true) (h:Reach ops i e.on):Reach ops i j
theorem rN{acc:Array Nat}{i:Nat}:∀(l:List Edge) (s:Nat),(l.foldl (λs e=>if Region.binds .any e then s |||2 ^ e.on |||acc.getD e.on 0 else s) s).testBit i->
  s.testBit i\/∃e∈l,Region.binds .any e/\(i=e.on\/(acc.getD e.on 0).testBit i)
 |[],s,h=> .inl h
 |e::l,s,h=>by
  rw[ade]at h
  rcases rN l _ h with h1 |⟨H,h1,h2,h3⟩
  ·grind
  ·grind
theorem vJ(ops:Array Oper):∀(l pre:List Oper) (acc:Array Nat),ops.toList=pre++l->acc.size=pre.length->(∀i j,(acc.getD j 0).testBit i->Reach ops i j)->
  ∀i j,((l.foldl (λacc o=>acc.push (o.after.foldl (λs e=>if Region.binds .any e then s |||2 ^ e.on |||acc.getD e.on 0 else s) 0)) acc).getD j 0).testBit i->Reach ops i j
 |[],pre,acc,_,_,h,i,j,hh=>h i j hh
 |o::l,pre,acc,hp,hs,h,i,j,hh=>by
  rw[ade]at hh
  refine vJ ops l (pre++ [o]) _ (by grind) (by grind) ?_ i j hh
  intro i j H
  have ho:ops[pre.length]?=some o:=by
   rw[<-ace,hp,acj (aaV _)]
   simp
  rcases adh j acc.size with hj |hj |hj
  ·refine h i j ?_
   rw[acg,acT hj]at H
   rw[acg]
   grind
  ·subst hj
   rw[acg,Array.getElem?_push_size]at H
   simp only[ac4]at H
   rw[<-adv]at H
   rcases rN o.after.toList 0 H with h1 |⟨e,h1,h2,h3⟩
   ·grind
   ·rw[hs]
    rcases h3 with rfl |h3
    ·exact .one ho (by grind) h2
    ·exact .step ho (by grind) h2 (h _ _ h3)
  ·grind
theorem nQ{ops:Array Oper}{i j:Nat}(h:((Region.before ops).getD j 0).testBit i):Reach ops i j:=by unfold Region.before at h;rw[<-adv]at h;exact vJ ops ops.toList [] #[] (by simp) rfl (by grind) i j h
def CD(ops:Array Oper)(L:Nat->Prop):Prop:=∀j o,ops[j]?=some o->L j->∀e∈o.after,Region.binds .any e=true->L e.on
theorem Reach.listed{ops:Array Oper}{L:Nat->Prop}(hc:CD ops L){i j:Nat}(h:Reach ops i j):(∀o,ops[j]?=some o->∀e∈o.after,Region.binds .any e->L e.on)->L i:=by
 induction h with
 |one H he hb=>exact λh=>h _ H _ he hb
 |step H he hb _ ih=>exact λh=>ih λo' a0 e' b0 d0=>hc _ o' a0 (h _ H _ he hb) e' b0 d0
theorem Reach.qc{ops:Array Oper}{L:Nat->Prop}(H:CD ops L){i j:Nat}(h:Reach ops i j)(hj:L j):L i:=h.listed H λo ho e he hb=>H j o ho hj e he hb
theorem Reach.lt{ops:Array Oper}(hl:∀j o,ops[j]?=some o->∀e∈o.after,Region.binds .any e->e.on < j){i j:Nat}(h:Reach ops i j):i < j:=by
 induction h with
 |one H he hb=>exact hl _ _ H _ he hb
 |step H he hb _ ih=>exact Nat.lt_trans ih (hl _ _ H _ he hb)
structure Ie(ops:Array Oper):Prop where
 lt:∀j o,ops[j]?=some o->∀e∈o.after,Region.binds .any e=true->e.on < j
 apart:∀i j o' o,ops[i]?=some o'->ops[j]?=some o->i < j->Reach ops i j\/((∀d,o.dst=some d->d∉jh ops o')/\∀d,o'.dst=some d->d∉jh ops o)
theorem BF{ops:Array Oper}(h:BG ops):Ie ops:=by
 have key:∀j o,ops[j]?=some o->_:=λj o ho=>aby.1 h (o,j) (by grind);simp only[aa3]at key;refine⟨λj o ho e he hb=>?_,λi j o' o hi hj H=>?_⟩
 ·have:=aby.1 (key j o ho).1 e (by grind)
  simp_all
 have:=aby.1 (key j o hj).2 (o',i) (by grind);rw[nP]at this;simp only[H,decide_true,aca,ac0,acA,aa3]at this;rcases this with h1 |⟨h1,h2⟩;·exact .inl (nQ h1)
 ·grind
theorem qQ{ops:Array Oper}{j:Nat}(h:gW ops j):∀i o,ops[i]?=some o->i=j\/mi o.op\/Reach ops i j\/Reach ops j i:=by
 intro i o H;have:=aby.1 h (o,i) (by grind);simp only[acA,beq_iff_eq]at this;rcases this with((h1 |h1) |h1) |h1
 ·grind
 ·grind
 ·exact .inr (.inr (.inl (nQ h1)))
 exact .inr (.inr (.inr (nQ h1)))
section
variable {E:Env} {P:Program} {σ:Sg} {m m':M} {w:World}
theorem Dj{op:Op}{call:aM}{T:Tr aes}{v:aes}(H:mi op)(h:eA op E call T m=some (v,m')):m'=m:=by
 cases op <;>simp[mi]at H <;>simp only[eA]at h
 case move=>cases h;rfl
 case assign=>cases h;rfl
 case pick=>unfold qX at h;split at h <;>cases h;rfl
 case build=>unfold sK at h;split at h <;>cases h;rfl
 case nilCheck=>unfold hU at h;split at h <;>cases h <;>rfl
 case binOp=>unfold Dq at h;split at h <;>cases h;rfl
 case unOp=>unfold MZ at h;split at h <;>cases h;rfl
 case makeFunc=>unfold iR at h;split at h <;>cases h;rfl
 case fieldAddr=>unfold ju at h;split at h <;>cases h;rfl
 case indexAddr=>unfold jt at h;split at h <;>cases h;rfl
 case index=>unfold sJ at h;split at h <;>cases h;rfl
 case extract=>
  unfold kA at h
  grind
theorem Ff(hE:E.OK P){call:aM}{T:Tr aes}{a:Act}{o:Oper}{v:aes}(hp:mi o.op)(h:eA o.op E call T m=some (v,m'))
  (H:∀x∈o.op.operands.toList,bK σ (ev T x) (a.eval x)):∃v',(execOp a.eval o).run P w=.ok (.value v') w/\bK σ v v':=by
 have val:∀{s:Sem aes} {v':aes},s.run P w=.ok v' w->(do let x<-s;pure (Next.value x):Sem Next).run P w=.ok (.value v') w:=by
  simp_all
 unfold execOp
 cases ho:o.op with
 |move x=>rw[ho]at h H;cases h;exact⟨_,rfl,H x (by simp[Op.operands])⟩
 |assign x=>rw[ho]at h H;cases h;exact⟨_,rfl,H x (by simp[Op.operands])⟩
 |pick c x y=>
  rw[ho]at h H;dsimp only;simp only[eA,qX]at h;split at h
  ·rename_i t hc;obtain⟨rfl,rfl⟩:=h;have h1:=H c (by simp[Op.operands]);rw[hc]at h1;rw[h1.bool];refine⟨_,rfl,?_⟩;cases t;·exact H y (by simp[Op.operands])
   exact H x (by simp[Op.operands])
  cases h
 |build t ps=>
  rw[ho]at h H;simp only[eA,sK]at h;split at h
  ·rename_i z hz
   cases h
   obtain⟨v',h1,h2⟩:=vI (w:=w) hE (T:=ev T) (A:=a.eval) (λp hp=>H p.2 (by simp only[Op.operands];exact acH hp)) hz
   grind
  cases h
 |nilCheck x=>
  rw[ho]at h H;have h1:=H x (by simp[Op.operands]);simp only[eA,hU]at h;split at h
  ·rename_i ad hx
   cases h
   rw[hx]at h1
   have⟨i,hi,_,he⟩:=h1.iC
   simp_all
  ·rename_i g a1 b1 hx
   cases h
   rw[hx]at h1
   have⟨a',b',he,_⟩:=h1.yN
   simp_all
  cases h
 |binOp op t x y yt=>
  rw[ho]at h H;simp only[eA,Dq]at h;split at h
  ·rename_i z hz;cases h;obtain⟨q1,q2⟩:=AY (w:=w) hE hz (H x (by simp[Op.operands])) (H y (by simp[Op.operands])) x y;exact⟨_,val q1,.flat _ q2⟩
  cases h
 |unOp op t x=>
  rw[ho]at h H;simp only[eA,MZ]at h;split at h
  ·rename_i z hz;cases h;obtain⟨q1,q2⟩:=CS (P:=P) (w:=w) hz (H x (by simp[Op.operands]));exact⟨_,val q1,.flat _ q2⟩
  cases h
 |makeFunc f x y=>
  rw[ho]at h H;simp only[eA,iR]at h;split at h
  ·rename_i g;cases h;have e1:bQ σ (x.toList.map (ev T)) (x.toList.map a.eval):=nc _ (λo hx=>H o (by simp[Op.operands];exact .inl (by grind)));have e2:bQ σ (y.toList.map (ev T)) (y.toList.map a.eval):=nc _ (λo hx=>H o (by simp[Op.operands];exact .inr (by grind)));refine⟨_,rfl,?_⟩;refine .func g _ _ _ _ (by simp) (by simp) (λj u u' p q=>e1.2 j u u' (by grind) (by grind)) (λj u u' p q=>e2.2 j u u' (by grind) (by grind))
  cases h
 |fieldAddr s x f=>
  rw[ho]at h H;simp only[eA,ju]at h;split at h
  ·rename_i z hz
   cases h
   obtain⟨v',q1,q2⟩:=oh (w:=w) hE hz (H x (by simp[Op.operands]))
   grind
  cases h
 |indexAddr t x y=>
  rw[ho]at h H;simp only[eA,jt]at h;split at h
  ·rename_i z hz
   cases h
   obtain⟨v',q1,q2⟩:=oe (w:=w) hE hz (H x (by simp[Op.operands])) (H y (by simp[Op.operands]))
   grind
  cases h
 |index t x y=>
  rw[ho]at h H;simp only[eA,sJ]at h;split at h
  ·rename_i z hz
   cases h
   obtain⟨v',q1,q2⟩:=vA (w:=w) hE hz (H x (by simp[Op.operands])) (H y (by simp[Op.operands]))
   grind
  cases h
 |extract x i=>
  rw[ho]at h H;simp only[eA,kA]at h;split at h
  ·rename_i vs hx;split at h
   ·rename_i z hz;cases h;have h1:=H x (by simp[Op.operands]);rw[hx]at h1;have⟨a0,he,hl⟩:=h1.tJ;have⟨u',hu,hr⟩:=hl.get hz;refine⟨u',val ?_,hr⟩;rw[he];have:a0[i]?=some u':=by grind
    simp[Instr.extract,this]
   cases h
  cases h
 |_=>rw[ho]at hp;simp[mi]at hp
def DStep(E:Env)(call:aM)(ops:Array Oper)(fr:Fr)(o:Oper)(j:Nat)(H:Fr):Prop:=
 (dv ops fr.T o=false/\H={fr with T:=put fr.T o.dst undef})\/
 (dv ops fr.T o=true/\∃v m,eA o.op E call fr.T {fr.m with low:=fr.m.n}=some (v,m)/\(fr.m.n<=m.low\/gW ops j=true)/\
  H={T:=put fr.T o.dst v,m:={m with low:=min fr.m.low m.low}})
theorem yY{call:aM}{ops:Array Oper}:∀(l:List Oper) (j:Nat) (fr H:Fr),oD E call ops l j fr=some H->
  ∃tr:Nat->Fr,tr j=fr/\tr (j+l.length)=H/\∀i o,l[i]?=some o->DStep E call ops (tr (j+i)) o (j+i) (tr (j+i+1))
 |[],j,fr,H,h=>by
  simp only[AP,aa7]at h
  subst h
  exact⟨λ_=>fr,rfl,rfl,λi o h=>by simp at h⟩
 |o::l,j,fr,H,h=>by
  have key:∀a0,DStep E call ops fr o j a0->oD E call ops l (j+1) a0=some H->
    ∃tr:Nat->Fr,tr j=fr/\tr (j+(o::l).length)=H/\∀i o',(o::l)[i]?=some o'->DStep E call ops (tr (j+i)) o' (j+i) (tr (j+i+1)):=by
   intro a0 h1 h2
   have⟨tr,t1,t2,t3⟩:=yY l (j+1) a0 H h2
   refine⟨λk=>if k=j then fr else tr k,by simp,?_,?_⟩
   ·grind
   ·intro i o' hi
    cases i with
    |zero=>
     grind
    |succ i=>
     grind
  rw[lE]at h
  cases hw:dv ops fr.T o with
  |false=>
   rw[hw]at h
   exact key _ (.inl ⟨hw,rfl⟩) h
  |true=>
   rw[hw]at h
   simp only[cond_true]at h
   cases ho:eA o.op E call fr.T {fr.m with low:=fr.m.n}with
   |none=>rw[ho]at h;cases h
   |some p=>
    have⟨v,m⟩:=p
    rw[ho]at h
    simp only at h
    cases hb:(Nat.ble fr.m.n m.low ||gW ops j)with
    |false=>rw[hb]at h;simp at h
    |true=>
     rw[hb]at h
     simp only[cond_true]at h
     refine key _ (.inr ⟨hw,v,m,ho,?_,rfl⟩) h
     simp only[acA]at hb
     exact hb.imp abz id
end
end
section
def Sg.cut(σ:Sg)(n:Nat):Sg:=λb=>if b < n then σ b else none
theorem Sg.dG{σ:Sg}{n b:Nat}{i:BI}:(σ.cut n) b=some i↔b < n/\σ b=some i:=by
 unfold Sg.cut
 grind
theorem Sg.FX{σ τ:Sg}{n k:Nat}(h:σ.le τ)(hn:n<=k):(σ.cut n).le (τ.cut k):=by intro b i H;rw[Sg.dG]at H⊢;exact⟨by omega,h b i H.2⟩
section
variable {E:Env} {P:Program} {call:aM} {ops:Array Oper} {nt:Nat} {tr:Nat->Fr}
structure Ctx(E:Env)(P:Program)(call:aM)(ops:Array Oper)(nt:Nat)(tr:Nat->Fr):Prop where
 hE:E.OK P
 fb:du P call
 ord:Ie ops
 ok:∀o∈ops.toList,jI nt P.globals.size o=true
 step:∀j o,ops[j]?=some o->DStep E call ops (tr j) o j (tr (j+1))
 ghost:∀j,j<=ops.size->∃σ a w,fK P σ (tr j).m w/\eT σ (tr j).T a nt
theorem fK.low{σ:Sg}{m:M}{w:World}(h:fK P σ m w)(x:Nat):fK P σ {m with low:=x} w:=⟨h.rI,h.obj,h.lt,h.inj,h.kY⟩
theorem AG(hE:E.OK P)(fb:du P call)(b0:∀o∈ops.toList,jI nt P.globals.size o)
  (H:∀j o,ops[j]?=some o->DStep E call ops (tr j) o j (tr (j+1))) {σ:Sg} {a:Act} {w:World} (hs:fK P σ (tr 0).m w) (hf:eT σ (tr 0).T a nt):
  ∀j,j<=ops.size->∃σ a w,fK P σ (tr j).m w/\eT σ (tr j).T a nt
 |0,_=>⟨σ,a,w,hs,hf⟩
 |j+1,hj=>by
  obtain⟨d0,a1,w1,h1,h2⟩:=AG hE fb b0 H hs hf j (by omega)
  have ho:ops[j]?=some ops[j]:=by grind
  have a0:=b0 ops[j] (by simp)
  rcases H j _ ho with⟨_,h⟩ |⟨_,v,m,e0,_,h⟩
  ·rw[h]
   exact⟨d0,a1.put ops[j].dst undef,w1,h1,h2.put (kS a0) bK.undef⟩
  ·rw[h]
   have⟨σ',w',v',hv,he⟩:=(sI hE fb (h1.low (tr j).m.n) e0 (a:=a1) (λx hx=>h2.MY h1 (kR a0 x hx))).1
   exact⟨σ',a1.put ops[j].dst v',w',he.tS.low _,(h2.mono he.ext).put (kS a0) hv⟩
def PA(E:Env)(call:aM)(ops:Array Oper)(tr:Nat->Fr)(j:Nat):Prop:=
 ∃o v m,ops[j]?=some o/\dv ops (tr j).T o=true/\eA o.op E call (tr j).T {(tr j).m with low:=(tr j).m.n}=some (v,m)/\¬(tr j).m.n<=m.low
theorem Ctx.fact(c:Ctx E P call ops nt tr){j:Nat}{o:Oper}(ho:ops[j]?=some o):(tr j).m.n<=(tr (j+1)).m.n/\(tr (j+1)).m.low<=(tr j).m.low/\
  (∀b,b < (tr (j+1)).m.low->b < (tr j).m.n->(tr (j+1)).m.get b=(tr j).m.get b)/\
  (¬PA E call ops tr j->∀b,b < (tr j).m.n->(tr (j+1)).m.get b=(tr j).m.get b):=by
 have e0:j < ops.size:=(abL.1 ho).1;have a0:=c.ok o (by grind);rcases c.step j o ho with⟨_,h⟩ |⟨hw,v,m,b0,hb,h⟩
 ·grind
 obtain⟨g0,a1,w1,h1,h2⟩:=c.ghost j (by omega);have⟨σ',w',v',hv,he⟩:=(sI c.hE c.fb (h1.low (tr j).m.n) b0 (a:=a1) (λx hx=>h2.MY h1 (kR a0 x hx))).1;have hn:=he.KI;have ha:=he.abs;rw[h];refine⟨hn,adI _ _,λb hb H=>ha b (by grind) H,λd0 b H=>ha b ?_ H⟩
 have:(tr j).m.n<=m.low:=by refine abN λhc=>d0 ⟨o,v,m,ho,hw,b0,hc⟩
 omega
theorem Ctx.uF(c:Ctx E P call ops nt tr){j:Nat}{o:Oper}(ho:ops[j]?=some o)(hp:mi o.op):(tr (j+1)).m.n=(tr j).m.n/\¬PA E call ops tr j:=by
 constructor
 ·rcases c.step j o ho with⟨_,h⟩ |⟨hw,v,m,H,hb,h⟩;·rw[h]
  rw[h,Dj hp H]
 ·rintro⟨o',v,m,a0,_,H,hn⟩
  rw[ho]at a0
  cases a0
  rw[Dj hp H]at hn
  grind
theorem Ctx.bar(c:Ctx E P call ops nt tr){j:Nat}(h:PA E call ops tr j):gW ops j/\j < ops.size:=by
 have⟨o,v,m,H,hw,b0,hn⟩:=h;refine⟨?_,(abL.1 H).1⟩;rcases c.step j o H with⟨h0,_⟩ |⟨_,v',m',a0,hb,_⟩
 ·grind
 ·grind
theorem AZ{j:Nat}(h:j < ops.size):∃o,ops[j]?=some o:=⟨ops[j],by simp[h]⟩
theorem Ctx.mono(c:Ctx E P call ops nt tr){i:Nat}:∀k,i<=k->k<=ops.size->(tr i).m.n<=(tr k).m.n/\(tr k).m.low<=(tr i).m.low
 |0,h,_=>by
  grind
 |k+1,h,hk=>by
  by_cases H:i=k+1
  ·grind
  ·obtain⟨h1,h2⟩:=c.mono (i:=i) k (by omega) (by omega)
   obtain⟨o,ho⟩:=AZ (ops:=ops) (show k < ops.size by omega)
   have⟨h3,h4,_⟩:=c.fact ho
   omega
theorem Ctx.qq(c:Ctx E P call ops nt tr){i:Nat}:∀k,i<=k->k<=ops.size->(∀b,i<=b->b < k->¬PA E call ops tr b)->∀x,x < (tr i).m.n->(tr k).m.get x=(tr i).m.get x
 |0,h,_,_,x,_=>by
  grind
 |k+1,h,hk,H,x,hx=>by
  by_cases a0:i=k+1
  ·grind
  ·obtain⟨o,ho⟩:=AZ (ops:=ops) (show k < ops.size by omega)
   have h1:=(c.mono k (show i<=k by omega) (by omega)).1
   rw[(c.fact ho).2.2.2 (H k (show i<=k by omega) (ad1 k)) x (acK hx h1)]
   exact c.qq k (by omega) (by omega) (λb h1 h2=>H b h1 (by omega)) x hx
theorem Ctx.abs(c:Ctx E P call ops nt tr):∀k,k<=ops.size->∀x,x < (tr k).m.low->x < (tr 0).m.n->(tr k).m.get x=(tr 0).m.get x
 |0,_,_,_,_=>rfl
 |k+1,hk,x,H,hn=>by
  obtain⟨o,ho⟩:=AZ (ops:=ops) (show k < ops.size by omega)
  have h1:=(c.mono (i:=0) k (by omega) (by omega)).1
  have⟨_,h2,h3,_⟩:=c.fact ho
  rw[h3 x H (by omega)]
  exact c.abs k (by omega) x (by omega) hn
theorem MM(T:Tr aes){dst:Option Tmp}{t:Tmp}(h:dst≠some t)(v:aes):qu (put T dst v) t=qu T t:=by
 cases dst with
 |none=>rfl
 |some d=>rw[Gr,aa4 (λe=>h (by rw[e]))]
theorem Ctx.Cm(c:Ctx E P call ops nt tr){i t:Nat}:∀k,i<=k->k<=ops.size->(∀j o,i<=j->j < k->ops[j]?=some o->o.dst≠some t)->qu (tr k).T t=qu (tr i).T t
 |0,h,_,_=>by
  grind
 |k+1,h,hk,hb=>by
  by_cases a0:i=k+1
  ·grind
  ·obtain⟨o,ho⟩:=AZ (ops:=ops) (show k < ops.size by omega)
   have H:=hb k o (by omega) (by omega) ho
   have ih:=c.Cm k (by omega) (by omega) (λj o h1 h2=>hb j o h1 (by omega))
   rw[<-ih]
   rcases c.step k o ho with⟨_,h⟩ |⟨_,v,m,_,_,h⟩
   ·rw[h];exact MM _ H _
   ·rw[h];exact MM _ H _
structure Inv(E:Env)(P:Program)(call:aM)(ops:Array Oper)(nt:Nat)(tr:Nat->Fr)(σ0:Sg)(w0:World)(ds:List Deferred)(L:Nat->Prop)(σ:Sg)(a:Act)(w:World):Prop where
 lt:∀i,L i->i < ops.size
 closed:CD ops L
 SS:a.tmps.size=nt
 defs:a.defers=ds
 tmp:∀t,t < nt->∃k,k<=ops.size/\bK (σ.cut (tr k).m.n) (qu (tr k).T t) (a.eval (.tmp t))/\(∀i o,L i->ops[i]?=some o->o.dst=some t->i < k)/\(k=0\/∃o,L (k-1)/\ops[k-1]?=some o/\o.dst=some t)
 Wg:∀k,k<=ops.size->(∀b,PA E call ops tr b->(b < k↔L b))->fK P (σ.cut (tr k).m.n) (tr k).m w
 rI:∀b i,σ b=some i->b < (tr 0).m.n\/∃j,L j/\(tr j).m.n<=b/\b < (tr (j+1)).m.n
 base:σ0.le σ
 new:∀b i,σ b=some i->σ0 b=none->(tr 0).m.n<=b/\(w0.heap.size<=i.cX\/∃b0 i0,σ0 b0=some i0/\i0.cX=i.cX/\(tr ops.size).m.low<=b0)
 hle:w0.heap.size<=w.heap.size
 heap:∀B,B < w0.heap.size->(∀b i,σ0 b=some i->i.cX=B->b < (tr ops.size).m.low)->w.heap[B]?=w0.heap[B]?
 os:w.os=w0.os
 tape:w.tape=w0.tape
 output:w.output=w0.output
 kY:∀g,g < P.globals.size->g < (tr 0).m.n/\σ0 g=some ⟨g,none⟩
variable {σ0 σ:Sg} {w0 w:World} {ds:List Deferred} {L:Nat->Prop} {a:Act}
theorem Inv.names(c:Ctx E P call ops nt tr)(h:Inv E P call ops nt tr σ0 w0 ds L σ a w){j:Nat}{o:Oper}(hj:¬L j)(ho:ops[j]?=some o)(e0:∀e∈o.after,Region.binds .any e->L e.on)
  {t:Nat} (ht:t < nt) (hn:t∈jh ops o):bK (σ.cut (tr j).m.n) (qu (tr j).T t) (a.eval (.tmp t)):=by
 have g0:j < ops.size:=(abL.1 ho).1;have⟨k,hk,hv,hw,H⟩:=h.tmp t ht
 have a0:k<=j:=by
  rcases H with rfl |⟨o',hL,b0,hd⟩;·omega
  refine abN λhc=>?_;have h0:k-1≠j:=λe=>hj (e ▸ hL);rcases c.ord.apart j (k-1) o o' ho b0 (by omega)with hr |⟨h1,_⟩;·exact hj (hr.qc h.closed hL)
  ·grind
 have hT:qu (tr j).T t=qu (tr k).T t:=c.Cm j a0 (by omega) λi oi h1 h2 d0 hd=>by
  rcases c.ord.apart i j oi o d0 ho h2 with hr |⟨_,h3⟩
  ·have:=hr.listed h.closed (λo' b0=>by grind)
   grind
  ·grind
 rw[hT];exact hv.mono (Sg.FX (λ_ _ x=>x) (c.mono j a0 (by omega)).1)
theorem Inv.Dy(c:Ctx E P call ops nt tr)(h:Inv E P call ops nt tr σ0 w0 ds L σ a w){j:Nat}{o:Oper}(hj:¬L j)(ho:ops[j]?=some o){v v':aes}(hT:(tr (j+1)).T=put (tr j).T o.dst v)
  {σ':Sg} (hle:σ.le σ') (hv:bK (σ'.cut (tr (j+1)).m.n) v v'):∀t,t < nt->∃k,k<=ops.size/\bK (σ'.cut (tr k).m.n) (qu (tr k).T t) ((a.put o.dst v').eval (.tmp t))/\
   (∀i H,(i=j\/L i)->ops[i]?=some H->H.dst=some t->i < k)/\(k=0\/∃H,(k-1=j\/L (k-1))/\ops[k-1]?=some H/\H.dst=some t):=by
 intro t ht;have e0:j < ops.size:=(abL.1 ho).1;by_cases hd:o.dst=some t
 ·refine⟨j+1,by omega,?_,?_,.inr ⟨o,.inl rfl,ho,hd⟩⟩
  ·rw[hT,hd,Gr,aa5 rfl]
   have:(a.put (some t) v').eval (.tmp t)=v':=by simp[Act.put,Act.eval,h.SS,ht]
   grind
  rintro i H (rfl |hL) d0 b0;·omega
  refine abN λhc=>?_;rcases c.ord.apart j i o H ho d0 (by omega)with hr |⟨h1,_⟩;·exact hj (hr.qc h.closed hL)
  exact h1 t b0 (by unfold jh;rw[hd];simp)
 have⟨k,hk,hv,hw,a0⟩:=h.tmp t ht;refine⟨k,hk,?_,?_,a0.imp id (λ⟨H,x,y,z⟩=>⟨H,.inr x,y,z⟩)⟩
 ·rw[Act.eval_put (λd b0 he=>by grind)];exact hv.mono (Sg.FX hle (aaV _))
 ·grind
end
end
section
section
variable {E:Env} {P:Program} {call:aM} {ops:Array Oper} {nt:Nat} {tr:Nat->Fr} {σ0 σ:Sg} {w0 w:World} {ds:List Deferred} {L:Nat->Prop} {a:Act}
theorem put_defers(a:Act)(dst:Option Tmp)(v:aes):(a.put dst v).defers=a.defers:=by cases dst <;>rfl
theorem Dh(a:Act)(dst:Option Tmp)(v:aes):(a.put dst v).tmps.size=a.tmps.size:=by cases dst <;>simp[Act.put]
theorem Inv.vF(h:Inv E P call ops nt tr σ0 w0 ds L σ a w){j:Nat}{o:Oper}(ho:ops[j]?=some o)(a0:∀e∈o.after,Region.binds .any e->L e.on):CD ops (λi=>i=j\/L i):=by
 rintro i o' H (rfl |hL) e he hb
 ·grind
 exact .inr (h.closed i o' H hL e he hb)
theorem Inv.same(c:Ctx E P call ops nt tr)(h:Inv E P call ops nt tr σ0 w0 ds L σ a w){j:Nat}{o:Oper}(hj:¬L j)(ho:ops[j]?=some o)(a0:∀e∈o.after,Region.binds .any e->L e.on)
  {v v':aes} (hT:(tr (j+1)).T=put (tr j).T o.dst v) (hb:¬PA E call ops tr j) (hv:bK (σ.cut (tr (j+1)).m.n) v v'):
  Inv E P call ops nt tr σ0 w0 ds (λi=>i=j\/L i) σ (a.put o.dst v') w where
 lt:=by
  rintro i (rfl |hL)
  ·grind
  ·exact h.lt i hL
 closed:=h.vF ho a0
 SS:=by rw[Dh];exact h.SS
 defs:=by rw[put_defers];exact h.defs
 tmp:=h.Dy c hj ho hT (λ_ _ x=>x) hv
 Wg:=λk hk hw=>h.Wg k hk λb H=>(hw b H).trans ⟨λx=>x.resolve_left (λe=>hb (e ▸ H)),.inr⟩
 rI:=λb i hb=>(h.rI b i hb).imp id λ⟨q,x,y⟩=>⟨q,.inr x,y⟩
 base:=h.base
 new:=h.new
 hle:=h.hle
 heap:=h.heap
 os:=h.os
 tape:=h.tape
 output:=h.output
 kY:=h.kY
theorem Inv.KQ(c:Ctx E P call ops nt tr)(h:Inv E P call ops nt tr σ0 w0 ds L σ a w){j:Nat}{o:Oper}(hj:¬L j)(ho:ops[j]?=some o)(a0:∀e∈o.after,Region.binds .any e->L e.on)
  (hp:mi o.op=false):∀b,PA E call ops tr b->(b < j↔L b):=by
 intro b hb;have H:=(c.bar hb).1;rcases qQ H j o ho with rfl |h1 |h1 |h1
 ·grind
 ·grind
 ·have:=h1.lt c.ord.lt;exact⟨λx=>by omega,λx=>absurd (h1.qc h.closed x) hj⟩
 exact⟨λ_=>h1.listed h.closed (λo' b0=>by grind),λ_=>h1.lt c.ord.lt⟩
theorem Inv.effect(c:Ctx E P call ops nt tr)(h:Inv E P call ops nt tr σ0 w0 ds L σ a w){j:Nat}{o:Oper}(hj:¬L j)(ho:ops[j]?=some o)(z0:∀e∈o.after,Region.binds .any e->L e.on)
  (hp:mi o.op=false) {v v':aes} {m:M} {τ:Sg} {w':World} (a0:Ev P (σ.cut (tr j).m.n) {(tr j).m with low:=(tr j).m.n} w τ m w') (hv:bK τ v v')
  (v0:tr (j+1)={T:=put (tr j).T o.dst v,m:={m with low:=min (tr j).m.low m.low}}) (hq:(tr j).m.n<=m.low\/(gW ops j/\PA E call ops tr j)):
  ∃σ',Inv E P call ops nt tr σ0 w0 ds (λi=>i=j\/L i) σ' (a.put o.dst v') w':=by
 have c1:j < ops.size:=(abL.1 ho).1;have d1:(tr (j+1)).m.n=m.n:=by rw[v0]
 have G0:∀b,(tr (j+1)).m.get b=m.get b:=by intro b;rw[v0];rfl
 have H0:(tr (j+1)).m.low<=m.low:=by grind
 have hN:=(c.mono (i:=j+1) ops.size (by omega) (aaV _)).2;have P0:(tr j).m.n<=m.n:=a0.KI
 have I0:∀b i,σ b=some i->¬((tr j).m.n<=b/\b < m.n):=by
  rintro b i H ⟨h1,h2⟩;rcases h.rI b i H with h3 |⟨q,r0,h3,h4⟩
  ·have:=(c.mono (i:=0) j (by omega) (by omega)).1;omega
  have A0:=h.lt q r0;rcases adh q j with J0 |rfl |J0
  ·have:=(c.mono (i:=q+1) j (by omega) (by omega)).1;omega
  ·grind
  have:=(c.mono (i:=j+1) q (by omega) (by omega)).1;omega
 have e1:∀b i,τ b=some i->b < (tr j).m.n->σ b=some i:=by
  intro b i H K0
  cases hs:(σ.cut (tr j).m.n) b with
  |some i'=>have:=a0.ext b i' hs;rw[H]at this;cases this;exact(Sg.dG.1 hs).2
  |none=>
   have:=(a0.new b i H hs).1
   grind
 have B0:∀b i,τ b=some i->b < m.n:=a0.tS.rI;let σ':Sg:=λb=>if(tr j).m.n<=b/\b < m.n then τ b else σ b
 have hle:σ.le σ':=by
  intro b i H
  grind
 have e0:∀k,m.n<=k->τ.le (σ'.cut k):=by
  intro k hk b i H
  have K0:=B0 b i H
  rw[Sg.dG]
  grind
 have k0:∀b i,σ' b=some i->(((tr j).m.n<=b/\b < m.n)/\τ b=some i)\/(¬((tr j).m.n<=b/\b < m.n)/\σ b=some i):=by
  grind
 have g1:=h.KQ c hj ho z0 hp;refine⟨σ',?_⟩;constructor
 ·rintro i (rfl |hL)
  ·grind
  exact h.lt i hL
 ·exact h.vF ho z0
 ·rw[Dh];exact h.SS
 ·rw[put_defers];exact h.defs
 ·exact h.Dy c hj ho (by rw[v0]) hle (hv.mono (by grind))
 ·
  intro k hk hw
  by_cases l0:PA E call ops tr j
  ·
   have n0:j < k:=(hw j l0).2 (.inl rfl)
   have L0:=(c.bar l0).1
   have C0:∀b i,σ b=some i->b < (tr j).m.n:=by
    intro b i H;rcases h.rI b i H with h3 |⟨q,r0,h3,h4⟩
    ·have:=(c.mono (i:=0) j (by omega) (by omega)).1;omega
    have A0:=h.lt q r0;have⟨oq,D0⟩:=AZ (ops:=ops) A0;rcases qQ L0 q oq D0 with rfl |h5 |h5 |h5
    ·grind
    ·have:=(c.uF D0 h5).1;omega
    ·have:=h5.lt c.ord.lt;have:=(c.mono (i:=q+1) j (by omega) (by omega)).1;omega
    exact absurd (h5.qc h.closed r0) hj
   have E0:∀b,j+1<=b->b < k->¬PA E call ops tr b:=by
    grind
   have S0:=c.qq k (show j+1<=k by omega) hk E0
   have N0:=(c.mono (i:=j+1) k (by omega) hk).1
   have heq:∀b i,(σ'.cut (tr k).m.n) b=some i->τ b=some i:=by
    intro b i H;rw[Sg.dG]at H;rcases k0 b i H.2 with⟨_,h1⟩ |⟨_,h1⟩;·exact h1
    exact a0.ext b i (Sg.dG.2 ⟨C0 b i h1,h1⟩)
   have g0:∀b i,τ b=some i->(tr k).m.get b=m.get b:=by
    grind
   have hs:=a0.tS
   refine⟨λb i H=>(Sg.dG.1 H).1,λb i H=>?_,λb i H=>hs.lt b i (heq b i H),λb b' i i' H s0 hd o0=>?_,λg hg=>e0 _ (by omega) g _ (hs.kY g hg)⟩
   ·rw[g0 b i (heq b i H)];exact(hs.obj b i (heq b i H)).bs (e0 _ (by omega)) rfl
   ·rw[g0 b i (heq b i H)]at hd;rw[g0 b' i' (heq b' i' s0)]at o0;exact hs.inj b b' i i' (heq b i H) (heq b' i' s0) hd o0
  ·
   have j1:(tr j).m.n<=m.low:=hq.resolve_right (λx=>l0 x.2)
   have O0:∀b,PA E call ops tr b->(b < k↔L b):=λb H=>(hw b H).trans ⟨λx=>x.resolve_left (λe=>l0 (e ▸ H)),.inr⟩
   have hA:=h.Wg k hk O0
   have y0:∀B,B < w.heap.size->w'.heap[B]?=w.heap[B]?:=λB hB=>a0.heap B hB λb i H _=>by have:=(Sg.dG.1 H).1;omega
   have u0:(σ.cut (tr k).m.n).le (σ'.cut (tr k).m.n):=Sg.FX hle (aaV _)
   have d0:∀b i,(σ'.cut (tr k).m.n) b=some i->(((tr j).m.n<=b/\b < m.n)/\τ b=some i/\j < k)\/(σ.cut (tr k).m.n) b=some i:=by
    intro b i H;rw[Sg.dG]at H;rcases k0 b i H.2 with⟨h1,h2⟩ |⟨_,h2⟩
    ·refine .inl ⟨h1,h2,?_⟩;refine abN λhc=>?_;have:=(c.mono (i:=k) j (by omega) (by omega)).1;omega
    exact .inr (Sg.dG.2 ⟨H.1,h2⟩)
   have g0:j < k->∀b,b < m.n->(tr k).m.get b=m.get b:=by
    intro n0 b H
    rw[c.qq k (show j+1<=k by omega) hk (λb h1 h2 h3=>by
     grind) b (by grind),G0]
   have hs:=a0.tS
   have m0:∀b i,(tr j).m.n<=b->τ b=some i->w.heap.size<=i.cX:=by
    intro b i h1 h2
    have j0:(σ.cut (tr j).m.n) b=none:=by
     cases hx:(σ.cut (tr j).m.n) b with
     |none=>rfl
     |some i'=>have:=(Sg.dG.1 hx).1;omega
    rcases(a0.new b i h2 j0).2 with h3 |⟨b0,i0,h3,_,h5⟩;·exact h3
    have:=(Sg.dG.1 h3).1;omega
   refine⟨λb i H=>(Sg.dG.1 H).1,λb i H=>?_,λb i H=>?_,λb b' i i' H s0 hd o0 he=>?_,λg hg=>u0 g _ (hA.kY g hg)⟩
   ·rcases d0 b i H with⟨h1,h2,n0⟩ |h1
    ·rw[g0 n0 b h1.2];have N0:=(c.mono (i:=j+1) k (by omega) hk).1;exact(hs.obj b i h2).bs (e0 _ (by omega)) rfl
    exact(hA.obj b i h1).bs u0 (y0 _ (hA.lt b i h1))
   ·rcases d0 b i H with⟨_,h2,_⟩ |h1;·exact hs.lt b i h2
    ·have:=hA.lt b i h1
     grind
   ·rcases d0 b i H with⟨h1,h2,n0⟩ |h1 <;>rcases d0 b' i' s0 with⟨p0,F0,a1⟩ |p0
    ·rw[g0 n0 b h1.2]at hd;rw[g0 n0 b' p0.2]at o0;exact hs.inj b b' i i' h2 F0 hd o0 he
    ·have:=m0 b i h1.1 h2;have:=hA.lt b' i' p0;omega
    ·have:=m0 b' i' p0.1 F0;have:=hA.lt b i h1;omega
    exact hA.inj b b' i i' h1 p0 hd o0 he
 ·intro b i H;rcases k0 b i H with⟨h1,_⟩ |⟨_,h1⟩
  ·grind
  exact(h.rI b i h1).imp id λ⟨q,x,y⟩=>⟨q,.inr x,y⟩
 ·exact λb i H=>hle b i (h.base b i H)
 ·intro b i H h0;rcases k0 b i H with⟨h1,h2⟩ |⟨_,h2⟩
  ·have j0:(σ.cut (tr j).m.n) b=none:=by
    cases hx:(σ.cut (tr j).m.n) b with
    |none=>rfl
    |some i'=>have:=(Sg.dG.1 hx).1;omega
   have k1:=(c.mono (i:=0) j (by omega) (by omega)).1;refine⟨by omega,?_⟩;have hh:=h.hle;rcases(a0.new b i h2 j0).2 with h3 |⟨b0,i0,h3,h4,h5⟩
   ·grind
   ·have h3:=(Sg.dG.1 h3).2
    cases q0:σ0 b0 with
    |some i1=>
     have:=h.base b0 i1 q0
     grind
    |none=>
     rcases(h.new b0 i0 h3 q0).2 with h6 |⟨b1,i1,h6,h7,h8⟩
     ·grind
     ·grind
  exact h.new b i h2 h0
 ·have:=h.hle;have:=a0.hle;omega
 ·intro B hB hc
  have hh:=h.hle
  rw[<-h.heap B hB hc]
  refine a0.heap B (by omega) λb i H he=>?_
  have H:=(Sg.dG.1 H).2
  cases q0:σ0 b with
  |some i1=>
   have:=h.base b i1 q0
   grind
  |none=>
   rcases(h.new b i H q0).2 with h6 |⟨b1,i1,h6,h7,h8⟩;·omega
   ·grind
 ·exact a0.os.trans h.os
 ·exact a0.tape.trans h.tape
 ·exact a0.output.trans h.output
 exact h.kY
end
end
end Go.D
