/- THE ABSTRACT RUN 'D': a .. -/
import Derived.OrdersIn
import Derived.RangeFuncLeaves
import Derived.WalkKit
noncomputable section
namespace Go
abbrev Ox:=@Nat.le_refl
abbrev Fx:=@List.getElem?_eq_getElem
abbrev OJ:=@List.getElem?_eq_some_iff
abbrev F9:=@List.getElem?_cons_succ
abbrev Ja:=@of_decide_eq_false
abbrev zi:=@List.getElem?_cons_zero
abbrev LZ:=@List.mem_of_getElem?
abbrev NT:=@of_decide_eq_true
abbrev JJ:=@Bool.and_eq_true
abbrev QL:=@if_neg
abbrev Tf:=@if_pos
abbrev ZE:=@Nat.zero_le
abbrev TN:=@Option.map_some
abbrev No:=@Option.some.injEq
abbrev RN:=@List.mem_cons
abbrev IH:=@decide_eq_true
abbrev vZ:=@Nat.eq_of_beq_eq_true
abbrev Y1:=@Result.andThen_ok
abbrev Zx:=@run_underlying
abbrev zG:=@List.length_cons
abbrev Q1:=@List.take_add_one
abbrev T4:=@cond_false
abbrev OY:=@Sem.run_bind
abbrev Q0:=@Bool.not_eq_false'
abbrev ZX:=@List.not_mem_nil
abbrev OH:=@List.mem_append
abbrev EU:=@decide_eq_true_eq
abbrev NN:=@List.length_append
abbrev Tq:=@Option.map_eq_some_iff
abbrev ZZ:=@List.getElem?_of_mem
abbrev Qk:=@List.mem_singleton
abbrev Jd:=@Bool.not_eq_true'
abbrev Gv:=@List.length_map
abbrev QM:=@List.take_of_length_le
abbrev GK:=@List.length_nil
abbrev V9:=@List.take_length
abbrev Dh:=@decide_eq_false
abbrev WO:=@List.append_assoc
abbrev Cu:=@List.map_append
abbrev Px:=@List.pairwise_iff_getElem
abbrev Jl:=@List.all_eq_true
abbrev JO:=@Nat.le_of_ble_eq_true
abbrev LY:=@List.mem_map
abbrev Wl:=@Nat.zero_add
abbrev WN:=@List.filter_append
abbrev ZD:=@Bool.true_and
abbrev Wg:=@Sem.run_pure
abbrev Zu:=@List.append_nil
abbrev QA:=@List.drop_zero
abbrev Ty:=@Classical.byContradiction
abbrev W6:=@List.mem_cons_of_mem
abbrev Cc:=@Nat.ble_eq_true_of_le
abbrev Ph:=@Array.getElem?_eq_some_iff
abbrev zN:=@List.mem_cons_self
abbrev Lm:=@List.filter_cons
abbrev RL:=@List.mem_filter
abbrev JK:=@List.drop_eq_getElem_cons
abbrev V8:=@Bool.not_true
abbrev Mm:=@Nat.ne_of_beq_eq_false
abbrev Me:=@Option.bind_eq_some_iff
abbrev xU:=@Prod.mk.injEq
abbrev ZW:=@Nat.mul_le_mul_right
abbrev JL:=@List.any_eq_true
abbrev Gy:=@List.length_take
abbrev T8:=@Option.map_none
abbrev Z0:=@List.getElem?_map
abbrev zC:=@List.getElem?_append_right
abbrev Je:=@List.eq_nil_of_length_eq_zero
abbrev OG:=@List.ext_getElem?
abbrev JY:=@Nat.add_mul
abbrev Y7:=@List.pairwise_append
abbrev Gf:=@Option.toList_some
abbrev Zv:=@List.pairwise_cons
abbrev YB:=@Nat.le_trans
abbrev Gw:=@List.take_append_drop
abbrev Zi:=@List.nil_append
abbrev M8:=@List.getElem?_eq_none
abbrev Ei:=@List.length_filter_le
abbrev KQ:=@Int.mul_nonneg
abbrev Wa:=@List.take_succ_cons
abbrev Nd:=@decide_eq_false_iff_not
abbrev QH:=@List.getElem?_append_left
abbrev Kb:=@List.getElem?_drop
abbrev NU:=@List.getElem?_take_of_lt
abbrev NP:=@Array.getD_eq_getD_getElem?
abbrev Fw:=@List.flatMap_cons
abbrev Qc:=@List.drop_succ_cons
abbrev rJ:=@List.flatMap_append
abbrev Gm:=@List.range_succ
abbrev Qf:=@Bool.or_eq_true
abbrev Pz:=@Nat.le_succ
abbrev Kz:=@Bool.or_eq_false_iff
abbrev Jv:=@List.cons_append
abbrev QO:=@Nat.beq_refl
abbrev zI:=@List.take_zero
abbrev ME:=@Array.length_toList
abbrev QJ:=@List.filter_eq_self
abbrev Wm:=@List.filter_nil
abbrev Rl:=@Nat.mod_eq_of_lt
abbrev IV:=@Nat.lt_of_lt_of_le
abbrev Kt:=@List.map_cons
abbrev Qw:=@Bool.false_or
abbrev Bv:=@List.mem_range
abbrev WZ:=@List.mem_map_of_mem
abbrev KR:=@Nat.one_mul
abbrev PD:=@Nat.add_zero
abbrev TH:=@Nat.mod_lt
abbrev Km:=@Bool.not_false
abbrev KF:=@List.mem_iff_getElem?
abbrev Po:=@List.mem_filterMap
abbrev F7:=@Int.mul_eq_zero
abbrev IW:=@List.foldl_cons
abbrev OO:=@List.mem_of_mem_take
abbrev VS:=@List.any_eq_false
abbrev WL:=@List.drop_drop
abbrev zJ:=@Bool.false_and
abbrev Bd:=@Option.bind_some
abbrev Gl:=@List.drop_eq_nil_of_le
abbrev OZ:=@Nat.blt_eq
abbrev JE:=@Nat.zero_mul
abbrev RK:=@if_true
abbrev Z1:=@List.filterMap_append
abbrev Wp:=@Int.mul_nonpos_of_nonneg_of_nonpos
abbrev RR:=@List.foldl_append
abbrev ZT:=@List.mem_of_find?_eq_some
abbrev Dk:=@Int.mul_pos
abbrev VZ:=@Option.getD_some
abbrev KB:=@List.mem_flatMap
abbrev WR:=@List.length_filterMap_le
abbrev ZQ:=@List.filterMap_cons
abbrev Cz:=@Bool.or_false
abbrev Z7:=@List.filterMap_nil
abbrev By:=@Nat.lt_of_le_of_lt
abbrev QS:=@Nat.lt_trichotomy
abbrev QR:=@List.length_range
abbrev Te:=@List.pairwise_map
abbrev wo:=@Array.getElem?_toList
abbrev Tu:=@Array.ext'
abbrev VY:=@List.length_drop
abbrev TZ:=@List.getElem?_eq_none_iff
abbrev OT:=@Bool.eq_iff_iff
abbrev Fl:=@List.find?_eq_none
abbrev Rj:=@List.map_nil
abbrev EA:=@Int.le_of_lt
abbrev KA:=@Nat.sub_zero
abbrev zP:=@Array.foldl_toList
abbrev RZ:=@Option.isSome_iff_exists
abbrev FM:=@List.getElem?_take
abbrev Qv:=@Bool.and_false
abbrev Pj:=@List.length_eq_zero_iff
abbrev Gg:=@Nat.add_sub_cancel_left
abbrev TP:=@List.size_toArray
abbrev DD:=@Array.getElem?_push_lt
abbrev OD:=@List.filter_eq_nil_iff
abbrev Lf:=@List.take_append
abbrev GC:=@List.drop_length
abbrev Wr:=@Array.getElem?_modify
abbrev Kv:=@Nat.add_comm
abbrev Wf:=@Int.mul_le_mul_of_nonneg_right
abbrev VU:=@List.all_append
abbrev RU:=@Nat.min_le_left
abbrev Z4:=@List.eq_nil_iff_forall_not_mem
abbrev BT:=@Nat.min_eq_left
abbrev ZJ:=@List.mem_of_mem_drop
abbrev Tz:=@Int.mul_le_mul_of_nonneg_left
abbrev JV:=@Nat.mul_le_mul
abbrev Pc:=@Bool.false_eq_true
abbrev BH:=@Nat.sub_add_cancel
abbrev RV:=@List.set_cons_succ
abbrev Bs:=@Option.isNone_some
abbrev Nx:=@Bool.and_true
abbrev RE:=@List.map_take
abbrev Ee:=@List.drop_sublist
abbrev JQ:=@List.nodup_append
abbrev TR:=@Array.mapM_eq_mapM_toList
abbrev OV:=@Int.lt_or_le
abbrev Gi:=@Nat.mod_self
abbrev Rs:=@Int.mul_emod
abbrev R0:=@Nat.min_self
abbrev MY:=@Array.getElem?_replicate
abbrev OS:=@Nat.lt_succ_self
abbrev ET:=@Nat.min_le_right
abbrev Zj:=@List.cons.injEq
abbrev V5:=@Nat.div_le_self
abbrev Wd:=@List.drop_of_length_le
abbrev On:=@Int.le_refl
abbrev RO:=@Int.mul_neg
abbrev Q8:=@Array.getElem_push_eq
abbrev Ix:=@List.singleton_append
abbrev Gx:=@List.take_take
abbrev MO:=@Bool.and_self
abbrev TX:=@List.drop_set
abbrev Zb:=@List.all_cons
abbrev IF:=@Array.toList_append
abbrev Fu:=@List.length_pos_iff
abbrev JU:=@List.toList_toArray
abbrev Z6:=@List.filter_sublist
abbrev Ks:=@List.getElem?_range
abbrev FI:=@Nat.add_sub_cancel'
abbrev FY:=@Option.isSome_none
abbrev LP:=@Nat.mod_eq_sub_mod
abbrev Md:=@Option.isNone_none
abbrev Mt:=@Bool.not_not
abbrev BV:=@Int.mul_zero
abbrev Nh:=@List.map_map
abbrev QY:=@Int.emod_lt_of_pos
abbrev Gn:=@Nat.lt_or_ge
abbrev zE:=@Int.neg_mul
abbrev Ou:=@Nat.sub_mul
abbrev Ga(b o:Nat):Value:=.pointer (some ⟨b,o,none⟩)
abbrev KI(b o n c:Nat):Value:=.slice (some ⟨b,o,none⟩) n c
abbrev Φ:=Value
abbrev Bt:=List Value
abbrev YM:Value:=.slice none 0 0
abbrev Ku:Value:=.bool true
abbrev Zf:Value:=.bool false
abbrev YR:=Value.int .i64
end Go
namespace Go.D
open Go
section
inductive Tr (α:Type) where
 |e
 |n (v:Option α) (l r:Tr α)
 deriving Inhabited
def Tr.get{α:Type}(t:Tr α):Nat->Option α:=
 Tr.rec (motive:=λ_=>Nat->Option α) (λ_=>none)
  (λv _ _ H gr i=>bif Nat.beq i 0 then v else bif Nat.beq ((i-1)%2) 0 then H ((i-1)/2)else gr ((i-1)/2)) t
theorem Tr.yN{α:Type}(i:Nat):(Tr.e:Tr α).get i=none:=rfl
theorem Tr.pC{α:Type}(v:Option α)(l r:Tr α):(Tr.n v l r).get 0=v:=rfl
theorem Tr.jx{α:Type}(v:Option α)(l r:Tr α)(i:Nat):(Tr.n v l r).get (i+1)=bif Nat.beq (i%2) 0 then l.get (i/2)else r.get (i/2):=rfl
def Tr.single{α:Type}(x:α):Nat->Nat->Tr α
 |0,_=> .n (some x) .e .e
 |_+1,0=> .n (some x) .e .e
 |f+1,i+1=>bif Nat.beq (i%2) 0 then .n none (single x f (i/2)) .e else .n none .e (single x f (i/2))
def Tr.set{α:Type}(t:Tr α):Nat->α->Tr α:=
 Tr.rec (motive:=λ_=>Nat->α->Tr α) (λi x=>Tr.single x i i)
  (λv l r sl H i x=>bif Nat.beq i 0 then .n (some x) l r else bif Nat.beq ((i-1)%2) 0 then .n v (sl ((i-1)/2) x) r else .n v l (H ((i-1)/2) x)) t
theorem Tr.MS{α:Type}(i:Nat)(x:α):(Tr.e:Tr α).set i x=Tr.single x i i:=rfl
theorem Tr.xM{α:Type}(v:Option α)(l r:Tr α)(x:α):(Tr.n v l r).set 0 x=.n (some x) l r:=rfl
theorem Tr.xN{α:Type}(v:Option α)(l r:Tr α)(i:Nat)(x:α):(Tr.n v l r).set (i+1) x=bif Nat.beq (i%2) 0 then .n v (l.set (i/2) x) r else .n v l (r.set (i/2) x):=rfl
structure Fd where
 ty:Nat
 off:Nat
 size:Nat
 blank:Bool
inductive Kd where
 |b |i |s
inductive TD where
 |bool
 |int (k:IntKind)
 |str
 |ptr (e:Nat)
 |slice (e:Nat)
 |array (n e:Nat)
 |map (k e:Nat)
 |struct (fs:List Fd)
 |func
 |iface (empty:Bool)
 |other
structure TI where
 d:TD
 size:Nat
 bytes:Nat
 es:Nat
 zero:Option Φ
 cmp:Option (List Kd)
structure Env where
 ty:Tr TI
 fn:Tr Func
 G:Nat
def TD.agg:TD->Bool
 |.struct _ |.array _ _=>true
 |_=>false
def gX(P:Program):TypeDesc->TD
 |.bool=> .bool
 |.int k=> .int k
 |.string=> .str
 |.pointer e=> .ptr e
 |.slice e=> .slice e
 |.array n e=> .array n e
 |.map k e=> .map k e
 |.struct H=> .struct (H.toList.map λf=>⟨f.type,f.offset,((P.info? f.type).map (·.size)).getD 0,f.name== "_" ||(P.info? f.type).isNone⟩)
 |.func _ _ _=> .func
 |.interface ms=> .iface ms.isEmpty
 |_=> .other
def kinds(g:TypeId->Option (List Kd)):List Field->Nat->Option (List Kd)
 |[],_=>some []
 |f::fs,off=>if f.name= "_" then none else if f.offset=off then
   match g f.type with
   |some H=>match kinds g fs (off+H.length)with
    |some r=>some (H++r)
    |none=>none
   |none=>none
  else none
def nQ(H:List Kd):Nat->List Kd
 |0=> []
 |n+1=>H++nQ H n
def sized(P:Program)(t:TypeId)(r:Option (List Kd)):Option (List Kd):=
 match r,P.info? t with
 |some H,some i=>if H.length=i.size then some H else none
 |_,_=>none
def lJ(P:Program):Nat->TypeId->Option (List Kd)
 |0,_=>none
 |d+1,t=>sized P t (match P.underlying t with
  |some .bool=>some [.b]
  |some (.int _)=>some [.i]
  |some .string=>some [.s]
  |some (.struct fs)=>if P.stoodInHeld t then none else kinds (lJ P d) fs.toList 0
  |some (.array n e)=>match lJ P d e with
   |some H=>if n*H.length<=64 then some (nQ H n)else none
   |none=>none
  |_=>none)
def yU(P:Program):TypeDesc->Nat
 |.slice e |.array _ e=>((P.info? e).map (·.size)).getD 0
 |_=>0
def Ii(P:Program)(t:TypeId):TypeDesc->Option (List Kd)
 |.struct _ |.array _ _=>if P.eqGuardType P.depth t then none else lJ P 12 t
 |_=>none
def TS(P:Program)(t:TypeId):Option TI:=do
 let i<-P.info? t
 let u<-P.underlying t
 some {d:=gX P u,size:=i.size,bytes:=i.bytes,es:=yU P u,zero:=i.zero,cmp:=Ii P t u}
inductive Ex where
 |normal
 |exit (id:Nat)
 |ret
 deriving DecidableEq,Inhabited
structure zx where
 T:Tr Φ
 ps:Array Tmp
 assign:Code
 body:Code
 st:LoopState
 sJ:Option Ex
 G:Nat
 deriving Inhabited
inductive Ob where
 |dead
 |cells (c:Bt) (e:TypeId) (g:Option Nat)
 |map (es:List MapEntry) (clock:Nat)
 |loop (r:zx)
 |ro (c:Bt)
 deriving Inhabited
structure M where
 st:Tr Ob
 n:Nat
 low:Nat
 deriving Inhabited
def M.get(m:M)(b:Nat):Ob:=bif Nat.blt b m.n then(m.st.get b).getD .dead else .dead
def M.push(m:M)(o:Ob):M:={m with st:=m.st.set m.n o,n:=m.n+1}
def M.set(m:M)(b:Nat)(o:Ob):M:={m with st:=m.st.set b o,low:=min m.low b}
def bw:Φ->Bool
 |.bool _ |.int _ _ |.float _ _ |.complex _ _ _ |.string _ |.nilFunc |.nilIface |.pointer none |.map none |.chan none |.slice none 0 0=>true
 |.func (.func _) a b=>a.toList.isEmpty && b.toList.isEmpty
 |.iface _ (.agg cs)=>cs.toList.isEmpty
 |_=>false
def dC:Φ->Bool
 |.agg cs=>cs.toList.all bw
 |v=>bw v
def bA:Φ->Bool
 |.tuple H=>H.toList.all dC
 |v=>dC v
def Tr.zA{α:Type}:Tr α->Nat->Nat->List (Nat×α)
 |.e,_,_=> []
 |.n v l r,a,b=>(match v with |some x=> [(b,x)] |none=> [])++(l.zA (2*a) (a+b)++r.zA (2*a) (2*a+b))
def rz(n G:Nat):Operand->Bool
 |.tmp t=>Nat.blt t n
 |.const v=>dC v
 |.global g=>Nat.blt g G
 |.func _=>true
def jI(n G:Nat)(o:Oper):Bool:=o.op.operands.toList.all (rz n G) && (match o.dst with |some d=>Nat.blt d n |none=>true)
def jg(ops:Array Oper)(o:Oper):List Tmp:=
 o.dst.toList++(o.op.operands.toList.filterMap (λ|.tmp t=>some t |_=>none)++(match o.guard with |some (j,_)=>((ops[j]?).bind (·.dst)).toList |none=> []))
def BJ(ops:Array Oper):Bool:=
 let b:=Region.before ops
 (ops.toList.zipIdx.all λ(o,j)=>o.after.toList.all (λe=> !Region.binds .any e ||Nat.blt e.on j) &&
  ops.toList.zipIdx.all λ(H,i)=> !(Nat.blt i j) ||(b.getD j 0).testBit i ||
   ((match o.dst with |some d=> !(jg ops H).contains d |none=>true) && (match H.dst with |some d=> !(jg ops o).contains d |none=>true)))
def oM:Code->Bool
 |.seq a b=>oM a && oM b
 |.cond _ x y=>oM x && oM y
 |.block _ c |.loop c |.scope c=>oM c
 |.rangeFunc ..=>false
 |_=>true
def fD(n G:Nat):Code->Bool
 |.region _ ops d=>ops.toList.all (jI n G) && (!d ||BJ ops)
 |.seq a b=>fD n G a && fD n G b
 |.cond c x y=>rz n G c && (fD n G x && fD n G y)
 |.block _ c |.loop c |.scope c=>fD n G c
 |.rangeFunc f ps a b=>rz n G f && (ps.toList.all (Nat.blt · n) && (fD n G a && fD n G b))
 |_=>true
def yr(G:Nat)(fn:Func):Bool:=
 (match fn.body with |some c=>fD fn.ntmps G c |none=>true) && (fn.name != "runtime.NumGoroutine" &&
 fn.results.toList.all λ|.tmp t=>Nat.blt t fn.ntmps |.cell a _=>Nat.blt a fn.ntmps)
def Env.Le(E:Env):Bool:=
 ((E.ty.zA 1 0).all λp=>(match p.2.zero with |some z=>bA z |none=>true) &&
  (match p.2.d with |.struct H=>H.all (λf=>match E.ty.get f.ty with |some fi=>fi.size==f.size |none=>false) |_=>true)) &&
 (E.fn.zA 1 0).all λp=>yr E.G p.2
structure Env.OK(E:Env)(P:Program):Prop where
 ty:∀t ti,E.ty.get t=some ti->TS P t=some ti
 fn:∀f fn,E.fn.get f=some fn->P.funcs[f]?=some fn
 G:E.G=P.globals.size
 Le:E.Le=true
 mixed:P.follows .mixedOrders=true
def one:Φ->Bool
 |.agg _ |.tuple _=>false
 |_=>true
def cells:Φ->Bt
 |.agg cs=>cs.toList
 |v=> [v]
noncomputable section
variable (E:Env)
def vg(t:TypeId):Option Φ:=(E.ty.get t).bind (·.zero)
def cellAt(m:M)(a:Addr):Option Φ:=
 match m.get a.block with
 |.cells c _ _=>if a.spot.isNone then c[a.off]? else none
 |.ro c=>if a.spot.isNone then(match c[a.off]? with |some v=>bif one v then some v else none |none=>none)else none
 |_=>none
def loadCells(m:M)(a:Addr)(n:Nat):Option (Bt):=
 match m.get a.block with
 |.cells c _ _=>bif a.spot.isNone && Nat.ble (a.off+n) c.length then some ((c.drop a.off).take n)else none
 |.ro c=>bif a.spot.isNone && Nat.ble (a.off+n) c.length && ((c.drop a.off).take n).all one then some ((c.drop a.off).take n)else none
 |_=>none
def storeCells(m:M)(a:Addr)(vs:Bt):Option M:=
 match m.get a.block with
 |.cells c e g=>
  bif a.spot.isNone && Nat.ble (a.off+vs.length) c.length && vs.all one then
   some (m.set a.block (.cells (c.take a.off++(vs++c.drop (a.off+vs.length))) e g))
  else none
 |_=>none
def loadVar(m:M)(t:TypeId)(a:Addr):Option Φ:=
 match E.ty.get t with
 |some H=>bif H.d.agg then(loadCells m a H.size).map (λcs=> .agg cs.toArray)else cellAt m a
 |none=>none
def storeVar(m:M)(t:TypeId)(a:Addr)(v:Φ):Option M:=
 match E.ty.get t with
 |some H=>bif Nat.beq (cells v).length H.size then storeCells m a (cells v)else none
 |none=>none
def newVar(m:M)(t:TypeId)(v:Φ):Φ×M:=(.pointer (some ⟨m.n,0,none⟩),m.push (.cells (cells v) t none))
def part(t:TypeId)(cs:Bt)(off:Nat):Option Φ:=
 match E.ty.get t with
 |some H=>bif H.d.agg then(bif Nat.ble (off+H.size) cs.length then some (.agg ((cs.drop off).take H.size).toArray)else none)else cs[off]?
 |none=>none
def HX:Kd->Φ->Φ->Option Bool
 |.b,.bool a,.bool b=>some (a==b)
 |.i,.int k a,.int H b=>if k=H then some (a==b)else none
 |.s,.string a,.string b=>some (a==b)
 |_,_,_=>none
def cp:List Kd->Bt->Bt->Option Bool
 |[],[],[]=>some true
 |k::H,a::x,b::y=>
  match HX k a b,cp H x y with
  |some c,some r=>some (c && r)
  |_,_=>none
 |_,_,_=>none
def eq?(t:TypeId)(x y:Φ):Option Bool:=
 match E.ty.get t with
 |none=>none
 |some H=>
  match H.d,x,y with
  |.bool,.bool a,.bool b=>some (a==b)
  |.int _,.int k a,.int k' b=>if k=k' then some (a==b)else none
  |.str,.string a,.string b=>some (a==b)
  |.struct _,.agg xs,.agg ys=>match H.cmp with |some ks=>cp ks xs.toList ys.toList |none=>none
  |.array _ _,.agg xs,.agg ys=>match H.cmp with |some ks=>cp ks xs.toList ys.toList |none=>none
  |.slice _,.slice none _ _,.slice b _ _=>some b.isNone
  |.slice _,.slice (some _) _ _,.slice none _ _=>some false
  |.map _ _,.map none,.map b=>some b.isNone
  |.map _ _,.map (some _),.map none=>some false
  |.func,.nilFunc,.nilFunc=>some true
  |.func,.nilFunc,.func _ _ _=>some false
  |.func,.func _ _ _,.nilFunc=>some false
  |.ptr _,.pointer none,.pointer b=>some b.isNone
  |.ptr _,.pointer (some _),.pointer none=>some false
  |.iface true,.nilIface,.nilIface=>some true
  |_,_,_=>none
def iH(op:BinOp)(k:IntKind)(a b:Int):Option Φ:=
 match op with
 |.add=>some (.int k (k.wrap (a+b)))
 |.sub=>some (.int k (k.wrap (a-b)))
 |.mul=>some (.int k (k.wrap (a*b)))
 |.quo=>if b=0 then none else some (.int k (k.wrap (a.tdiv b)))
 |.rem=>if b=0 then none else some (.int k (a.tmod b))
 |.and=>some (.int k (k.wrap (BitVec.ofInt k.bits a &&& BitVec.ofInt k.bits b).toNat))
 |.or=>some (.int k (k.wrap (BitVec.ofInt k.bits a |||BitVec.ofInt k.bits b).toNat))
 |.xor=>some (.int k (k.wrap (BitVec.ofInt k.bits a ^^^ BitVec.ofInt k.bits b).toNat))
 |.andNot=>some (.int k (k.wrap (BitVec.ofInt k.bits a &&& ~~~(BitVec.ofInt k.bits b)).toNat))
 |.eql=>some (.bool (a==b))
 |.neq=>some (.bool (a !=b))
 |.lss=>some (.bool (a < b))
 |.leq=>some (.bool (a<=b))
 |.gtr=>some (.bool (a >b))
 |.geq=>some (.bool (a>=b))
 |_=>none
def GB(op:BinOp)(a b:ByteArray):Option Φ:=
 match op with
 |.add=>if((a.size+b.size:Nat):Int) >IntKind.i64.max then none else some (.string (a++b))
 |.eql=>some (.bool (a.toList==b.toList))
 |.neq=>some (.bool !(a.toList==b.toList))
 |.lss=>some (.bool (Op.bytesLess a.toList b.toList))
 |_=>none
def aA(op:BinOp)(t:TypeId)(x y:Φ):Option Φ:=
 match op,x,y with
 |.shl,.int k a,.int _ b=>if b < 0 then none else some (.int k (k.wrap (a*2 ^ (min b.toNat k.bits))))
 |.shr,.int k a,.int _ b=>if b < 0 then none else some (.int k (a.fdiv (2 ^ (min b.toNat k.bits))))
 |op,.int k a,.int H b=>if k=H then iH op k a b else none
 |op,.string a,.string b=>GB op a b
 |.eql,x,y=>(eq? E t x y).map .bool
 |.neq,x,y=>(eq? E t x y).map (λb=> .bool !b)
 |_,_,_=>none
def cU(op:UnOp)(x:Φ):Option Φ:=
 match op,x with
 |.neg,.int k n=>some (.int k (k.wrap (0-n)))
 |.not,.bool b=>some (.bool !b)
 |_,_=>none
def Ps(src dst:TypeId)(x:Φ):Option Φ:=
 match E.ty.get src,E.ty.get dst,x with
 |some _,some H,.int _ n=>match H.d with |.int k=>some (.int k (k.wrap n)) |_=>none
 |some _,some H,.string s=>match H.d with |.str=>some (.string s) |_=>none
 |_,_,_=>none
def fill(place:Nat->Option (Nat×Nat))(cs:Bt):List (Nat×Φ)->Option (Bt)
 |[]=>some cs
 |(i,v)::rest=>
  match place i with
  |none=>none
  |some (off,size)=>
   bif Nat.beq (cells v).length size && Nat.ble (off+size) cs.length then fill place (cs.take off++(cells v++cs.drop (off+size))) rest else none
def aJ(t:TypeId)(parts:List (Nat×Φ)):Option Φ:=
 match E.ty.get t with
 |none=>none
 |some H=>
  match H.zero,H.d with
  |some z,.struct fs=>(fill (λi=>(fs[i]?).map λf=>(f.off,f.size)) (cells z) parts).map λcs=> .agg cs.toArray
  |some z,.array _ _=>bif Nat.beq H.es 0 then none else(fill (λi=>some (i*H.es,H.es)) (cells z) parts).map λcs=> .agg cs.toArray
  |_,_=>none
def lS(z:Bt):Nat->Bt
 |0=> []
 |n+1=>z++lS z n
def aF(m:M)(t:TypeId)(len:Nat)(parts:List (Nat×Φ)):Option (Φ×M):=
 match E.ty.get t with
 |none=>none
 |some H=>
  match H.d with
  |.slice e=>
   match vg E e with
   |none=>none
   |some z=>
    bif Nat.beq (cells z).length H.es && Nat.ble (len*H.es) 1048576 then
     (fill (λi=>some (i*H.es,H.es)) (lS (cells z) len) parts).map λcs=>(.slice (some ⟨m.n,0,none⟩) len len,m.push (.cells cs e none))
    else none
  |_=>none
def af(s:TypeId)(x:Φ)(i:Nat):Option Φ:=
 match E.ty.get s,x with
 |some H,.pointer (some a)=>
  match H.d with
  |.struct fs=>match fs[i]? with
   |some f=>bif Nat.beq f.size 0 then none else some (.pointer (some (a.add f.off)))
   |none=>none
  |_=>none
 |_,_=>none
def ak(t:TypeId)(x ix:Φ):Option Φ:=
 match E.ty.get t with
 |none=>none
 |some H=>
  match H.d,x,ix with
  |.slice _,.slice (some a) n _,.int _ i=>if 0<=i/\i < n/\0 < H.es then some (.pointer (some (a.add (i.toNat*H.es))))else none
  |.array n _,.pointer (some a),.int _ i=>if 0<=i/\i < n/\0 < H.es then some (.pointer (some (a.add (i.toNat*H.es))))else none
  |_,_,_=>none
def index?(t:TypeId)(x ix:Φ):Option Φ:=
 match E.ty.get t with
 |none=>none
 |some H=>
  match H.d,x,ix with
  |.array n e,.agg cs,.int _ i=>if 0<=i/\i < n then part E e cs.toList (i.toNat*H.es)else none
  |.str,.string s,.int _ i=>if 0<=i then(s[i.toNat]?).map (λb=> .int .u8 b.toNat)else none
  |_,_,_=>none
def rR(x:Φ)(y:Nat):Option Nat:=
 match x with
 |.int _ i=>if 0<=i/\i<=y then some i.toNat else none
 |_=>none
def fF(len cap:Nat)(lo hi H:Option Φ):Option (Nat×Nat×Nat):=
 match(match H with |some v=>rR v cap |none=>some cap)with
 |none=>none
 |some m=>
  match(match hi,H with |some v,_=>rR v m |none,none=>some len |none,some _=>none)with
  |none=>none
  |some h=>
   match(match lo with |some v=>rR v h |none=>some 0)with
   |none=>none
   |some l=>some (l,h,m)
def Df(m:M)(a:Addr):Bool:=match m.get a.block with |.cells _ _ none=>false |_=>true
def slice?(m:M)(t:TypeId)(x:Φ)(lo hi mx:Option Φ):Option Φ:=
 match E.ty.get t with
 |none=>none
 |some H=>
  match H.d,x with
  |.str,.string s=>
   match mx,fF s.size s.size lo hi none with
   |none,some (l,h,_)=>some (.string (s.extract l h))
   |_,_=>none
  |.slice _,.slice none 0 0=>
   match fF 0 0 lo hi mx with
   |some _=>bif Nat.beq H.es 0 then none else some (.slice none 0 0)
   |none=>none
  |.slice _,.slice (some a) n c=>
   match fF n c lo hi mx,m.get a.block with
   |some (l,h,k),.cells cs _ g=>
    bif Nat.beq H.es 0 || !(Nat.ble n c)then none
    else match g with
     |none=>some (.slice (some (bif Nat.beq k l then a else a.add (l*H.es))) (h-l) (k-l))
     |some k0=>
      bif Nat.beq k0 H.es then
       some (.slice (some (bif Nat.beq k l && !(mx.isNone && Nat.beq (a.off+c*H.es) cs.length)then a else a.add (l*H.es))) (h-l) (k-l))
      else none
   |some (l,h,k),.ro _=>
    bif Nat.beq H.es 0 || !(Nat.ble n c)then none else some (.slice (some (bif Nat.beq k l then a else a.add (l*H.es))) (h-l) (k-l))
   |_,_=>none
  |.array n _,.pointer (some a)=>
   match fF n n lo hi mx with
   |some (l,h,k)=>bif Df m a ||Nat.beq H.es 0 then none else some (.slice (some (bif Nat.beq k l then a else a.add (l*H.es))) (h-l) (k-l))
   |none=>none
  |_,_=>none
def wi(m:M)(t:TypeId)(x:Φ):Option Φ:=
 match E.ty.get t with
 |none=>none
 |some H=>
  match H.d,x with
  |.str,.string s=>some (.int .i64 s.size)
  |.array n _,_=>some (.int .i64 n)
  |.slice _,.slice _ n _=>some (.int .i64 n)
  |.map _ _,.map none=>some (.int .i64 0)
  |.map _ _,.map (some r)=>match m.get r with |.map es _=>some (.int .i64 es.length) |_=>none
  |_,_=>none
def Ef(f:Int->Int->Int)(k:IntKind)(x:Int):Bt->Option Φ
 |[]=>some (.int k x)
 |.int _ y::rest=>Ef f k (f x y) rest
 |_=>none
def fy(f:Int->Int->Int):Bt->Option Φ
 |.int k x::rest=>Ef f k x rest
 |_=>none
def first?(m:M)(s n:Nat)(x:Φ):Option (Bt):=
 match x with
 |.slice (some a) _ _=>bif Nat.beq n 0 then some []else loadCells m a (n*s)
 |.slice none _ _=>some []
 |.string b=>some ((b.extract 0 n).data.toList.map λb=> .int .u8 b.toNat)
 |_=>none
def lX:Φ->Option Nat
 |.slice _ n _=>some n
 |.string s=>some s.size
 |_=>none
def lY(m:M)(e k:Nat)(base:Option Addr)(sl sc H:Nat)(news:Bt):Option (Φ×M):=
 match base with
 |none=>bif Nat.beq sl 0 && Nat.beq sc 0 then some (.slice (some ⟨m.n,0,none⟩) H H,m.push (.cells news e (some k)))else none
 |some a=>
  match m.get a.block,(bif Nat.beq sl 0 then some []else loadCells m a (sl*k))with
  |.cells c te g,some fh=>
   bif g.isNone ||(g==some k && Nat.blt (a.off+sc*k) c.length)then
    some (.slice (some ⟨m.n,0,none⟩) H H,m.push (.cells (fh++news) e (some k)))
   else bif g==some k && Nat.beq a.off 0 && a.spot.isNone && Nat.beq (sl*k) c.length && Nat.beq sc sl && Nat.beq te e then
    some (.slice (some ⟨m.n,0,none⟩) H H,(m.set a.block .dead).push (.cells (fh++news) e (some k)))
   else none
  |_,_=>none
def gw(o:Option Φ)(n:Nat):Bool:=match o with |some z=>Nat.beq (cells z).length n |none=>false
def dU(m:M)(t u:TypeId)(s x:Φ):Option (Φ×M):=
 match E.ty.get t,E.ty.get u,s,lX x with
 |some H,some ui,.slice base sl sc,some n=>
  match H.d,ui.d with
  |_,.int _=>none
  |.slice e,_=>
   match E.ty.get e,first? m H.es n x with
   |some ei,some news=>
    bif Nat.beq H.es 0 ||Nat.blt 65536 ei.bytes || !news.all one ||Nat.blt 268435456 (sl+n) || !Nat.beq news.length (n*H.es) || !gw ei.zero H.es then none
    else bif Nat.ble (sl+n) sc then
     match base with
     |some a=>(bif Nat.beq n 0 then some m else storeCells m (a.add (sl*H.es)) news).map λm=>(.slice (some a) (sl+n) sc,m)
     |none=>bif Nat.beq n 0 then some (.slice none sl sc,m)else none
    else lY m e H.es base sl sc (sl+n) news
   |_,_=>none
  |_,_=>none
 |_,_,_,_=>none
def scalar(t:TypeId):Bool:=match E.ty.get t with |some H=>(match H.d with |.bool |.int _ |.str=>true |_=>false) |none=>false
def keyed(kt:TypeId)(k:Φ):Bool:=
 match E.ty.get kt with
 |some H=>match H.d,k with
  |.bool,.bool _ |.int _,.int _ _ |.str,.string _=>true
  |.struct fs,.agg cs=>H.cmp.isSome && cs.toList.all bw && fs.all (λf=> !f.blank && Nat.blt f.off cs.toList.length && scalar E f.ty)
  |_,_=>false
 |none=>false
def findKey(H:TypeId)(k:Φ):List MapEntry->Nat->Option (Option (Nat×Φ))
 |[],_=>some none
 |e::es,i=>
  match eq? E H k e.key with
  |some true=>some (some (i,e.val))
  |some false=>findKey H k es (i+1)
  |none=>none
def kh(m:M)(t:TypeId)(x k:Φ)(ok:Bool):Option Φ:=
 match E.ty.get t with
 |none=>none
 |some ti=>
  match ti.d with
  |.map H et=>
   match(match x with |.map none=>some [] |.map (some r)=>(match m.get r with |.map es _=>some es |_=>none) |_=>none)with
   |none=>none
   |some es=>
    bif keyed E H k then
     match findKey E H k es 0 with
     |some (some (_,v))=>some (bif ok then .tuple #[v,.bool true]else v)
     |some none=>(vg E et).map λz=>bif ok then .tuple #[z,.bool false]else z
     |none=>none
    else none
  |_=>none
def dN(m:M)(t:TypeId)(x k v:Φ):Option M:=
 match E.ty.get t,x with
 |some ti,.map (some r)=>
  match ti.d,m.get r with
  |.map H _,.map es clock=>
   bif keyed E H k then
    match findKey E H k es 0 with
    |some (some (i,_))=>some (m.set r (.map (es.modify i λe=>{e with key:=k,val:=v}) clock))
    |some none=>some (m.set r (.map (es++ [{key:=k,val:=v,born:=clock}]) (clock+1)))
    |none=>none
   else none
  |_,_=>none
 |_,_=>none
def SZ(m:M)(s d:TypeId)(x:Φ):Option Φ:=Ps E s d x
end
end
section
structure Fr where
 T:Tr Φ
 m:M
 deriving Inhabited
def qB(T:Tr Φ)(t:Nat):Φ:=(T.get t).getD undef
def ev(T:Tr Φ):Operand->Φ
 |.tmp t=>qB T t
 |.const v=>v
 |.global g=> .pointer (some ⟨g,0,none⟩)
 |.func f=> .func (.func f) #[] #[]
abbrev aK:=Fn->Bt->M->Option (Φ×M)
noncomputable section
variable (E:Env)
def av(m:M)(b:Builtin)(ts:List TypeId)(args:Bt):Option (Φ×M):=
 match b,ts,args with
 |.append,[t,u],[s,x]=>dU E m t u s x
 |.len,[t],[x]=>(wi E m t x).map (·,m)
 |.min,_,xs=>(fy (λx y=>if y < x then y else x) xs).map (·,m)
 |.max,_,xs=>(fy (λx y=>if y >x then y else x) xs).map (·,m)
 |_,_,_=>none
end
abbrev lN:=Env->aK->Tr Φ->M->Option (Φ×M)
def BC(x:Operand):lN:=λ_ _ T m=>some (ev T x,m)
def rq(c a b:Operand):lN:=λ_ _ T m=>match ev T c with |.bool t=>some (bif t then ev T a else ev T b,m) |_=>none
def wV(t:TypeId):lN:=λE _ _ m=>match vg E t with |some z=>some (newVar m t z) |none=>none
def SB(t:TypeId)(x:Operand):lN:=λ_ _ T m=>some (newVar m t (ev T x))
def sQ(t:TypeId)(ps:Array (Nat×Operand)):lN:=λE _ T m=>match aJ E t (ps.toList.map λp=>(p.1,ev T p.2))with |some v=>some (v,m) |none=>none
def nD(t:TypeId)(n:Nat)(ps:Array (Nat×Operand)):lN:=λE _ T m=>aF E m t n (ps.toList.map λp=>(p.1,ev T p.2))
def BD(t:TypeId)(a:Operand):lN:=λE _ T m=>match ev T a with
 |.pointer (some a)=>(match loadVar E m t a with |some v=>some (v,m) |none=>none)
 |_=>none
def wU(t:TypeId)(a x:Operand):lN:=λE _ T m=>match ev T a with
 |.pointer (some a)=>(match storeVar E m t a (ev T x)with |some m=>some (undef,m) |none=>none)
 |_=>none
def gW(x:Operand):lN:=λ_ _ T m=>match ev T x with |.pointer (some a)=>some (.pointer (some a),m) |.func (.func f) a b=>some (.func (.func f) a b,m) |_=>none
def DB(op:BinOp)(t:TypeId)(x y:Operand):lN:=λE _ T m=>match aA E op t (ev T x) (ev T y)with |some v=>some (v,m) |none=>none
def Nr(op:UnOp)(x:Operand):lN:=λ_ _ T m=>match cU op (ev T x)with |some v=>some (v,m) |none=>none
def FB(s d:TypeId)(x:Operand):lN:=λE _ T m=>match SZ E m s d (ev T x)with |some v=>some (v,m) |none=>none
def iR(f:Fn)(a b:Array Operand):lN:=λ_ _ T m=>match f with
 |.func _=>some (.func f (a.toList.map (ev T)).toArray (b.toList.map (ev T)).toArray,m)
 |_=>none
def qe(r:Option Operand):lN:=λ_ _ _ m=>match r with |none=>some (.map (some m.n),m.push (.map [] 0)) |some _=>none
def BB(t:TypeId)(x:Operand)(lo hi H:Option Operand):lN:=λE _ T m=>match slice? E m t (ev T x) (lo.map (ev T)) (hi.map (ev T)) (H.map (ev T))with |some v=>some (v,m) |none=>none
def js(s:TypeId)(x:Operand)(f:Nat):lN:=λE _ T m=>match af E s (ev T x) f with |some v=>some (v,m) |none=>none
def jr(t:TypeId)(x i:Operand):lN:=λE _ T m=>match ak E t (ev T x) (ev T i)with |some v=>some (v,m) |none=>none
def sP(t:TypeId)(x i:Operand):lN:=λE _ T m=>match index? E t (ev T x) (ev T i)with |some v=>some (v,m) |none=>none
def yq(t:TypeId)(x i:Operand)(ok:Bool):lN:=λE _ T m=>match kh E m t (ev T x) (ev T i) ok with |some v=>some (v,m) |none=>none
def eW(t:TypeId)(x k y:Operand):lN:=λE _ T m=>match dN E m t (ev T x) (ev T k) (ev T y)with |some m=>some (undef,m) |none=>none
def kF(x:Operand)(i:Nat):lN:=λ_ _ T m=>match ev T x with |.tuple H=>(match H.toList[i]? with |some v=>some (v,m) |none=>none) |_=>none
def uz(c:Call):lN:=λE call T m=>
 match c.callee with
 |.builtin b=>av E m b c.argTypes.toList (c.args.toList.map (ev T))
 |.value f=>match ev T f with
  |.func g first captured=>call g (first.toList++(c.args.toList.map (ev T)++captured.toList)) m
  |_=>none
 |_=>none
def ew:Op->lN
 |.move x=>BC x
 |.assign x=>BC x
 |.pick c a b=>rq c a b
 |.alloc t=>wV t
 |.box t x=>SB t x
 |.build t ps=>sQ t ps
 |.buildSlice t n ps=>nD t n ps
 |.load t a=>BD t a
 |.store t a x=>wU t a x
 |.nilCheck x=>gW x
 |.binOp op t x y _=>DB op t x y
 |.unOp op _ x=>Nr op x
 |.convert s d x=>FB s d x
 |.makeFunc f a b=>iR f a b
 |.makeMap _ r=>qe r
 |.slice t x lo hi H=>BB t x lo hi H
 |.fieldAddr s x f=>js s x f
 |.indexAddr t x i=>jr t x i
 |.index t x i=>sP t x i
 |.lookup t x i ok=>yq t x i ok
 |.mapUpdate t x k y=>eW t x k y
 |.insert t x k y=>eW t x k y
 |.extract x i=>kF x i
 |.call c=>uz c
 |_=>λ_ _ _ _=>none
noncomputable section
variable (E:Env)
def mn:Op->Bool
 |.move _ |.assign _ |.pick .. |.build .. |.nilCheck _ |.binOp .. |.unOp .. |.makeFunc .. |.fieldAddr .. |.indexAddr .. |.index .. |.extract ..=>true
 |_=>false
def dq(ops:Array Oper)(T:Tr Φ)(o:Oper):Bool:=
 match o.guard with
 |none=>true
 |some (j,want)=>match(ops.toList[j]?).bind (·.dst)with
  |some d=>match qB T d with
   |.bool b=>b==want
   |_=>false
  |none=>false
def put(T:Tr Φ)(dst:Option Tmp)(v:Φ):Tr Φ:=
 match dst with
 |some d=>T.set d v
 |none=>T
def zD(call:aK)(ops:Array Oper)(l:List Oper):Fr->Option Fr:=
 List.rec (motive:=λ_=>Fr->Option Fr) (λfr=>some fr)
  (λo _ H fr=>
   bif dq ops fr.T o then
    match ew o.op E call fr.T fr.m with
    |some (v,m)=>H {T:=put fr.T o.dst v,m:=m}
    |none=>none
   else H {fr with T:=put fr.T o.dst undef}) l
theorem DA(call:aK)(ops:Array Oper)(fr:Fr):zD E call ops [] fr=some fr:=rfl
theorem mT(call:aK)(ops:Array Oper)(o:Oper)(rest:List Oper)(fr:Fr):zD E call ops (o::rest) fr=
  bif dq ops fr.T o then
   match ew o.op E call fr.T fr.m with
   |some (v,m)=>zD E call ops rest {T:=put fr.T o.dst v,m:=m}
   |none=>none
  else zD E call ops rest {fr with T:=put fr.T o.dst undef}:=rfl
def gR(ops:Array Oper)(j:Nat):Bool:=
 let b:=Region.before ops
 ops.toList.zipIdx.all λ(o,i)=>i==j ||mn o.op ||(b.getD j 0).testBit i ||(b.getD i 0).testBit j
def oH(call:aK)(ops:Array Oper)(l:List Oper):Nat->Fr->Option Fr:=
 List.rec (motive:=λ_=>Nat->Fr->Option Fr) (λ_ fr=>some fr)
  (λo _ H j fr=>
   bif dq ops fr.T o then
    match ew o.op E call fr.T {fr.m with low:=fr.m.n}with
    |some (v,m)=>
     bif Nat.ble fr.m.n m.low ||gR ops j then
      H (j+1) {T:=put fr.T o.dst v,m:={m with low:=min fr.m.low m.low}}
     else none
    |none=>none
   else H (j+1) {fr with T:=put fr.T o.dst undef}) l
theorem AQ(call:aK)(ops:Array Oper)(j:Nat)(fr:Fr):oH E call ops [] j fr=some fr:=rfl
theorem lH(call:aK)(ops:Array Oper)(o:Oper)(rest:List Oper)(j:Nat)(fr:Fr):oH E call ops (o::rest) j fr=
  bif dq ops fr.T o then
   match ew o.op E call fr.T {fr.m with low:=fr.m.n}with
   |some (v,m)=>
    bif Nat.ble fr.m.n m.low ||gR ops j then
     oH E call ops rest (j+1) {T:=put fr.T o.dst v,m:={m with low:=min fr.m.low m.low}}
    else none
   |none=>none
  else oH E call ops rest (j+1) {fr with T:=put fr.T o.dst undef}:=rfl
def ia(body:Fr->Option (Ex×Fr)):Nat->Fr->Option (Ex×Fr)
 |0,_=>none
 |n+1,fr=>
  match body fr with
  |some (.normal,fr)=>ia body n fr
  |r=>r
def bQ(call:aK)(n:Nat):Code->Fr->Option (Ex×Fr)
 |.skip,fr |.label _,fr=>some (.normal,fr)
 |.region _ ops d,fr=>(bif d then oH E call ops ops.toList 0 fr else zD E call ops ops.toList fr).map (Ex.normal,·)
 |.seq a b,fr=>
  match bQ call n a fr with
  |some (.normal,fr)=>bQ call n b fr
  |r=>r
 |.cond c x y,fr=>match ev fr.T c with
  |.bool t=>bif t then bQ call n x fr else bQ call n y fr
  |_=>none
 |.block id c,fr=>
  match bQ call n c fr with
  |some (.exit H,fr)=>bif Nat.beq H id then some (.normal,fr)else some (.exit H,fr)
  |r=>r
 |.loop c,fr=>ia (bQ call n c) n fr
 |.scope c,fr=>bQ call n c fr
 |.rangeFunc g ps assign body,fr=>
  match ev fr.T g with
  |.func (.func h) first captured=>
   match call (.func h) (first.toList++(.func (.yield fr.m.n) #[] #[]::captured.toList)) (fr.m.push (.loop ⟨fr.T,ps,assign,body,.ready,none,E.G⟩))with
   |some (_,m)=>
    match m.get fr.m.n with
    |.loop r=>match r.st with
     |.busy=>none
     |_=>some (r.sJ.getD .normal,{fr with m:=m.set fr.m.n (.loop {r with st:=.exhausted})})
    |_=>none
   |none=>none
  |_=>none
 |.exit id,fr=>some (.exit id,fr)
 |.ret,fr=>some (.ret,fr)
 |_,_=>none
def kD(T:Tr Φ)(m:M):ResultVar->Option Φ
 |.tmp t=>some (qB T t)
 |.cell a t=>match qB T a with |.pointer (some a)=>loadVar E m t a |_=>none
def fR(T:Tr Φ)(m:M):List ResultVar->Option (Bt)
 |[]=>some []
 |r::rs=>match kD E T m r,fR T m rs with
  |some v,some H=>some (v::H)
  |_,_=>none
def result?(fn:Func)(T:Tr Φ)(m:M):Option Φ:=
 match fR E T m fn.results.toList with
 |some [v]=>some v
 |some H=>some (.tuple H.toArray)
 |none=>none
def enter:Bt->Nat->Tr Φ
 |[],_=> .e
 |v::H,i=>(enter H (i+1)).set i v
def ua(T:Tr Φ):List (Tmp×Φ)->Tr Φ
 |[]=>T
 |(t,v)::l=>ua (T.set t v) l
def ud(exec:Code->Fr->Option (Ex×Fr))(G l:Nat)(args:Bt)(m:M):Option (Φ×M):=
 match m.get l with
 |.loop r=>
  bif Nat.beq args.length r.ps.size && Nat.beq r.G G then
   match exec r.assign {T:=ua r.T (r.ps.toList.zip args),m:={m with low:=m.n}}with
   |some (.normal,fr)=>
    match fr.m.get l with
    |.loop r1=>match r1.st with
     |.ready=>
      match exec r.body {fr with m:=fr.m.set l (.loop {r1 with st:=.busy})}with
      |some (e,fr)=>
       match fr.m.get l with
       |.loop H=>match e with
        |.normal=>some (.bool true,{fr.m.set l (.loop {H with st:=.ready,sJ:=none})with low:=min m.low (fr.m.set l (.loop {H with st:=.ready,sJ:=none})).low})
        |e=>some (.bool false,{fr.m.set l (.loop {H with st:=.done,sJ:=some e})with low:=min m.low (fr.m.set l (.loop {H with st:=.done,sJ:=some e})).low})
       |_=>none
      |none=>none
     |_=>none
    |_=>none
   |_=>none
  else none
 |_=>none
def cC(X:aK):Nat->aK
 |0,_,_,_=>none
 |n+1,.func f,args,m=>
  match X (.func f) args m with
  |some r=>some r
  |none=>
  match E.fn.get f with
  |none=>none
  |some fn=>
   match fn.body with
   |none=>none
   |some body=>
    bif Nat.ble args.length fn.ntmps then
     match bQ E (cC X n) n body {T:=enter args 0,m:={m with low:=m.n}}with
     |some (.exit _,_) |none=>none
     |some (_,fr)=>
      match result? E fn fr.T fr.m with
      |none=>none
      |some v=>bif bA v && Nat.ble m.n fr.m.low then some (v,m)else some (v,{fr.m with low:=min m.low fr.m.low})
    else none
 |n+1,.yield l,args,m=>ud (bQ E (cC X n) n) E.G l args m
 |_+1,_,_,_=>none
end
end
theorem Tr.get_mem{α:Type}{x:α}:∀(t:Tr α) (i a b:Nat),t.get i=some x->(a*i+b,x)∈t.zA a b
 |.e,_,_,_,h=>by simp[Tr.yN]at h
 |.n v l r,0,a,b,h=>by
  subst h;unfold Tr.zA;simp
 |.n v l r,i+1,a,b,h=>by
  simp only[Tr.pC,Tr.jx]at h;unfold Tr.zA;cases h1:Nat.beq (i%2) 0 with
  |true=>
   rw[h1]at h;have hm:i%2=0:=vZ h1;have:=Tr.get_mem l (i/2) (2*a) (a+b) h;have e:2*a*(i/2)+(a+b)=a*(i+1)+b:=by
    have H:i=2*(i/2):=by omega
    grind
   grind
  |false=>
   rw[h1]at h;have hm:i%2≠0:=Mm h1;have:=Tr.get_mem r (i/2) (2*a) (2*a+b) h;have e:2*a*(i/2)+(2*a+b)=a*(i+1)+b:=by
    have H:i=2*(i/2)+1:=by omega
    grind
   grind
theorem Tr.vV{α:Type}{f:Nat->Option α}(t:Tr α)(h:(t.zA 1 0).map (λp=>f p.1)=(t.zA 1 0).map (λp=>some p.2)){i:Nat}{x:α}(hi:t.get i=some x):f i=some x:=by
 have hm:=Tr.get_mem t i 1 0 hi;have:=List.map_inj_left.1 h _ hm;grind
theorem Tr.rE{α:Type}(x:α):∀(f i j:Nat),i<=f->(Tr.single x f i).get j=if j=i then some x else none
 |0,i,j,h=>by
  obtain rfl:i=0:=by omega
  unfold Tr.single;cases j with
  |zero=>rfl
  |succ j=>simp only[Tr.jx];cases Nat.beq (j%2) 0 <;>simp[Tr.yN]
 |f+1,0,j,h=>by
  unfold Tr.single;cases j with
  |zero=>rfl
  |succ j=>simp only[Tr.jx];cases Nat.beq (j%2) 0 <;>simp[Tr.yN]
 |f+1,i+1,j,h=>by
  unfold Tr.single;cases h1:Nat.beq (i%2) 0 with
  |true=>
   have hm:i%2=0:=vZ h1;simp only[cond_true];cases j with
   |zero=>simp[Tr.pC]
   |succ j=>
    simp only[Tr.jx];cases H:Nat.beq (j%2) 0 with
    |true=>
     have hj:j%2=0:=vZ H;rw[Tr.rE x f (i/2) (j/2) (by omega)];grind
    |false=>
     simp only[T4,Tr.yN];grind
  |false=>
   have hm:i%2≠0:=Mm h1;simp only[T4];cases j with
   |zero=>simp[Tr.pC]
   |succ j=>
    simp only[Tr.jx];cases H:Nat.beq (j%2) 0 with
    |true=>
     simp only[cond_true,Tr.yN];grind
    |false=>
     have hj:j%2≠0:=Mm H;rw[Tr.rE x f (i/2) (j/2) (by omega)];grind
theorem Tr.cj{α:Type}(x:α):∀(t:Tr α) (i j:Nat),(t.set i x).get j=if j=i then some x else t.get j
 |.e,i,j=>by
  simp only[Tr.MS,Tr.xM,Tr.xN];rw[Tr.rE x i i j (Ox _)];simp[Tr.yN]
 |.n v l r,0,j=>by
  simp only[Tr.MS,Tr.xM,Tr.xN];cases j with
  |zero=>rfl
  |succ j=>simp[Tr.jx]
 |.n v l r,i+1,j=>by
  simp only[Tr.MS,Tr.xM,Tr.xN];cases h1:Nat.beq (i%2) 0 with
  |true=>
   have hm:i%2=0:=vZ h1;simp only[cond_true];cases j with
   |zero=>simp[Tr.pC]
   |succ j=>
    simp only[Tr.jx];cases H:Nat.beq (j%2) 0 with
    |true=>
     have hj:j%2=0:=vZ H;rw[Tr.cj x l (i/2) (j/2)];grind
    |false=>
     grind
  |false=>
   have hm:i%2≠0:=Mm h1;simp only[T4];cases j with
   |zero=>simp[Tr.pC]
   |succ j=>
    simp only[Tr.jx];cases H:Nat.beq (j%2) 0 with
    |true=>
     grind
    |false=>
     have hj:j%2≠0:=Mm H;rw[Tr.cj x r (i/2) (j/2)];grind
section
structure BI where
 cY:Nat
 gr:Option (Nat×Nat×Nat)
abbrev Sg:=Nat->Option BI
inductive bE (σ:Sg):Φ->Φ->Prop where
 |flat (v:Φ) (h:bw v=true):bE σ v v
 |ptr (a:Addr) (i:BI) (h:σ a.block=some i) (hs:a.spot=none):bE σ (.pointer (some a)) (.pointer (some ⟨i.cY,a.off,none⟩))
 |slice (a:Addr) (i:BI) (n c:Nat) (h:σ a.block=some i) (hs:a.spot=none) (hg:i.gr=none):bE σ (.slice (some a) n c) (.slice (some ⟨i.cY,a.off,none⟩) n c)
 |iy (a:Addr) (i:BI) (n c c' k sz N:Nat) (h:σ a.block=some i) (hs:a.spot=none) (hg:i.gr=some (k,sz,N)) (hc:c'=c\/(c<=c'/\a.off+c*k=sz/\a.off+c'*k=N)):bE σ (.slice (some a) n c) (.slice (some ⟨i.cY,a.off,none⟩) n c')
 |empty (a a':Addr) (i:BI) (c' k sz N:Nat) (h:σ a.block=some i) (hg:i.gr=some (k,sz,N)) (ho:a.off=sz):bE σ (.slice (some a) 0 0) (.slice (some a') 0 c')
 |map (r:Nat) (i:BI) (h:σ r=some i):bE σ (.map (some r)) (.map (some i.cY))
 |func (f:FuncId) (a b a' b':Array Φ) (ha:a.size=a'.size) (hb:b.size=b'.size) (h1:∀(j:Nat) u u',a[j]?=some u->a'[j]?=some u'->bE σ u u') (h2:∀(j:Nat) u u',b[j]?=some u->b'[j]?=some u'->bE σ u u'):bE σ (.func (.func f) a b) (.func (.func f) a' b')
 |yield (l:Nat) (i:BI) (h:σ l=some i):bE σ (.func (.yield l) #[] #[]) (.func (.yield i.cY) #[] #[])
 |agg (a a':Array Φ) (ha:a.size=a'.size) (h1:∀(j:Nat) u u',a[j]?=some u->a'[j]?=some u'->bE σ u u'):bE σ (.agg a) (.agg a')
 |tuple (a a':Array Φ) (ha:a.size=a'.size) (h1:∀(j:Nat) u u',a[j]?=some u->a'[j]?=some u'->bE σ u u'):bE σ (.tuple a) (.tuple a')
def bN(σ:Sg)(l H:Bt):Prop:=l.length=H.length/\∀(j:Nat) u u',l[j]?=some u->H[j]?=some u'->bE σ u u'
def Sg.le(σ τ:Sg):Prop:=∀b i,σ b=some i->τ b=some i
theorem bE.mono{σ τ:Sg}(hle:σ.le τ){v v':Φ}(h:bE σ v v'):bE τ v v':=by
 induction h with
 |flat v h=>exact .flat v h
 |ptr a i h hs=>exact .ptr a i (hle _ _ h) hs
 |slice a i n c h hs hg=>exact .slice a i n c (hle _ _ h) hs hg
 |iy a i n c c' k sz N h hs hg hc=>exact .iy a i n c c' k sz N (hle _ _ h) hs hg hc
 |empty a H i c' k sz N h hg ho=>exact .empty a H i c' k sz N (hle _ _ h) hg ho
 |map r i h=>exact .map r i (hle _ _ h)
 |func f a b H b' ha hb _ _ i1 i2=>exact .func f a b H b' ha hb (λj u u' h h'=>i1 j u u' h h') (λj u u' h h'=>i2 j u u' h h')
 |yield l i h=>exact .yield l i (hle _ _ h)
 |agg a H ha _ i1=>exact .agg a H ha (λj u u' h h'=>i1 j u u' h h')
 |tuple a H ha _ i1=>exact .tuple a H ha (λj u u' h h'=>i1 j u u' h h')
theorem bN.mono{σ τ:Sg}(hle:σ.le τ){l H:Bt}(h:bN σ l H):bN τ l H:=⟨h.1,λj u u' a b=>(h.2 j u u' a b).mono hle⟩
theorem bN.nil{σ:Sg}:bN σ [] []:=⟨rfl,by grind⟩
theorem bN.cons{σ:Sg}{v v':Φ}{l H:Bt}(h:bE σ v v')(ht:bN σ l H):bN σ (v::l) (v'::H):=
 ⟨by simp[ht.1],λj u u' a b=>by
  cases j with
  |zero=>simp at a b;subst a;subst b;exact h
  |succ j=>exact ht.2 j u u' (by grind) (by grind)⟩
theorem bN.head{σ:Sg}{v v':Φ}{l H:Bt}(h:bN σ (v::l) (v'::H)):bE σ v v':=h.2 0 v v' rfl rfl
theorem bN.tail{σ:Sg}{v v':Φ}{l H:Bt}(h:bN σ (v::l) (v'::H)):bN σ l H:=
 ⟨by simpa using h.1,λj u u' a b=>h.2 (j+1) u u' (by grind) (by grind)⟩
theorem bN.cases{σ:Sg}{v:Φ}{l x:Bt}(h:bN σ (v::l) x):∃v' H,x=v'::H/\bE σ v v'/\bN σ l H:=by
 cases x with
 |nil=>exact absurd h.1 (by simp)
 |cons v' H=>exact⟨v',H,rfl,h.head,h.tail⟩
theorem bN.nil_eq{σ:Sg}{x:Bt}(h:bN σ [] x):x=[]:=Je h.1.symm
theorem bN.append{σ:Sg}{a H b b':Bt}(h:bN σ a H)(k:bN σ b b'):bN σ (a++b) (H++b'):=
 ⟨by simp[h.1,k.1],λj u u' x y=>by
  by_cases hj:j<a.length
  ·rw[QH hj]at x;rw[QH (by rw[<-h.1];exact hj)]at y;exact h.2 j u u' x y
  ·rw[zC (by omega)]at x;rw[zC (by rw[<-h.1];omega)]at y;rw[<-h.1]at y;exact k.2 _ u u' x y⟩
theorem bN.take{σ:Sg}{a H:Bt}(h:bN σ a H)(n:Nat):bN σ (a.take n) (H.take n):=
 ⟨by simp[h.1],λj u u' x y=>by
  simp only[FM]at x y;by_cases hj:j<n;·rw[Tf hj]at x y;exact h.2 j u u' x y
  ·grind⟩
theorem bN.drop{σ:Sg}{a H:Bt}(h:bN σ a H)(n:Nat):bN σ (a.drop n) (H.drop n):=
 ⟨by simp[h.1],λj u u' x y=>by
  simp only[Kb]at x y;exact h.2 _ u u' x y⟩
theorem bN.get{σ:Sg}{a a':Bt}(h:bN σ a a'){j:Nat}{u:Φ}(hj:a[j]?=some u):∃u',a'[j]?=some u'/\bE σ u u':=by
 have H:j<a'.length:=by rw[<-h.1];exact(OJ.1 hj).1
 exact⟨a'[j],Fx H,h.2 j u _ hj (Fx H)⟩
theorem bN.of_flat{σ:Sg}{l:Bt}(h:l.all bw):bN σ l l:=
 ⟨rfl,λj u H a b=>by
  rw[a]at b;cases b;exact .flat u (Jl.1 h u (LZ a))⟩
theorem bN.agg{σ:Sg}{l H:Bt}(h:bN σ l H):bE σ (.agg l.toArray) (.agg H.toArray):=
 .agg _ _ (by simpa using h.1) (λj u u' a b=>h.2 j u u' (by grind) (by grind))
theorem bN.tuple{σ:Sg}{l H:Bt}(h:bN σ l H):bE σ (.tuple l.toArray) (.tuple H.toArray):=
 .tuple _ _ (by simpa using h.1) (λj u u' a b=>h.2 j u u' (by grind) (by grind))
theorem bE.kZ{σ:Sg}{v:Φ}(h:dC v):bE σ v v:=by
 cases v with
 |agg cs=>
  have:=bN.agg (σ:=σ) (bN.of_flat (l:=cs.toList) h);simp_all
 |_=>exact .flat _ h
theorem bE.undef{σ:Sg}:bE σ undef undef:=.tuple _ _ rfl (by grind)
theorem bE.cells{σ:Sg}{v v':Φ}(h:bE σ v v'):bN σ (cells v) v'.cells.toList:=by
 cases h with
 |agg a H ha h1=>exact⟨by simpa[D.cells,Value.cells]using ha,λj u u' x y=>h1 j u u' (by simpa[D.cells]using x) (by simpa[Value.cells]using y)⟩
 |flat v hv=>
  cases v with
  |agg cs=>simp[bw]at hv
  |_=>exact bN.cons (.flat _ hv) bN.nil
 |ptr a i h hs=>exact bN.cons (.ptr a i h hs) bN.nil
 |slice a i n c h hs hg=>exact bN.cons (.slice a i n c h hs hg) bN.nil
 |iy a i n c c' k sz N h hs hg hc=>exact bN.cons (.iy a i n c c' k sz N h hs hg hc) bN.nil
 |empty a H i c' k sz N h hg ho=>exact bN.cons (.empty a H i c' k sz N h hg ho) bN.nil
 |map r i h=>exact bN.cons (.map r i h) bN.nil
 |func f a b H b' ha hb h1 h2=>exact bN.cons (.func f a b H b' ha hb h1 h2) bN.nil
 |yield l i h=>exact bN.cons (.yield l i h) bN.nil
 |tuple a H ha h1=>exact bN.cons (.tuple a H ha h1) bN.nil
theorem bE.one{σ:Sg}{v v':Φ}(h:bE σ v v')(h1:one v):v'.oneCell':=by
 cases h with
 |flat v H=>cases v <;>first|rfl|simp[D.one]at h1
 |agg=>simp[D.one]at h1
 |tuple=>simp[D.one]at h1
 |_=>rfl
theorem bN.dS{σ:Sg}{l l':Bt}(h:bN σ l l')(h1:l.all one):∀u∈l',u.oneCell':=by
 intro u hu;have⟨j,hj⟩:=KF.1 hu;have H:j<l.length:=by rw[h.1];exact(OJ.1 hj).1
 exact(h.2 j _ u (Fx H) hj).one (Jl.1 h1 _ (List.getElem_mem H))
theorem bE.bR{σ:Sg}{v v':Φ}(h:bE σ v v')(h0:bw v):v'=v:=by
 cases h with
 |flat=>rfl
 |func f a b H b' ha hb h1 h2=>
  simp[bw]at h0;grind
 |ptr=>simp[bw]at h0
 |slice=>simp[bw]at h0
 |iy=>simp[bw]at h0
 |empty=>simp[bw]at h0
 |map=>simp[bw]at h0
 |yield=>simp[bw]at h0
 |agg=>simp[bw]at h0
 |tuple=>simp[bw]at h0
def Wx(i:BI)(len size:Nat):Option Nat->Prop
 |none=>i.gr=none/\size=len
 |some k=>i.gr=some (k,len,size)/\0 < k/\0 < len
def uP:Ex->Code
 |.normal=> .skip
 |.exit id=> .exit id
 |.ret=> .ret
def Holds(σ:Sg)(i:BI)(w:World):Ob->Prop
 |.dead=>True
 |.cells c e g=>∃c':Array Φ,w.heap[i.cY]?=some (.cells c' e (0,0))/\c.length<=c'.size/\bN σ c (c'.toList.take c.length)/\Wx i c.length c'.size g
 |.map es clock=>i.gr=none/\∃a0:Array MapEntry,w.heap[i.cY]?=some (.map a0 clock)/\es.length=a0.size/\
   ∀(j:Nat) e e',es[j]?=some e->a0[j]?=some e'->e'.key=e.key/\e'.born=e.born/\dC e.key=true/\bE σ e.val e'.val
 |.ro c=>i.gr=none/\∃(c':Array Φ) (e':TypeId) (fz:Nat×Nat),w.heap[i.cY]?=some (.cells c' e' fz)/\c.length<=c'.size/\∀(j:Nat) u u',c[j]?=some u->c'[j]?=some u'->one u=true->bE σ u u'
 |.loop r=>i.gr=none/\∃(H:Loop) (nt:Nat),w.heap[i.cY]?=some (.loop H)/\H.state=r.st/\H.pending=r.sJ.map uP/\H.params=r.ps/\H.assign=r.assign/\H.body=r.body/\
   H.tmps.size=nt/\(∀t,t < nt->bE σ ((r.T.get t).getD undef) (H.tmps.getD t undef))/\fD nt r.G r.assign=true/\fD nt r.G r.body=true/\(∀p∈r.ps.toList,p < nt)/\r.sJ≠some .normal
structure fN(P:Program)(σ:Sg)(m:M)(w:World):Prop where
 rT:∀b i,σ b=some i->b < m.n
 obj:∀b i,σ b=some i->Holds σ i w (m.get b)
 lt:∀b i,σ b=some i->i.cY < w.heap.size
 inj:∀b b' i i',σ b=some i->σ b'=some i'->m.get b≠.dead->m.get b'≠.dead->i.cY=i'.cY->b=b'
 lz:∀g,g < P.globals.size->σ g=some ⟨g,none⟩
structure Ev(P:Program)(σ:Sg)(m:M)(w:World)(σ':Sg)(m':M)(w':World):Prop where
 ext:σ.le σ'
 vY:fN P σ' m' w'
 low:m'.low<=m.low
 Lc:m.n<=m'.n
 hle:w.heap.size<=w'.heap.size
 new:∀b i,σ' b=some i->σ b=none->m.n<=b/\(w.heap.size<=i.cY\/∃b0 i0,σ b0=some i0/\i0.cY=i.cY/\m'.low<=b0)
 abs:∀b,b < m'.low->b < m.n->m'.get b=m.get b
 heap:∀B,B < w.heap.size->(∀b i,σ b=some i->i.cY=B->b < m'.low)->w'.heap[B]?=w.heap[B]?
 os:w'.os=w.os
 tape:w'.tape=w.tape
 output:w'.output=w.output
section
variable {P:Program} {σ σ' τ:Sg} {m m' m2:M} {w w' w2:World}
theorem Ev.refl(h:fN P σ m w):Ev P σ m w σ m w:=⟨λ_ _ h=>h,h,Ox _,Ox _,Ox _,λb i h H=>(by grind),λ_ _ _=>rfl,λ_ _ _=>rfl,rfl,rfl,rfl⟩
theorem Ev.trans(h:Ev P σ m w σ' m' w')(k:Ev P σ' m' w' τ m2 w2):Ev P σ m w τ m2 w2:=by
 refine⟨λb i e=>k.ext b i (h.ext b i e),k.vY,YB k.low h.low,YB h.Lc k.Lc,YB h.hle k.hle,?_,?_,?_,k.os.trans h.os,k.tape.trans h.tape,k.output.trans h.output⟩
 ·intro b i H hn;have hl:=k.low;cases hm:σ' b with
  |some i1=>
   have e:=k.ext b i1 hm;rw[H]at e;cases e;have⟨h1,h2⟩:=h.new b i hm hn;grind
  |none=>
   have⟨h1,h2⟩:=k.new b i H hm;have:=h.Lc;refine⟨by omega,?_⟩;rcases h2 with h2|⟨b0,i0,x,y,z⟩;·have:=h.hle;exact .inl (by omega)
   ·cases h0:σ b0 with
    |some i1=>
     have e:=h.ext b0 i1 h0;grind
    |none=>
     have⟨_,h3⟩:=h.new b0 i0 x h0;grind
 ·intro b H hn;have hl:=k.low;have:=h.Lc;rw[k.abs b H (by omega),h.abs b (by omega) hn]
 ·intro B hB hp;have hl:=k.low;have:=h.hle;rw[k.heap B (by omega) ?_,h.heap B hB (by grind)];intro b i x y;cases hs:σ b with
  |some i1=>
   have e:=h.ext b i1 hs;grind
  |none=>
   have⟨_,h3⟩:=h.new b i x hs;grind
end
end
section
theorem nS{a b:Nat}:Nat.blt a b=decide (a<b):=by
 cases h:Nat.blt a b with
 |true=>
  simp_all
 |false=>
  have H:Nat.ble (a+1) b=false:=h;have:¬(a+1<=b):=λhle=>by rw[Cc hle]at H;cases H
  grind
theorem M.kj(m:M)(b:Nat):m.get b=if b<m.n then(m.st.get b).getD .dead else .dead:=by
 unfold M.get;simp_all
theorem M.lA(m:M)(o:Ob)(b:Nat):(m.push o).get b=if b=m.n then o else m.get b:=by
 rw[M.kj,M.kj];simp only[M.push,Tr.cj];grind
theorem M.cj(m:M)(b:Nat)(o:Ob)(c:Nat)(H:b<m.n):(m.set b o).get c=if c=b then o else m.get c:=by
 rw[M.kj,M.kj];simp only[M.set,Tr.cj];grind
theorem M.jN{m:M}{b:Nat}(h:m.get b≠.dead):b<m.n:=by
 rw[M.kj]at h;grind
section
variable {P:Program} {σ σ' τ:Sg} {m m' m2:M} {w w' w2:World}
theorem Holds.aV{i:BI}{ob:Ob}(h:Holds σ i w ob)(hle:σ.le τ)(hw:w'.heap[i.cY]?=w.heap[i.cY]?):Holds τ i w' ob:=by
 cases ob with
 |dead=>trivial
 |cells c e g=>have⟨c',h1,H,h3,h4⟩:=h;exact⟨c',hw.trans h1,H,h3.mono hle,h4⟩
 |map es clock=>have⟨hg,a0,h1,H,h3⟩:=h;refine⟨hg,a0,hw.trans h1,H,λj e e' x y=>?_⟩;have⟨a,b,c,d⟩:=h3 j e e' x y;exact⟨a,b,c,d.mono hle⟩
 |loop r=>have⟨hg,r',nt,h1,H,h3,h4,h5,h6,h7,h8,h9⟩:=h;exact⟨hg,r',nt,hw.trans h1,H,h3,h4,h5,h6,h7,λt ht=>(h8 t ht).mono hle,h9⟩
 |ro c=>have⟨hg,c',e',fz,h1,H,h3⟩:=h;exact⟨hg,c',e',fz,hw.trans h1,H,λj u u' x y z=>(h3 j u u' x y z).mono hle⟩
def Sg.add(σ:Sg)(b:Nat)(i:BI):Sg:=λc=>if c=b then some i else σ c
theorem Sg.add_same(b:Nat)(i:BI):(σ.add b i) b=some i:=by simp[Sg.add]
theorem Sg.yE{b:Nat}{i:BI}(h:σ b=none):σ.le (σ.add b i):=by
 intro c j H;unfold Sg.add;grind
theorem fN.mU(h:fN P σ m w):σ m.n=none:=by
 cases H:σ m.n with
 |none=>rfl
 |some i=>have:=h.rT _ _ H;omega
theorem Ev.uB{ob:Ob}{o:Obj}{gr:Option (Nat×Nat×Nat)}(h:fN P σ m w)
  (hh:Holds (σ.add m.n ⟨w.heap.size,gr⟩) ⟨w.heap.size,gr⟩ (w.alloc o) ob):Ev P σ m w (σ.add m.n ⟨w.heap.size,gr⟩) (m.push ob) (w.alloc o):=by
 have hn:=h.mU;have hle:=Sg.yE (i:=⟨w.heap.size,gr⟩) hn;have hold:∀B,B<w.heap.size->(w.alloc o).heap[B]?=w.heap[B]?:=λB hB=>heap_alloc_old w o hB;have g0:(m.push ob).n=m.n+1:=rfl;have i0:(w.alloc o).heap.size=w.heap.size+1:=by simp
 have H:∀b i,(σ.add m.n ⟨w.heap.size,gr⟩) b=some i->(b=m.n/\i=⟨w.heap.size,gr⟩)\/(b≠m.n/\σ b=some i):=by
  intro b i hb;unfold Sg.add at hb;grind
 refine⟨hle,⟨?_,?_,?_,?_,?_⟩,Ox _,by omega,by omega,?_,?_,λB hB _=>hold B hB,rfl,rfl,rfl⟩
 ·intro b i hb;rcases H b i hb with⟨rfl,_⟩|⟨_,hb⟩;·omega
  have:=h.rT b i hb;omega
 ·intro b i hb;rw[M.lA];rcases H b i hb with⟨rfl,rfl⟩|⟨b0,hb⟩;·grind
  rw[QL b0];exact(h.obj b i hb).aV hle (hold _ (h.lt b i hb))
 ·intro b i hb;rcases H b i hb with⟨_,rfl⟩|⟨_,hb⟩;·grind
  have:=h.lt b i hb;omega
 ·intro b b' i i' hb a0 hd d0 he;rw[M.lA]at hd d0;rcases H b i hb with⟨rfl,rfl⟩|⟨b0,hb⟩ <;>rcases H b' i' a0 with⟨rfl,rfl⟩|⟨e0,a0⟩
  ·rfl
  ·have:=h.lt b' i' a0;dsimp only at he;omega
  ·have:=h.lt b i hb;dsimp only at he;omega
  rw[QL b0]at hd;rw[QL e0]at d0;exact h.inj b b' i i' hb a0 hd d0 he
 ·intro g hg;exact hle g _ (h.lz g hg)
 ·grind
 intro b _ hb;rw[M.lA,QL (by omega)]
theorem Ev.write{b:Nat}{i:BI}{ob:Ob}(h:fN P σ m w)(hb:σ b=some i)(hd:m.get b≠.dead)(hh:Holds σ i w' ob)
  (hw:∀B,B≠i.cY->w'.heap[B]?=w.heap[B]?) (hs:w'.heap.size=w.heap.size) (ho:w'.os=w.os) (ht:w'.tape=w.tape) (hu:w'.output=w.output):
  Ev P σ m w σ (m.set b ob) w':=by
 have a0:=M.jN hd;have i0:(m.set b ob).low=min m.low b:=rfl;refine⟨λ_ _ x=>x,⟨h.rT,?_,λc j H=>(by rw[hs];exact h.lt c j H),?_,h.lz⟩,by omega,Ox _,by omega,λc j H hn=>(by grind),?_,?_,ho,ht,hu⟩
 ·intro c j H;rw[M.cj _ _ _ _ a0];by_cases b0:c=b;·grind
  rw[QL b0];by_cases d0:m.get c=.dead;·rw[d0];trivial
  exact(h.obj c j H).aV (λ_ _ x=>x) (hw _ (λe=>b0 (h.inj c b j i H hb d0 hd e)))
 ·intro c c' j j' H g0 hl e0 he;rw[M.cj _ _ _ _ a0]at hl e0;have live:∀x,(if x=b then ob else m.get x)≠.dead->m.get x≠.dead:=by
   grind
  exact h.inj c c' j j' H g0 (live _ hl) (live _ e0) he
 ·intro c H j0;rw[M.cj _ _ _ _ a0,QL (by omega)]
 ·grind
theorem Ev.Tx{b:Nat}{i:BI}{ob:Ob}{gr:Option (Nat×Nat×Nat)}(h:fN P σ m w)(hb:σ b=some i)(hd:m.get b≠.dead)
  (hh:Holds (σ.add m.n ⟨i.cY,gr⟩) ⟨i.cY,gr⟩ w' ob)
  (hw:∀B,B≠i.cY->w'.heap[B]?=w.heap[B]?) (hs:w'.heap.size=w.heap.size) (ho:w'.os=w.os) (ht:w'.tape=w.tape) (hu:w'.output=w.output):
  Ev P σ m w (σ.add m.n ⟨i.cY,gr⟩) ((m.set b .dead).push ob) w':=by
 have l0:=M.jN hd;have hn:=h.mU;have hle:=Sg.yE (i:=⟨i.cY,gr⟩) hn;have m0:(m.set b .dead).n=m.n:=rfl;have o0:((m.set b .dead).push ob).n=m.n+1:=rfl;have n0:((m.set b .dead).push ob).low=min m.low b:=rfl;have g0:∀c,((m.set b .dead).push ob).get c=if c=m.n then ob else if c=b then .dead else m.get c:=by intro c;rw[M.lA,m0,M.cj _ _ _ _ l0]
 have H:∀c j,(σ.add m.n ⟨i.cY,gr⟩) c=some j->(c=m.n/\j=⟨i.cY,gr⟩)\/(c≠m.n/\σ c=some j):=by
  intro c j hc;unfold Sg.add at hc;grind
 refine⟨hle,⟨?_,?_,?_,?_,?_⟩,by omega,by omega,by omega,?_,?_,?_,ho,ht,hu⟩
 ·intro c j hc;rcases H c j hc with⟨rfl,_⟩|⟨_,hc⟩;·omega
  have:=h.rT c j hc;omega
 ·intro c j hc;rw[g0];rcases H c j hc with⟨rfl,rfl⟩|⟨d0,hc⟩;·grind
  rw[QL d0];by_cases a0:c=b;·rw[Tf a0];trivial
  rw[QL a0];by_cases j0:m.get c=.dead;·rw[j0];trivial
  exact(h.obj c j hc).aV hle (hw _ (λe=>a0 (h.inj c b j i hc hb j0 hd e)))
 ·intro c j hc;rcases H c j hc with⟨_,rfl⟩|⟨_,hc⟩;·have:=h.lt b i hb;rw[hs];exact this
  rw[hs];exact h.lt c j hc
 ·intro c c' j j' hc e0 hl b0 he;rw[g0]at hl b0;rcases H c j hc with⟨rfl,rfl⟩|⟨d0,hc⟩ <;>rcases H c' j' e0 with⟨rfl,rfl⟩|⟨i0,e0⟩
  ·rfl
  ·rw[QL i0]at b0;by_cases a0:c'=b;·grind
   rw[QL a0]at b0;exact absurd (h.inj b c' i j' hb e0 hd b0 he).symm a0
  ·rw[QL d0]at hl;by_cases a0:c=b;·grind
   rw[QL a0]at hl;exact absurd (h.inj c b j i hc hb hl hd he) a0
  rw[QL d0]at hl;rw[QL i0]at b0;by_cases a0:c=b;·grind
  by_cases k0:c'=b;·grind
  rw[QL a0]at hl;rw[QL k0]at b0;exact h.inj c c' j j' hc e0 hl b0 he
 ·intro g hg;exact hle g _ (h.lz g hg)
 ·grind
 ·grind
 ·grind
theorem fN.of_heap(h:fN P σ m w)(he:w'.heap=w.heap):fN P σ m w':=⟨h.rT,λb i H=>(h.obj b i H).aV (λ_ _ x=>x) (by rw[he]),λb i H=>(by rw[he];exact h.lt b i H),h.inj,h.lz⟩
theorem Ev.of_heap(h:fN P σ m w)(he:w'.heap=w.heap)(H:w'.os=w.os)(ht:w'.tape=w.tape)(hu:w'.output=w.output):Ev P σ m w σ m w':=⟨λ_ _ x=>x,h.of_heap he,Ox _,Ox _,(by grind),λb i x y=>(by grind),λ_ _ _=>rfl,λ_ _ _=>(by rw[he]),H,ht,hu⟩
end
end
section
section
variable {E:Env} {P:Program}
structure TIF(P:Program)(t:TypeId)(ti:TI)(i:TypeInfo)(u:TypeDesc):Prop where
 info:P.info? t=some i
 gM:P.underlying t=some u
 d:ti.d=gX P u
 size:ti.size=i.size
 bytes:ti.bytes=i.bytes
 zero:ti.zero=i.zero
 es:ti.es=yU P u
 cmp:ti.cmp=Ii P t u
theorem Env.OK.rY(hE:E.OK P){t:TypeId}{ti:TI}(h:E.ty.get t=some ti):∃i u,TIF P t ti i u:=by
 have h:=hE.ty t ti h;unfold TS at h;cases hi:P.info? t with
 |none=>rw[hi]at h;simp at h
 |some i=>
  cases hu:P.underlying t with
  |none=>rw[hi,hu]at h;simp at h
  |some u=>rw[hi,hu]at h;simp only[Option.bind_eq_bind,Bd,No]at h;subst h;exact⟨i,u,hi,hu,rfl,rfl,rfl,rfl,rfl,rfl⟩
theorem bE.kY{σ:Sg}{v:Φ}(h:bA v):bE σ v v:=by
 cases v with
 |tuple H=>refine .tuple _ _ rfl λj u u' a b=>?_;rw[a]at b;cases b;exact .kZ (Jl.1 h u (by grind))
 |_=>exact .kZ h
theorem Env.OK.flat(hE:E.OK P){t:TypeId}{ti:TI}{z:Φ}(h:E.ty.get t=some ti)(hz:ti.zero=some z):bA z:=by
 have H:=hE.Le;unfold Env.Le at H;simp only[JJ]at H;have:=Jl.1 H.1 _ (Tr.get_mem E.ty t 1 0 h);grind
theorem Env.OK.fld(hE:E.OK P){t:TypeId}{ti:TI}{fs:List Fd}{f:Fd}(h:E.ty.get t=some ti)(hd:ti.d=.struct fs)(hf:f∈fs):∃H,E.ty.get f.ty=some H/\H.size=f.size:=by
 have hc:=hE.Le;unfold Env.Le at hc;simp only[JJ]at hc;have:=Jl.1 hc.1 _ (Tr.get_mem E.ty t 1 0 h);simp only[JJ,hd]at this;have h2:=Jl.1 this.2 f hf;cases hg:E.ty.get f.ty with
 |none=>rw[hg]at h2;simp at h2
 |some H=>rw[hg]at h2;exact⟨H,rfl,by simpa using h2⟩
theorem Env.OK.code(hE:E.OK P){f:FuncId}{fn:Func}(h:E.fn.get f=some fn):yr P.globals.size fn:=by
 have H:=hE.Le;unfold Env.Le at H;simp only[JJ]at H;have:=Jl.1 H.2 _ (Tr.get_mem E.fn f 1 0 h);rw[hE.G]at this;grind
theorem qh{u:TypeDesc}(h:gX P u=.bool):u=.bool:=by cases u <;>simp[gX]at h⊢
theorem pA{u:TypeDesc}{k:IntKind}(h:gX P u=.int k):u=.int k:=by cases u <;>simp[gX]at h⊢;exact h
theorem jv{u:TypeDesc}(h:gX P u=.str):u=.string:=by cases u <;>simp[gX]at h⊢
theorem fT{u:TypeDesc}{e:Nat}(h:gX P u=.slice e):u=.slice e:=by cases u <;>simp[gX]at h⊢;exact h
theorem iT{u:TypeDesc}{n e:Nat}(h:gX P u=.array n e):u=.array n e:=by cases u <;>simp[gX]at h⊢;exact h
theorem mV{u:TypeDesc}{k e:Nat}(h:gX P u=.map k e):u=.map k e:=by cases u <;>simp[gX]at h⊢;exact h
theorem uC{u:TypeDesc}(h:gX P u=.func):∃a b c,u=.func a b c:=by cases u <;>simp[gX]at h⊢
def uD(P:Program)(f:Field):Fd:=⟨f.type,f.offset,((P.info? f.type).map (·.size)).getD 0,f.name== "_" ||(P.info? f.type).isNone⟩
theorem DK{u:TypeDesc}{e:Nat}(h:gX P u=.ptr e):u=.pointer e:=by cases u <;>simp[gX]at h⊢;exact h
theorem yx{u:TypeDesc}{b:Bool}(h:gX P u=.iface b):∃ms:Array (String×TypeId),u=.interface ms/\ms.isEmpty=b:=by cases u <;>simp[gX]at h⊢;exact h
theorem ju{u:TypeDesc}{H:List Fd}(h:gX P u=.struct H):∃gs:Array Field,u=.struct gs/\H=gs.toList.map (uD P):=by
 cases u <;>simp[gX]at h
 exact⟨_,rfl,h.symm⟩
theorem sR(u:TypeDesc)(w:World)(t:TypeId)(h:P.underlying t=some u):(isAgg t).run P w=.ok (gX P u).agg w:=by unfold isAgg;rw[OY,Zx h,Y1];cases u <;>rfl
theorem run_typeInfo{t:TypeId}{i:TypeInfo}(h:P.info? t=some i)(w:World):(typeInfo t).run P w=.ok i w:=by simp[typeInfo,program,Sem.run,h]
theorem run_sizeOf{t:TypeId}{i:TypeInfo}(h:P.info? t=some i)(w:World):(sizeOf t).run P w=.ok i.size w:=by unfold sizeOf;rw[OY,run_typeInfo h];rfl
theorem gJ{t:TypeId}{i:TypeInfo}{z:Φ}(h:P.info? t=some i)(H:i.zero=some z)(w:World):(zeroValue t).run P w=.ok z w:=by unfold zeroValue;rw[OY,run_typeInfo h,Y1];simp[H]
variable {σ:Sg} {m m':M} {w:World}
theorem fN.cells(h:fN P σ m w){b:Nat}{i:BI}(H:σ b=some i){c:Bt}{e:TypeId}{g:Option Nat}(hg:m.get b=.cells c e g):
  ∃c':Array Φ,w.heap[i.cY]?=some (.cells c' e (0,0))/\c.length<=c'.size/\bN σ c (c'.toList.take c.length)/\Wx i c.length c'.size g:=by have:=h.obj b i H;rw[hg]at this;exact this
theorem fN.ro(h:fN P σ m w){b:Nat}{i:BI}(hb:σ b=some i){c:Bt}(hg:m.get b=.ro c):
  ∃(c':Array Φ) (e':TypeId) (fz:Nat×Nat),w.heap[i.cY]?=some (.cells c' e' fz)/\c.length<=c'.size/\∀(j:Nat) u H,c[j]?=some u->c'[j]?=some H->one u->bE σ u H:=by have:=h.obj b i hb;rw[hg]at this;exact this.2
theorem dV(b o n:Nat):(⟨b,o,none⟩:Addr).add n=⟨b,o+n,none⟩:=by unfold Addr.add;split <;>simp_all
theorem jK(hs:fN P σ m w){a:Addr}{i:BI}(ha:σ a.block=some i){n:Nat}{cs:Bt}(h:loadCells m a n=some cs):
  ∃a0:Bt,(Go.loadCells ⟨i.cY,a.off,none⟩ n).run P w=.ok a0.toArray w/\bN σ cs a0/\cs.length=n/\a.spot=none:=by
 unfold loadCells at h;split at h
 ·rename_i c e g hg;cases H:(a.spot.isNone && Nat.ble (a.off+n) c.length)with
  |false=>rw[H]at h;simp at h
  |true=>
   rw[H]at h;simp only[cond_true,No]at h;subst h;simp only[JJ]at H;have hle:=JO H.2;have⟨c',h1,h2,h3,_⟩:=hs.cells ha hg;have hlen:((c.drop a.off).take n).length=n:=by grind
   refine⟨((c'.toList.take c.length).drop a.off).take n,?_,(h3.drop _).take _,hlen,by simp_all⟩;have:=run_loadCells_list (P:=P) w ⟨i.cY,a.off,none⟩ (((c'.toList.take c.length).drop a.off).take n) (λj v hj=>by
    rw[dV];have b0:j<n:=by
     grind
    simp only[World.cell?,h1];grind)
   grind
 ·rename_i c hg;cases H:(a.spot.isNone && Nat.ble (a.off+n) c.length && ((c.drop a.off).take n).all one)with
  |false=>rw[H]at h;simp at h
  |true=>
   rw[H]at h;simp only[cond_true,No]at h;subst h;simp only[JJ]at H;have hle:=JO H.1.2;have⟨c',e',fz,h1,h2,h3⟩:=hs.ro ha hg;have hlen:((c.drop a.off).take n).length=n:=by grind
   have hr:bN σ ((c.drop a.off).take n) ((c'.toList.drop a.off).take n):=⟨by grind,λj u u' x y=>by
    grind⟩
   refine⟨(c'.toList.drop a.off).take n,?_,hr,hlen,by simp_all⟩;have:=run_loadCells_list (P:=P) w ⟨i.cY,a.off,none⟩ ((c'.toList.drop a.off).take n) (λj v hj=>by
    rw[dV];have b0:j<n:=by
     grind
    simp only[World.cell?,h1];grind)
   grind
 cases h
theorem abW(hs:fN P σ m w){a:Addr}{i:BI}(ha:σ a.block=some i){v:Φ}(h:cellAt m a=some v):
  ∃v',w.cell? ⟨i.cY,a.off,none⟩=some v'/\bE σ v v'/\a.spot=none:=by
 unfold cellAt at h;split at h
 ·rename_i c e g hg;by_cases b0:a.spot.isNone=true;·rw[Tf b0]at h;have⟨c',h1,h2,h3,_⟩:=hs.cells ha hg;have⟨u',hu,hr⟩:=h3.get h;have d0:=(OJ.1 h).1;rw[NU d0]at hu;exact⟨u',by simp only[World.cell?,h1];simpa using hu,hr,by simp_all⟩
  ·grind
 ·rename_i c hg;by_cases b0:a.spot.isNone=true
  ·rw[Tf b0]at h;have⟨c',e',fz,h1,h2,h3⟩:=hs.ro ha hg;cases hx:c[a.off]? with
   |none=>rw[hx]at h;cases h
   |some u=>
    rw[hx]at h;dsimp only at h;cases H:one u with
    |false=>rw[H]at h;cases h
    |true=>
     rw[H]at h;simp only[cond_true,No]at h;subst h;have d0:=(OJ.1 hx).1;have a0:a.off<c'.size:=by omega
     exact⟨c'[a.off],by simp only[World.cell?,h1];simp[a0],h3 _ _ _ hx (Array.getElem?_eq_getElem a0) H,by simp_all⟩
  ·grind
 cases h
theorem qP(hE:E.OK P)(hs:fN P σ m w){t:TypeId}{a:Addr}{i:BI}(ha:σ a.block=some i){v:Φ}(h:loadVar E m t a=some v):
  ∃v',(Go.loadVar t ⟨i.cY,a.off,none⟩).run P w=.ok v' w/\bE σ v v'/\a.spot=none:=by
 unfold loadVar at h;split at h
 ·rename_i ti a0;have⟨inf,u,f⟩:=hE.rY a0;unfold Go.loadVar;rw[OY,sR u w t f.gM,Y1,<-f.d];cases H:ti.d.agg with
  |true=>rw[H]at h;simp only[cond_true,Tq]at h;obtain⟨cs,b0,rfl⟩:=h;have⟨d0,h1,h2,_,h4⟩:=jK hs ha b0;refine⟨.agg d0.toArray,?_,h2.agg,h4⟩;simp only[RK,OY,run_sizeOf f.info,Y1];rw[<-f.size,h1];rfl
  |false=>
   rw[H]at h;simp only[T4]at h;have⟨v',h1,h2,h3⟩:=abW hs ha h;simp_all
 cases h
theorem Ff{σ:Sg}{c c' vs H:Bt}{o:Nat}(hl:c.length<=c'.length)(h:bN σ c (c'.take c.length))(hv:bN σ vs H)(ho:o+vs.length<=c.length):
  bN σ (c.take o++(vs++c.drop (o+vs.length))) ((c'.take o++H++c'.drop (o+H.length)).take c.length):=by
 have e:(c'.take o++H++c'.drop (o+H.length)).take c.length=(c'.take c.length).take o++(H++(c'.take c.length).drop (o+H.length)):=by
  have a0:=hv.1;rw[WO,Lf,Lf,Gx,Gy];have h1:min o c'.length=o:=by omega
  have h2:List.take c.length (List.take o c')=List.take o c':=by grind
  rw[h1,QM (l:=H) (by omega),Gx];congr 1;·grind
  ·congr 1;rw[List.take_drop];grind
 rw[e,<-hv.1];exact(h.take o).append (hv.append (h.drop _))
theorem mJ(hs:fN P σ m w){a:Addr}{i:BI}(ha:σ a.block=some i){vs H:Bt}(hv:bN σ vs H)(h:storeCells m a vs=some m'):
  ∃w',(Go.storeCells ⟨i.cY,a.off,none⟩ H).run P w=.ok () w'/\Ev P σ m w σ m' w'/\a.spot=none/\∀B,B≠i.cY->w'.heap[B]?=w.heap[B]?:=by
 unfold storeCells at h;split at h
 ·rename_i c e g hg;cases hc:(a.spot.isNone && Nat.ble (a.off+vs.length) c.length && vs.all one)with
  |false=>rw[hc]at h;simp at h
  |true=>
   rw[hc]at h;simp only[cond_true,No]at h;subst h;simp only[JJ]at hc;have hle:=JO hc.1.2;have⟨c',h1,h2,h3,h4⟩:=hs.cells ha hg;have b0:=hv.dS hc.2;have a0:=run_storeCells_at (P:=P) i.cY a.off e H 0 c' w h1 (by rw[<-hv.1];omega) b0;simp only[PD]at a0;have d0:∀B,B≠i.cY->(w.setRow i.cY (c'.toList.take a.off++H++c'.toList.drop (a.off+H.length)).toArray).heap[B]?=w.heap[B]?:=by
    intro B hB;simp only[World.setRow,Wr];grind
   refine⟨_,a0,?_,by simp_all,d0⟩;have hlen:(c'.toList.take a.off++H++c'.toList.drop (a.off+H.length)).length=c'.size:=by
    have:=hv.1;grind
   refine Ev.write hs ha (by grind) ?_ ?_ ?_ rfl rfl rfl
   ·have e0:(c.take a.off++(vs++c.drop (a.off+vs.length))).length=c.length:=by grind
    refine⟨_,setRow_heap w i.cY c' _ e _ h1,?_,?_,?_⟩;·grind
    ·rw[e0];exact Ff (by grind) h3 hv (by omega)
    ·grind
   ·grind
   ·simp_all
 cases h
theorem xI(hE:E.OK P)(hs:fN P σ m w){t:TypeId}{a:Addr}{i:BI}(ha:σ a.block=some i){v v':Φ}(hv:bE σ v v')(h:storeVar E m t a v=some m'):
  ∃w',(Go.storeVar t ⟨i.cY,a.off,none⟩ v').run P w=.ok () w'/\Ev P σ m w σ m' w'/\a.spot=none/\∀B,B≠i.cY->w'.heap[B]?=w.heap[B]?:=by
 unfold storeVar at h;split at h
 ·rename_i ti a0;have⟨inf,u,f⟩:=hE.rY a0;have hc:=hv.cells;cases H:Nat.beq (cells v).length ti.size with
  |false=>rw[H]at h;simp at h
  |true=>
   rw[H]at h;simp only[cond_true]at h;have he:=vZ H;have⟨w',h1,h2,h3⟩:=mJ hs ha hc h;refine⟨w',?_,h2,h3⟩;unfold Go.storeVar;rw[OY,run_sizeOf f.info,Y1];have hl:v'.cells.size=inf.size:=by rw[<-f.size,<-he,hc.1];simp
   grind
 cases h
end
end
section
section
variable {E:Env} {P:Program} {w:World}
theorem gd:∀{H:List Kd} {xs ys:Bt} {b:Bool},cp H xs ys=some b->xs.length=H.length/\ys.length=H.length
 |[],[],[],_,_=>⟨rfl,rfl⟩
 |[],[],_::_,_,h=>by simp[cp]at h
 |[],_::_,_,_,h=>by simp[cp]at h
 |_::_,[],_,_,h=>by simp[cp]at h
 |_::_,_::_,[],_,h=>by simp[cp]at h
 |k::H,a::x,c::y,b,h=>by
  unfold cp at h;split at h
  ·rename_i h1;have⟨e1,e2⟩:=gd h1;grind
  ·cases h
theorem lF:∀{H k2:List Kd} {xs ys:Bt} {b:Bool},cp (H++k2) xs ys=some b->
  ∃b1 b2,cp H (xs.take H.length) (ys.take H.length)=some b1/\cp k2 (xs.drop H.length) (ys.drop H.length)=some b2/\b=(b1 && b2)
 |[],_,_,_,b,h=>⟨true,b,by simp[cp],by grind,by simp⟩
 |k::H,k2,[],_,_,h=>by simp[cp]at h
 |k::H,k2,_::_,[],_,h=>by simp[cp]at h
 |k::H,k2,a::x,c::y,b,h=>by
  simp only[Jv,cp]at h;split at h
  ·rename_i b0 r h0 h1;have⟨c1,c2,e1,e2,e3⟩:=lF h1;simp only[No]at h;exact⟨b0 && c1,c2,by simp[cp,h0,e1],by grind,by grind⟩
  ·cases h
def valOf(u:TypeDesc)(cs:Bt):Φ:=
 match u with
 |.struct _ |.array _ _=> .agg cs.toArray
 |_=>cs.headD undef
def Iw:TypeDesc->Nat->Prop
 |.struct _,_=>True
 |.array _ _,_=>True
 |_,n=>n=1
theorem qW(H:List Kd):∀n:Nat,(nQ H n).length=n*H.length
 |0=>by simp[nQ]
 |n+1=>by unfold nQ;rw[NN,qW H n,JY];omega
theorem sw{t:TypeId}{i:TypeInfo}{u:TypeDesc}(hi:P.info? t=some i)(hu:P.underlying t=some u)(cs:Bt)(off:Nat)(h:off+i.size<=cs.length)
  (h1:Iw u i.size):(Go.part t cs.toArray off).run P w=.ok (valOf u ((cs.drop off).take i.size)) w:=by
 have H:cs.toArray.extract off (off+i.size)=((cs.drop off).take i.size).toArray:=by
  grind
 have b0:=sR (P:=P) u w t hu
 unfold Go.part
 rw[OY,b0,Y1]
 have basic:(gX P u).agg=false->i.size=1->valOf u ((cs.drop off).take i.size)=cs[off]?.getD undef->
   (if(gX P u).agg=true then do let n<-sizeOf t;pure (Value.agg (cs.toArray.extract off (off+n)))else match cs.toArray[off]? with |some v=>pure v |none=>stuck "part: no such cell" :Sem Φ).run P w=.ok (valOf u ((cs.drop off).take i.size)) w:=by
  intro ha hs hv
  have a0:off < cs.length:=by omega
  simp_all
 have head:i.size=1->((cs.drop off).take i.size).headD undef=cs[off]?.getD undef:=by
  intro hs
  have a0:off < cs.length:=by omega
  rw[hs,JK a0,Fx a0]
  rfl
 cases u with
 |struct fs=>
  have:(gX P (.struct fs)).agg:=rfl
  simp only[this,RK,OY,run_sizeOf hi,Y1,Wg,H,valOf]
 |array n e=>
  have:(gX P (.array n e)).agg:=rfl
  simp only[this,RK,OY,run_sizeOf hi,Y1,Wg,H,valOf]
 |_=>exact basic rfl h1 (head h1)
theorem Ck{d:Nat}{t:TypeId}{k:Kd}{u:TypeDesc}(hu:P.underlying t=some u)(hk:(u=.bool/\k=.b)\/((∃q,u=.int q)/\k=.i)\/(u=.string/\k=.s)){x y:Φ}{b:Bool}
  (h:HX k x y=some b):(Op.equalIn (d+1) t x y).run P w=.ok b w:=by
 rcases hk with⟨rfl,rfl⟩|⟨⟨q,rfl⟩,rfl⟩|⟨rfl,rfl⟩
 ·cases x <;>cases y <;>simp[HX]at h
  subst h;simp[Op.equalIn,Zx hu]
 ·cases x <;>cases y <;>simp[HX]at h
  obtain⟨rfl,rfl⟩:=h;simp[Op.equalIn,Zx hu]
 cases x <;>cases y <;>simp[HX]at h
 subst h;simp[Op.equalIn,Zx hu]
theorem rj{t:TypeId}{r:Option (List Kd)}{H:List Kd}(h:sized P t r=some H):∃i,P.info? t=some i/\r=some H/\H.length=i.size:=by
 unfold sized at h;grind
theorem yR(d:Nat)(xs ys:Bt)
  (ih:∀(t:TypeId) (ks:List Kd) (u:TypeDesc) (x y:Bt) (b:Bool),lJ P d t=some ks->P.underlying t=some u->cp ks x y=some b->∀K,d<=K->(Op.equalIn K t (valOf u x) (valOf u y)).run P w=.ok b w)
  (K:Nat) (hK:d<=K):∀(fs:List Field) (off:Nat) (ks:List Kd) (b:Bool),kinds (lJ P d) fs off=some ks->cp ks (xs.drop off) (ys.drop off)=some b->
   off+ks.length=xs.length->off+ks.length=ys.length->(Op.eqFields K xs.toArray ys.toArray fs).run P w=.ok b w
 |[],off,ks,b,h,he,_,_=>by
  simp only[kinds,No]at h
  subst h
  have:=(gd he)
  have e1:xs.drop off=[]:=Je (by grind)
  have e2:ys.drop off=[]:=Je (by grind)
  rw[e1,e2]at he
  simp only[cp,No]at he
  subst he
  simp[Op.eqFields]
 |f::fs,off,ks,b,h,he,hx,hy=>by
  unfold kinds at h
  by_cases hn:f.name= "_"
  ·grind
  ·rw[QL hn]at h
   by_cases ho:f.offset=off
   ·rw[Tf ho]at h
    split at h
    ·rename_i k1 a0
     split at h
     ·rename_i r hr
      cases h
      obtain⟨b1,b2,e1,e2,rfl⟩:=lF he
      cases d with
      |zero=>simp[lJ]at a0
      |succ d=>
       have b0:=a0
       unfold lJ at a0
       have⟨i,hi,H,hlen⟩:=rj a0
       cases hu:P.underlying f.type with
       |none=>rw[hu]at H;simp at H
       |some u=>
        simp only[NN]at hx hy
        have h1:Iw u i.size:=by
         rw[hu]at H
         cases u <;>simp at H <;>first |trivial |(subst H;exact hlen.symm)
        have p1:=sw (w:=w) hi hu xs f.offset (by omega) h1
        have p2:=sw (w:=w) hi hu ys f.offset (by omega) h1
        have q:=ih f.type k1 u _ _ b1 b0 hu (by rw[hlen]at e1;exact e1) K hK
        simp only[WL]at e2
        unfold Op.eqFields
        rw[Tf hn]
        simp only[OY,p1,p2,Y1]
        rw[ho,q]
        have rest:=yR (d+1) xs ys ih K hK fs (off+k1.length) r b2 hr e2 (by omega) (by omega)
        cases b1
        ·simp
        ·simp[rest]
     ·cases h
    ·cases h
   ·grind
theorem AB(d:Nat)(xs ys:Bt)(e:TypeId)(i:TypeInfo)(hi:P.info? e=some i)(u:TypeDesc)(hu:P.underlying e=some u)(H:List Kd)(a0:lJ P d e=some H)(hl:H.length=i.size) (h1:Iw u i.size) (ih:∀(t:TypeId) (ks:List Kd) (u:TypeDesc) (x y:Bt) (b:Bool),lJ P d t=some ks->P.underlying t=some u->cp ks x y=some b->∀K,d<=K->(Op.equalIn K t (valOf u x) (valOf u y)).run P w=.ok b w)
  (K:Nat) (hK:d<=K):∀(n j:Nat) (b:Bool),cp (nQ H n) (xs.drop (j*i.size)) (ys.drop (j*i.size))=some b->(j+n)*i.size=xs.length->(j+n)*i.size=ys.length->(Op.eqItems K e i.size xs.toArray ys.toArray (List.range' j n)).run P w=.ok b w
 |0,j,b,he,hx,hy=>by
  simp only[PD]at hx hy;rw[hx,GC,<-hx,hy,GC]at he;simp only[nQ,cp,No]at he;subst he;simp[Op.eqItems]
 |n+1,j,b,he,hx,hy=>by
  unfold nQ at he;obtain⟨b1,b2,e1,e2,rfl⟩:=lF he;have hmul:(j+(n+1))*i.size=j*i.size+i.size+n*i.size:=by
   grind
  have p1:=sw (w:=w) hi hu xs (j*i.size) (by omega) h1;have p2:=sw (w:=w) hi hu ys (j*i.size) (by omega) h1;have q:=ih e H u _ _ b1 a0 hu (by rw[hl]at e1;exact e1) K hK;rw[WL,WL,hl]at e2;have hj:j*i.size+i.size=(j+1)*i.size:=by grind
  rw[hj]at e2;have rest:=AB d xs ys e i hi u hu H a0 hl h1 ih K hK n (j+1) b2 e2 (by grind) (by grind);rw[List.range'_succ];unfold Op.eqItems;simp only[OY,p1,p2,Y1,q];cases b1;·simp
  ·grind
theorem Cr:∀(d:Nat) (t:TypeId) (ks:List Kd) (u:TypeDesc) (xs ys:Bt) (b:Bool),lJ P d t=some ks->P.underlying t=some u->cp ks xs ys=some b->
  ∀K,d<=K->(Op.equalIn K t (valOf u xs) (valOf u ys)).run P w=.ok b w
 |0,_,_,_,_,_,_,h,_,_,_,_=>by simp[lJ]at h
 |d+1,t,ks,u,xs,ys,b,h,hu,he,K,hK=>by
  obtain⟨K,rfl⟩:∃K',K=K'+1:=⟨K-1,by omega⟩
  unfold lJ at h;have⟨i,hi,H,hlen⟩:=rj h;rw[hu]at H;have one:∀k,ks=[k]->∃x y,xs=[x]/\ys=[y]/\HX k x y=some b:=by
   intro k hk;subst hk;have:=gd he;match xs,ys,this,he with
   |[x],[y],_,he=>
    refine⟨x,y,rfl,rfl,?_⟩;simp only[cp]at he;grind
  cases u with
  |bool=>
   simp only[No]at H;obtain⟨x,y,rfl,rfl,hk⟩:=one _ H.symm;exact Ck hu (.inl ⟨rfl,rfl⟩) hk
  |int q=>
   simp only[No]at H;obtain⟨x,y,rfl,rfl,hk⟩:=one _ H.symm;exact Ck hu (.inr (.inl ⟨⟨q,rfl⟩,rfl⟩)) hk
  |string=>
   simp only[No]at H;obtain⟨x,y,rfl,rfl,hk⟩:=one _ H.symm;exact Ck hu (.inr (.inr ⟨rfl,rfl⟩)) hk
  |struct fs=>
   simp only at H;by_cases j0:P.stoodInHeld t=true;·grind
   ·rw[QL j0]at H;have k0:P.fieldsOf t=fs:=by unfold Program.fieldsOf;rw[hu]
    have l0:=gd he;have:=run_equalIn_struct (P:=P) w K t xs.toArray ys.toArray (by grind) (by grind);rw[k0]at this;show(Op.equalIn (K+1) t (.agg xs.toArray) (.agg ys.toArray)).run P w=_;rw[this];exact yR d xs ys (λt ks u x y b=>Cr d t ks u x y b) K (by omega) fs.toList 0 ks b H (by grind) (by omega) (by omega)
  |array n e=>
   simp only at H;split at H
   ·rename_i k1 d0;by_cases hn:n*k1.length<=64
    ·rw[Tf hn]at H;cases H;have l0:=gd he;cases d with
     |zero=>simp[lJ]at d0
     |succ d=>
      have i0:=d0;unfold lJ at d0;have⟨ie,e0,b0,a0⟩:=rj d0;cases g0:P.underlying e with
      |none=>rw[g0]at b0;simp at b0
      |some ue=>
       have h1:Iw ue ie.size:=by
        rw[g0]at b0;cases ue <;>simp at b0 <;>first|trivial|(subst b0;exact a0.symm)
       have n0:(nQ k1 n).length=n*ie.size:=by rw[<-a0];exact qW k1 n
       have m0:P.cellsOf e=ie.size:=by unfold Program.cellsOf;rw[e0];rfl
       have:=run_equalIn_array (P:=P) w K xs.toArray ys.toArray hu e0;rw[m0]at this;show(Op.equalIn (K+1) t (.agg xs.toArray) (.agg ys.toArray)).run P w=_;rw[this,List.range_eq_range'];exact AB (d+1) xs ys e ie e0 ue g0 k1 i0 a0 h1 (λt ks u x y b=>Cr (d+1) t ks u x y b) K (by omega) n 0 b (by grind) (by grind) (by grind)
    ·grind
   ·cases H
  |_=>simp at H
end
end
section
section
variable {E:Env} {P:Program} {σ:Sg} {m m':M} {w:World}
theorem bE.int{k:IntKind}{n:Int}{v':Φ}(h:bE σ (.int k n) v'):v'=.int k n:=h.bR rfl
theorem bE.bool{b:Bool}{v':Φ}(h:bE σ (.bool b) v'):v'=.bool b:=h.bR rfl
theorem bE.string{s:ByteArray}{v':Φ}(h:bE σ (.string s) v'):v'=.string s:=h.bR rfl
theorem bE.iC{a:Addr}{v':Φ}(h:bE σ (.pointer (some a)) v'):∃i,σ a.block=some i/\a.spot=none/\v'=Ga i.cY a.off:=by
 cases h with
 |flat _ h=>simp[bw]at h
 |ptr _ i h H=>exact⟨i,h,H,rfl⟩
theorem bE.fA{a:Addr}{n c:Nat}{v':Φ}(h:bE σ (.slice (some a) n c) v'):∃(i:BI) (a':Addr) (c':Nat),σ a.block=some i/\v'=.slice (some a') n c'/\
  ((a.spot=none/\a'=⟨i.cY,a.off,none⟩/\((i.gr=none/\c'=c)\/∃k sz N,i.gr=some (k,sz,N)/\(c'=c\/(c<=c'/\a.off+c*k=sz/\a.off+c'*k=N))))\/(n=0/\c=0/\∃k sz N,i.gr=some (k,sz,N)/\a.off=sz)):=by
 cases h with
 |flat _ h=>simp[bw]at h
 |slice _ i _ _ h hs H=>exact⟨i,_,_,h,rfl,.inl ⟨hs,rfl,.inl ⟨H,rfl⟩⟩⟩
 |iy _ i _ _ c' k sz N h hs H hc=>exact⟨i,_,_,h,rfl,.inl ⟨hs,rfl,.inr ⟨k,sz,N,H,hc⟩⟩⟩
 |empty _ a' i c' k sz N h H ho=>exact⟨i,a',c',h,rfl,.inr ⟨rfl,rfl,k,sz,N,H,ho⟩⟩
theorem bE.iN{n c:Nat}{v':Φ}(h:bE σ (.slice none n c) v'):n=0/\c=0/\v'=YM:=by
 cases h with
 |flat _ h=>
  unfold bw at h;grind
theorem bE.sS{r:Nat}{v':Φ}(h:bE σ (.map (some r)) v'):∃i,σ r=some i/\v'=.map (some i.cY):=by
 cases h with
 |flat _ h=>simp[bw]at h
 |map _ i h=>exact⟨i,h,rfl⟩
theorem bE.tY{b:Option Addr}{n c:Nat}{v':Φ}(h:bE σ (.slice b n c) v'):∃H c',v'=.slice H n c'/\H.isNone=b.isNone:=by
 cases b with
 |none=>obtain⟨rfl,rfl,rfl⟩:=h.iN;exact⟨_,_,rfl,rfl⟩
 |some a=>obtain⟨_,a',c',_,rfl,_⟩:=h.fA;exact⟨_,_,rfl,rfl⟩
theorem bE.QZ{b:Option Nat}{v':Φ}(h:bE σ (.map b) v'):∃H,v'=.map H/\H.isNone=b.isNone:=by
 cases b with
 |none=>exact⟨_,h.bR rfl,rfl⟩
 |some r=>
  cases h with
  |flat _ h=>simp[bw]at h
  |map _ i h=>exact⟨_,rfl,rfl⟩
theorem bE.Hl{b:Option Addr}{v':Φ}(h:bE σ (.pointer b) v'):∃H,v'=.pointer H/\H.isNone=b.isNone:=by
 cases b with
 |none=>exact⟨_,h.bR rfl,rfl⟩
 |some r=>obtain⟨_,_,_,rfl⟩:=h.iC;exact⟨_,rfl,rfl⟩
theorem bE.map_nil{v':Φ}(h:bE σ (.map none) v'):v'=.map none:=h.bR rfl
theorem bE.mi{a:Array Φ}{v':Φ}(h:bE σ (.agg a) v'):∃H:Array Φ,v'=.agg H/\bN σ a.toList H.toList:=by
 cases h with
 |flat _ h=>simp[bw]at h
 |agg _ H ha h1=>exact⟨H,rfl,by grind,λj u u' x y=>h1 j u u' (by grind) (by grind)⟩
theorem bE.tV{a:Array Φ}{v':Φ}(h:bE σ (.tuple a) v'):∃H:Array Φ,v'=.tuple H/\bN σ a.toList H.toList:=by
 cases h with
 |flat _ h=>simp[bw]at h
 |tuple _ H ha h1=>exact⟨H,rfl,by grind,λj u u' x y=>h1 j u u' (by grind) (by grind)⟩
theorem bE.yP{f:FuncId}{a b:Array Φ}{v':Φ}(h:bE σ (.func (.func f) a b) v'):∃H b':Array Φ,v'=.func (.func f) H b'/\bN σ a.toList H.toList/\bN σ b.toList b'.toList:=by
 cases h with
 |flat _ h=>simp[bw]at h;obtain⟨rfl,rfl⟩:=h;exact⟨_,_,rfl,bN.nil,bN.nil⟩
 |func _ _ _ H b' ha hb h1 h2=>exact⟨H,b',rfl,⟨by grind,λj u u' x y=>h1 j u u' (by grind) (by grind)⟩,⟨by grind,λj u u' x y=>h2 j u u' (by grind) (by grind)⟩⟩
theorem Pn{k:Kd}{x y x' y':Φ}{b:Bool}(h:HX k x y=some b)(H:bE σ x x')(hy:bE σ y y'):x'=x/\y'=y:=by
 unfold HX at h;split at h;·exact⟨H.bool,hy.bool⟩
 ·exact⟨H.int,hy.int⟩
 ·exact⟨H.string,hy.string⟩
 cases h
theorem tw:∀{ks:List Kd} {x y H y':Bt} {b:Bool},cp ks x y=some b->bN σ x H->bN σ y y'->H=x/\y'=y
 |[],[],[],_,_,_,_,hx,hy=>⟨hx.nil_eq,hy.nil_eq⟩
 |[],[],_::_,_,_,_,h,_,_=>by simp[cp]at h
 |[],_::_,_,_,_,_,h,_,_=>by simp[cp]at h
 |_::_,[],_,_,_,_,h,_,_=>by simp[cp]at h
 |_::_,_::_,[],_,_,_,h,_,_=>by simp[cp]at h
 |k::ks,a::x,c::y,H,y',b,h,hx,hy=>by
  obtain⟨a',x1,rfl,ha,a0⟩:=hx.cases;obtain⟨c',y1,rfl,hc,b0⟩:=hy.cases;unfold cp at h;split at h
  ·rename_i h1 h2;have⟨q1,q2⟩:=Pn h1 ha hc;have⟨q3,q4⟩:=tw h2 a0 b0;grind
  ·cases h
theorem aeN(hE:E.OK P){t:TypeId}{x y x' y':Φ}{b:Bool}(h:eq? E t x y=some b)(hx:bE σ x x')(hy:bE σ y y'){d:Nat}(H:12<=d+1):
  (Op.equalIn (d+1) t x' y').run P w=.ok b w:=by
 unfold eq? at h;split at h;·cases h
 rename_i ti d0;have⟨inf,u,f⟩:=hE.rY d0;rw[f.d]at h;have b0:∀(xs ys:Array Φ) (ks:List Kd),x=.agg xs->y=.agg ys->ti.cmp=some ks->cp ks xs.toList ys.toList=some b->(∀cs,valOf u cs=.agg cs.toArray)->(Op.equalIn (d+1) t x' y').run P w=.ok b w:=by
  intro xs ys ks e1 e2 a0 he hv;subst e1;subst e2;obtain⟨a',rfl,ha⟩:=hx.mi;obtain⟨c',rfl,hc⟩:=hy.mi;have⟨q1,q2⟩:=tw he ha hc;have e0:lJ P 12 t=some ks:=by
   rw[f.cmp]at a0;unfold Ii at a0;grind
  have:=Cr (w:=w) 12 t ks u _ _ b e0 f.gM he (d+1) H;simp_all
 split at h;·rename_i H;cases h;rw[hx.bool,hy.bool];simp[Op.equalIn,Zx (f.gM.trans (by rw[qh H]))]
 ·rename_i H;split at h;·rename_i hk;subst hk;cases h;rw[hx.int,hy.int];simp[Op.equalIn,Zx (f.gM.trans (by rw[pA H]))]
  cases h
 ·rename_i H;cases h;rw[hx.string,hy.string];simp[Op.equalIn,Zx (f.gM.trans (by rw[jv H]))]
 ·rename_i H;obtain⟨gs,rfl,_⟩:=ju H;split at h;·rename_i ks a0;exact b0 _ _ ks rfl rfl a0 h (λ_=>rfl)
  cases h
 ·rename_i H;obtain rfl:=iT H;split at h;·rename_i ks a0;exact b0 _ _ ks rfl rfl a0 h (λ_=>rfl)
  cases h
 ·rename_i H;cases h;obtain⟨rfl,rfl,rfl⟩:=hx.iN;have hu:=f.gM.trans (by rw[fT H]);obtain⟨b',c',rfl,hb⟩:=hy.tY;rw[<-hb];simp[Op.equalIn,Zx hu]
 ·rename_i H;cases h;obtain⟨rfl,rfl,rfl⟩:=hy.iN;obtain⟨_,a',c',_,rfl,_⟩:=hx.fA;have hu:=f.gM.trans (by rw[fT H]);simp[Op.equalIn,Zx hu]
 ·rename_i H;cases h;rw[hx.map_nil];have hu:=f.gM.trans (by rw[mV H]);obtain⟨b',rfl,hb⟩:=hy.QZ;rw[<-hb];simp[Op.equalIn,Zx hu]
 ·rename_i H;cases h;rw[hy.map_nil];obtain⟨_,_,rfl⟩:=hx.sS;have hu:=f.gM.trans (by rw[mV H]);simp[Op.equalIn,Zx hu]
 ·rename_i H;cases h;obtain⟨a,c,e,rfl⟩:=uC H;rw[hx.bR rfl,hy.bR rfl];simp[Op.equalIn,Zx f.gM]
 ·rename_i H;cases h;obtain⟨a,c,e,rfl⟩:=uC H;rw[hx.bR rfl];cases hy <;>simp[Op.equalIn,Zx f.gM]
 ·rename_i H;cases h;obtain⟨a,c,e,rfl⟩:=uC H;rw[hy.bR rfl];cases hx <;>simp[Op.equalIn,Zx f.gM]
 ·rename_i H;cases h;have hu:=f.gM.trans (by rw[DK H]);rw[hx.bR rfl];obtain⟨b',rfl,hb⟩:=hy.Hl;rw[<-hb];simp[Op.equalIn,Zx hu]
 ·rename_i H;cases h;have hu:=f.gM.trans (by rw[DK H]);rw[hy.bR rfl];obtain⟨_,_,_,rfl⟩:=hx.iC;simp[Op.equalIn,Zx hu]
 ·rename_i H;cases h;obtain⟨ms,rfl,_⟩:=yx H;rw[hx.bR rfl,hy.bR rfl];simp[Op.equalIn,Zx f.gM]
 cases h
theorem pJ(hE:E.OK P){t:TypeId}{x y H y':Φ}{b:Bool}(h:eq? E t x y=some b)(hx:bE σ x H)(hy:bE σ y y'):(Op.equal t H y').run P w=.ok b w:=
 aeN hE h hx hy (d:=9999) (by omega)
theorem vH(hE:E.OK P){t:TypeId}{x y x' y':Φ}{b:Bool}(h:eq? E t x y=some b)(H:bE σ x x')(hy:bE σ y y')(op:BinOp)(xo yo:Operand):(eqGuard op t xo yo x' y').run P w=.ok () w:=by
 unfold eq? at h
 split at h
 ·cases h
 ·rename_i ti b0
  have⟨inf,u,f⟩:=hE.rY b0
  have calm:∀ks,ti.cmp=some ks->P.eqGuardType P.depth t=false:=by
   intro ks a0
   rw[f.cmp]at a0
   unfold Ii at a0
   grind
  split at h
  ·rw[H.bool];rw[eqGuard_at_bool];rfl
  ·rw[H.int];rw[eqGuard_at_int];rfl
  ·rw[H.string];rw[eqGuard_at_string];rfl
  ·split at h
   ·rename_i ks a0
    obtain⟨a',rfl,ha⟩:=H.mi
    obtain⟨c',rfl,hc⟩:=hy.mi
    exact run_eqGuard_agg w op t xo yo a' c' (calm ks a0)
   ·cases h
  ·split at h
   ·rename_i ks a0
    obtain⟨a',rfl,ha⟩:=H.mi
    obtain⟨c',rfl,hc⟩:=hy.mi
    exact run_eqGuard_agg w op t xo yo a' c' (calm ks a0)
   ·cases h
  ·obtain⟨rfl,rfl,rfl⟩:=H.iN
   rw[eqGuard_at_slice];rfl
  ·obtain⟨_,a',c',_,rfl,_⟩:=H.fA
   rw[eqGuard_at_slice];rfl
  ·rw[H.map_nil,eqGuard_at_map];rfl
  ·obtain⟨_,_,rfl⟩:=H.sS
   rw[eqGuard_at_map];rfl
  ·rw[H.bR rfl,eqGuard_at_nilFunc];rfl
  ·rw[H.bR rfl,eqGuard_at_nilFunc];rfl
  ·cases H <;>(rw[eqGuard_at_func];rfl)
  ·rw[H.bR rfl]
   obtain⟨b',rfl,_⟩:=hy.Hl
   unfold eqGuard;split <;>rfl
  ·obtain⟨_,_,_,rfl⟩:=H.iC
   unfold eqGuard;split <;>rfl
  ·rename_i hd
   rw[f.d]at hd
   obtain⟨ms,rfl,he⟩:=yx hd
   rw[H.bR rfl,hy.bR rfl]
   have hg:(Op.eqGuardIn (9999+1) t .nilIface .nilIface).run P w=.ok false w:=by
    unfold Op.eqGuardIn
    rw[OY,Zx f.gM]
    simp_all
   have hg:(Op.eqGuardIn Op.maxDepth t .nilIface .nilIface).run P w=.ok false w:=hg
   generalize hG:Op.eqGuardIn Op.maxDepth t .nilIface .nilIface=G at hg
   have key:(do if<-G then unsupported (.noEntry "binop/eql: two nil values of an interface type with methods, neither of them the literal nil"):Sem Unit).run P w=.ok () w:=by
    simp_all
   unfold eqGuard
   simp_all
  ·cases h
end
end
section
section
variable {E:Env} {P:Program} {σ:Sg} {m m':M} {w:World}
def mr:Φ->Bool
 |.int _ _ |.float _ _ |.complex _ _ _ |.string _=>false
 |_=>true
theorem bE.mr{x H:Φ}(h:bE σ x H):mr H=mr x:=by cases h <;>rfl
theorem Eo{t:TypeId}{x y:Φ}{b:Bool}(h:eq? E t x y=some b)(hi:∀k a k' b,x=.int k a->y=.int k' b->False)(hs:∀a b,x=.string a->y=.string b->False):mr x:=by
 unfold eq? at h;cases H:E.ty.get t with
 |none=>rw[H]at h;simp at h
 |some ti=>
  rw[H]at h;have⟨d,_,_,_,_,_⟩:=ti;cases x with
  |int k a=>cases d <;>cases y <;>first|(simp at h;done)|exact(hi _ _ _ _ rfl rfl).elim
  |string a=>cases d <;>cases y <;>first|(simp at h;done)|exact(hs _ _ rfl rfl).elim
  |float k a=>cases d <;>simp at h
  |complex k a b=>cases d <;>simp at h
  |_=>rfl
theorem zq{t:TypeId}{x y:Φ}(h:mr x):binOp .eql t x y=(do pure (.bool (<-Op.equal t x y))):=by cases x <;>simp[mr]at h <;>cases y <;>rfl
theorem zp{t:TypeId}{x y:Φ}(h:mr x):binOp .neq t x y=(do pure (.bool (!(<-Op.equal t x y)))):=by cases x <;>simp[mr]at h <;>cases y <;>rfl
theorem adU{op:BinOp}{t:TypeId}{k:IntKind}{a b:Int}{v:Φ}(h:iH op k a b=some v):(binOp op t (.int k a) (.int k b)).run P w=.ok v w/\bw v:=by
 unfold iH at h;cases op <;>simp only[No,reduceCtorEq]at h
 case quo=>
  split at h;·cases h
  cases h;rename_i H;exact⟨by simp[binOp,Op.intDiv,H],rfl⟩
 case rem=>
  split at h;·cases h
  cases h;rename_i H;exact⟨by simp[binOp,Op.intDiv,H],rfl⟩
 all_goals
  subst h;exact⟨by simp[binOp,Op.intArith,Op.intBits,Op.intCmp],rfl⟩
theorem GA{op:BinOp}{t:TypeId}{a b:ByteArray}{v:Φ}(h:GB op a b=some v):(binOp op t (.string a) (.string b)).run P w=.ok v w/\bw v:=by
 unfold GB at h;cases op <;>simp only[No,reduceCtorEq]at h
 case add=>
  split at h;·cases h
  cases h;rename_i H;exact⟨by simp only[binOp,Op.stringOp,QL H];rfl,rfl⟩
 all_goals
  subst h;exact⟨by simp[binOp,Op.stringOp],rfl⟩
theorem AZ(hE:E.OK P){op:BinOp}{t:TypeId}{x y x' y' v:Φ}(h:aA E op t x y=some v)(hx:bE σ x x')(hy:bE σ y y')(xo yo:Operand):
  (eqGuard op t xo yo x' y' >>=λ_=>binOp op t x' y').run P w=.ok v w/\bw v:=by
 unfold aA at h;split at h
 ·rw[hx.int,hy.int];split at h;·cases h
  cases h;rename_i hb;exact⟨by rw[eqGuard_shl];simp[binOp,Op.shift,hb],rfl⟩
 ·rw[hx.int,hy.int];split at h;·cases h
  cases h;rename_i hb;exact⟨by rw[eqGuard_shr];simp[binOp,Op.shift,hb],rfl⟩
 ·rw[hx.int,hy.int];split at h;·rename_i hk;subst hk;have⟨h1,h2⟩:=adU (P:=P) (w:=w) (t:=t) h;exact⟨by rw[eqGuard_at_int];simpa using h1,h2⟩
  cases h
 ·rw[hx.string,hy.string];have⟨h1,h2⟩:=GA (P:=P) (w:=w) (t:=t) h;exact⟨by rw[eqGuard_at_string];simpa using h1,h2⟩
 ·rename_i hi hs;cases H:eq? E t x y with
  |none=>rw[H]at h;simp at h
  |some b=>rw[H]at h;simp only[TN,No]at h;subst h;have hh:=Eo H (λk a k' b e1 e2=>hi _ _ _ _ e1 e2) (λa b e1 e2=>hs _ _ e1 e2);have hg:=vH (w:=w) hE H hx hy .eql xo yo;have he:=pJ (w:=w) hE H hx hy;refine⟨?_,rfl⟩;rw[zq (by rw[hx.mr];exact hh),OY,hg,Y1,OY,he];rfl
 ·rename_i hi hs;cases H:eq? E t x y with
  |none=>rw[H]at h;simp at h
  |some b=>rw[H]at h;simp only[TN,No]at h;subst h;have hh:=Eo H (λk a k' b e1 e2=>hi _ _ _ _ e1 e2) (λa b e1 e2=>hs _ _ e1 e2);have hg:=vH (w:=w) hE H hx hy .neq xo yo;have he:=pJ (w:=w) hE H hx hy;refine⟨?_,rfl⟩;rw[zp (by rw[hx.mr];exact hh),OY,hg,Y1,OY,he];rfl
 cases h
theorem CY{op:UnOp}{x H v:Φ}(h:cU op x=some v)(hx:bE σ x H):(Op.unary op H).run P w=.ok v w/\bw v:=by
 unfold cU at h;split at h;·cases h;rw[hx.int];exact⟨by simp[Op.unary,Op.intArith],rfl⟩
 ·cases h;rw[hx.bool];exact⟨by simp[Op.unary],rfl⟩
 cases h
theorem aeg(hE:E.OK P){s d:TypeId}{x x' v:Φ}(h:Ps E s d x=some v)(hx:bE σ x x'):(convert s d x').run P w=.ok v w/\bw v:=by
 unfold Ps at h;split at h
 ·rename_i si ti k n hs ht;have⟨_,us,fs⟩:=hE.rY hs;have⟨_,ut,H⟩:=hE.rY ht;split at h;·rename_i hd;cases h;rw[H.d]at hd;rw[hx.int];have hu:=H.gM.trans (by rw[pA hd]);refine⟨?_,rfl⟩;simp[convert,Zx fs.gM,Zx hu,Conv.intToInt]
  cases h
 ·rename_i si ti b hs ht;have⟨_,us,fs⟩:=hE.rY hs;have⟨_,ut,H⟩:=hE.rY ht;split at h;·rename_i hd;cases h;rw[H.d]at hd;rw[hx.string];have hu:=H.gM.trans (by rw[jv hd]);refine⟨?_,rfl⟩;simp[convert,Zx fs.gM,Zx hu]
  cases h
 cases h
theorem Fv(hE:E.OK P){t:TypeId}{cs H:Bt}{off:Nat}{v:Φ}(h:part E t cs off=some v)(hc:bN σ cs H):
  ∃v',(Go.part t H.toArray off).run P w=.ok v' w/\bE σ v v':=by
 unfold part at h;split at h
 ·rename_i ti d0;have⟨i,u,f⟩:=hE.rY d0;have a0:=sR (P:=P) u w t f.gM;rw[<-f.d]at a0;unfold Go.part;rw[OY,a0,Y1];cases ha:ti.d.agg with
  |true=>
   rw[ha]at h;simp only[cond_true]at h;cases hb:Nat.ble (off+ti.size) cs.length with
   |false=>rw[hb]at h;simp at h
   |true=>
    rw[hb]at h;simp only[cond_true,No]at h;subst h;refine⟨.agg ((H.drop off).take ti.size).toArray,?_,((hc.drop off).take ti.size).agg⟩;have b0:H.toArray.extract off (off+i.size)=((H.drop off).take ti.size).toArray:=by
     apply Tu;rw[Array.toList_extract,List.extract_eq_take_drop,f.size];grind
    simp only[RK,OY,run_sizeOf f.info,Y1,Wg,b0]
  |false=>
   rw[ha]at h;simp only[T4]at h;have⟨u',hu,hr⟩:=hc.get h;simp_all
 cases h
theorem oz(hE:E.OK P){t:TypeId}{x x' v:Φ}{n:Nat}(h:af E t x n=some v)(hx:bE σ x x'):∃v',(Instr.fieldAt t x' n).run P w=.ok v' w/\bE σ v v':=by
 unfold af at h;split at h
 ·rename_i ti a d0;have⟨i,u,f⟩:=hE.rY d0;split at h
  ·rename_i fs hd;rw[f.d]at hd;obtain⟨gs,rfl,rfl⟩:=ju hd;split at h
   ·rename_i fd H;simp only[Z0,Tq]at H;obtain⟨g,hg,rfl⟩:=H;obtain⟨bi,hb,a0,rfl⟩:=hx.iC;cases hz:Nat.beq (uD P g).size 0 with
    |true=>rw[hz]at h;simp at h
    |false=>
     rw[hz]at h;simp only[T4,No]at h;subst h;have b0:=Mm hz;cases hi:P.info? g.type with
     |none=>simp[uD,hi]at b0
     |some gi=>
      have e0:gi.size≠0:=by simpa[uD,hi]using b0
      have g0:gs[n]?=some g:=by grind
      have⟨bl,o,sp⟩:=a;simp only at a0 hb;subst a0;refine⟨Ga bi.cY (o+g.offset),?_,?_⟩;·simp only[Instr.fieldAt,OY,Zx f.gM,Y1,g0,Instr.sureAddr,Wg,fieldPlace,run_sizeOf hi,QL e0,dV]
      have:((uD P g).off)=g.offset:=rfl;rw[this,dV];exact .ptr ⟨bl,o+g.offset,none⟩ bi hb rfl
   cases h
  cases h
 cases h
theorem rL{u:TypeDesc}{e:Nat}(hu:yU P u=0->False)(he:u=.slice e\/∃n,u=.array n e):∃H,P.info? e=some H/\yU P u=H.size:=by
 rcases he with rfl|⟨n,rfl⟩
 ·cases hi:P.info? e with
  |none=>simp[yU,hi]at hu
  |some H=>exact⟨H,rfl,by simp[yU,hi]⟩
 ·cases hi:P.info? e with
  |none=>simp[yU,hi]at hu
  |some H=>exact⟨H,rfl,by simp[yU,hi]⟩
theorem oo(hE:E.OK P){t:TypeId}{x x' y y' v:Φ}(h:ak E t x y=some v)(hx:bE σ x x')(hy:bE σ y y'):∃v',(Instr.indexAt t x' y').run P w=.ok v' w/\bE σ v v':=by
 unfold ak at h;split at h;·cases h
 rename_i ti e0;have⟨i,u,f⟩:=hE.rY e0;split at h
 ·rename_i e a n c k j hd;rw[f.d]at hd;obtain rfl:=fT hd;split at h
  ·rename_i hc;cases h;obtain⟨ei,H,a0⟩:=rL (P:=P) (u:=.slice e) (by rw[<-f.es];omega) (.inl rfl);rw[hy.int];obtain⟨bi,a',c',hb,rfl,b0⟩:=hx.fA;rcases b0 with⟨d0,rfl,_⟩|⟨rfl,rfl,_⟩
   ·have⟨bl,o,sp⟩:=a;subst d0;refine⟨Ga bi.cY (o+j.toNat*ei.size),?_,?_⟩
    ·have h2:0<=j/\j<(n:Int):=⟨hc.1,hc.2.1⟩
     simp only[Instr.indexAt,OY,asIntOf,Wg,Y1,Zx f.gM,Tf h2,run_sizeOf H,dV]
    rw[f.es,a0,dV];exact .ptr ⟨bl,o+j.toNat*ei.size,none⟩ bi hb rfl
   ·grind
  cases h
 ·rename_i n e a k j hd;rw[f.d]at hd;obtain rfl:=iT hd;split at h
  ·rename_i hc;cases h;obtain⟨ei,H,a0⟩:=rL (P:=P) (u:=.array n e) (by rw[<-f.es];omega) (.inr ⟨n,rfl⟩);rw[hy.int];obtain⟨bi,hb,d0,rfl⟩:=hx.iC;have⟨bl,o,sp⟩:=a;subst d0;refine⟨Ga bi.cY (o+j.toNat*ei.size),?_,?_⟩
   ·have h2:0<=j/\j<(n:Int):=⟨hc.1,hc.2.1⟩
    simp only[Instr.indexAt,OY,asIntOf,Wg,Y1,Zx f.gM,Instr.sureAddr,Tf h2,run_sizeOf H,dV]
   rw[f.es,a0,dV];exact .ptr ⟨bl,o+j.toNat*ei.size,none⟩ bi hb rfl
  cases h
 cases h
theorem vF(hE:E.OK P){t:TypeId}{x x' y y' v:Φ}(h:index? E t x y=some v)(hx:bE σ x x')(hy:bE σ y y'):∃v',(Instr.index t x' y').run P w=.ok v' w/\bE σ v v':=by
 unfold index? at h;split at h;·cases h
 rename_i ti a0;have⟨i,u,f⟩:=hE.rY a0;split at h
 ·rename_i n e cs k j H;rw[f.d]at H;obtain rfl:=iT H;split at h
  ·rename_i hc;rw[hy.int];obtain⟨e0,rfl,b0⟩:=hx.mi;have⟨v',h1,h2⟩:=Fv (w:=w) hE h b0;refine⟨v',?_,h2⟩;have hp:=h;unfold part at hp;split at hp
   ·rename_i ei d0;have⟨ie,ue,fe⟩:=hE.rY d0;have g0:ti.es=ie.size:=by rw[f.es];simp[yU,fe.info]
    have h3:(0:Int)<=j/\j<(n:Int):=hc;simp only[Instr.index,OY,asIntOf,Wg,Y1,Zx f.gM,Tf h3,run_sizeOf fe.info];simp_all
   cases hp
  cases h
 ·rename_i s k j H;rw[f.d]at H;obtain rfl:=jv H;split at h;·rename_i hc;simp only[Tq]at h;obtain⟨b,hb,rfl⟩:=h;rw[hy.int,hx.string];refine⟨.int .u8 b.toNat,?_,.flat _ rfl⟩;simp only[Instr.index,OY,asIntOf,Wg,Y1,Zx f.gM,Tf hc,hb]
  cases h
 cases h
end
end
section
def KX(P:Program)(σ:Sg)(m:M)(w:World)(s:Sem Φ)(v:Φ)(m':M):Prop:=
 ∃σ' w' H,s.run P w=.ok H w'/\bE σ' v H/\Ev P σ m w σ' m' w'
section
variable {E:Env} {P:Program} {σ:Sg} {m m':M} {w:World}
theorem KX.pure(H:fN P σ m w){s:Sem Φ}{v v':Φ}(h:s.run P w=.ok v' w)(hv:bE σ v v'):KX P σ m w s v m:=⟨σ,w,v',h,hv,Ev.refl H⟩
def T7(len size:Nat):Option Nat->Option (Nat×Nat×Nat)
 |none=>none
 |some k=>some (k,len,size)
theorem Hw(H:fN P σ m w){c:Bt}{c':Array Φ}{e:TypeId}{g:Option Nat}(hl:c.length<=c'.size)(h:bN σ c (c'.toList.take c.length))
  (hg:Wx ⟨w.heap.size,T7 c.length c'.size g⟩ c.length c'.size g):
  Ev P σ m w (σ.add m.n ⟨w.heap.size,T7 c.length c'.size g⟩) (m.push (.cells c e g)) (w.alloc (.cells c' e)):=by refine Ev.uB H ⟨c',?_,hl,h.mono (Sg.yE H.mU),hg⟩;exact heap_alloc_new w _
theorem uA(H:fN P σ m w){c:Bt}{c':Array Φ}{e:TypeId}(h:bN σ c c'.toList):
  Ev P σ m w (σ.add m.n ⟨w.heap.size,none⟩) (m.push (.cells c e none)) (w.alloc (.cells c' e)):=by
 have hl:c.length=c'.size:=by simpa using h.1
 refine Hw (g:=none) H (by omega) ?_ ⟨rfl,hl.symm⟩;rw[QM (by grind)];exact h
theorem KO(H:fN P σ m w){t:TypeId}{v v':Φ}(hv:bE σ v v'):KX P σ m w (Instr.box t v') (newVar m t v).1 (newVar m t v).2:=by
 refine⟨_,_,Ga w.heap.size 0,?_,?_,uA H hv.cells (e:=t)⟩;·simp[Instr.box,Go.newVar,newRow]
 exact .ptr ⟨m.n,0,none⟩ _ (Sg.add_same _ _) rfl
theorem EE(hE:E.OK P)(hs:fN P σ m w){t:TypeId}{z:Φ}(H:vg E t=some z):KX P σ m w (Instr.alloc t true (.tuple #[])) (newVar m t z).1 (newVar m t z).2:=by
 unfold vg at H;cases ht:E.ty.get t with
 |none=>rw[ht]at H;simp at H
 |some ti=>
  rw[ht]at H;have⟨i,u,f⟩:=hE.rY ht;have hr:=gJ (w:=w) f.info (by rw[<-f.zero];exact H);refine⟨_,_,Ga w.heap.size 0,?_,?_,uA hs (bE.kY (hE.flat ht H)).cells (e:=t)⟩;·simp[Instr.alloc,hr,Go.newVar,newRow]
  exact .ptr ⟨m.n,0,none⟩ _ (Sg.add_same _ _) rfl
theorem sZ(off:Nat):∀(l:Bt) (k:Nat) (cs:Array Φ),off+k+l.length<=cs.size->(l.zipIdx k).foldl (λcs p=>cs.setIfInBounds (off+p.2) p.1) cs=(cs.toList.take (off+k)++(l++cs.toList.drop (off+k+l.length))).toArray
 |[],k,cs,_=>by simp
 |v::l,k,cs,h=>by
  simp only[zG]at h;simp only[List.zipIdx_cons,IW];rw[sZ off l (k+1) (cs.setIfInBounds (off+k) v) (by grind)];have e:=list_seg_step cs.toList (off+k) v l (by grind);simp only[Array.toList_setIfInBounds,zG];grind
theorem nJ{place place':Nat->Option (Nat×Nat)}(hp:∀i o,place i=some o->place' i=some o){T:Operand->Φ}{A:Operand->Φ}:
  ∀(ps:List (Nat×Operand)) (cs:Bt) (H:Array Φ) (out:Bt),(∀p∈ps,bE σ (T p.2) (A p.2))->bN σ cs H.toList->
   fill place cs (ps.map λp=>(p.1,T p.2))=some out->∃a0:Array Φ,Instr.fill place' H (ps.map λp=>(p.1,A p.2))=some a0/\bN σ out a0.toList
 |[],cs,H,out,_,hc,h=>by
  simp only[Rj,fill,No]at h;subst h;exact⟨H,rfl,hc⟩
 |p::ps,cs,H,out,hv,hc,h=>by
  simp only[Kt,fill]at h;split at h;·cases h
  ·rename_i off size ho;have hx:=hv p zN;have b0:=hx.cells;cases hb:(Nat.beq (cells (T p.2)).length size && Nat.ble (off+size) cs.length)with
   |false=>rw[hb]at h;simp at h
   |true=>
    rw[hb]at h;simp only[cond_true]at h;simp only[JJ]at hb;have h1:=vZ hb.1;have h2:=JO hb.2;have e0:=b0.1;have g0:=hc.1;simp only[ME]at e0 g0;have d0:=sZ off (A p.2).cells.toList 0 H (by grind);simp only[PD]at d0;have i0:((A p.2).cells.zipIdx.foldl (λcs (x:Φ×Nat)=>cs.setIfInBounds (off+x.2) x.1) H)=(H.toList.take off++((A p.2).cells.toList++H.toList.drop (off+(A p.2).cells.toList.length))).toArray:=by
     rw[<-d0,<-zP];simp
    have j0:bN σ (cs.take off++(cells (T p.2)++cs.drop (off+size))) (H.toList.take off++((A p.2).cells.toList++H.toList.drop (off+(A p.2).cells.toList.length))):=by
     have:(A p.2).cells.toList.length=size:=by grind
     rw[this];exact(hc.take off).append (b0.append (hc.drop _))
    obtain⟨a0,e1,e2⟩:=nJ hp ps _ (H.toList.take off++((A p.2).cells.toList++H.toList.drop (off+(A p.2).cells.toList.length))).toArray out (λq hq=>hv q (W6 _ hq)) (by grind) h;refine⟨a0,?_,e2⟩;simp only[Kt,Instr.fill,hp _ _ ho];grind
theorem vP(hE:E.OK P){T A:Operand->Φ}{t:TypeId}{ps:Array (Nat×Operand)}{v:Φ}(hv:∀p∈ps.toList,bE σ (T p.2) (A p.2))
  (h:aJ E t (ps.toList.map λp=>(p.1,T p.2))=some v):∃v',(Instr.build t (ps.map λp=>(p.1,A p.2))).run P w=.ok v' w/\bE σ v v':=by
 unfold aJ at h;split at h;·cases h
 rename_i ti d0;have⟨i,u,f⟩:=hE.rY d0;split at h
 ·rename_i z fs hz hd;have H:=hE.flat d0 hz;have i0:=hd;rw[f.d]at hd;obtain⟨gs,rfl,rfl⟩:=ju hd;simp only[Tq]at h;obtain⟨cs,e0,rfl⟩:=h;have hr:=gJ (w:=w) f.info (by rw[<-f.zero];exact hz);have a0:(gs.mapM (m:=Sem) λf=>do pure (f.offset,<-sizeOf f.type)).run P w=.ok (gs.map λg=>(g.offset,(uD P g).size)) w:=by
   have key:∀(l:List Field),(∀g∈l,∃gi,P.info? g.type=some gi)->(l.mapM (m:=Sem) λf=>do pure (f.offset,<-sizeOf f.type)).run P w=.ok (l.map λg=>(g.offset,(uD P g).size)) w:=by
    intro l;induction l with
    |nil=>intro _;rfl
    |cons g l ih=>intro hl;have⟨gi,g0⟩:=hl g zN;have h2:=ih (λg hg=>hl g (W6 _ hg));rw[List.mapM_cons];simp only[OY,run_sizeOf g0,Y1,Wg,h2,Kt];simp[uD,g0]
   have:=key gs.toList (λg hg=>by have⟨fi,h1,_⟩:=hE.fld d0 i0 (WZ (f:=uD P) hg);have⟨gi,gu,gf⟩:=hE.rY h1;exact⟨gi,gf.info⟩);rw[TR,Sem.run_map,this];simp only[Y1];congr 1;grind
  obtain⟨b0,e1,e2⟩:=nJ (σ:=σ) (place':=((gs.map λg=>(g.offset,(uD P g).size))[·]?)) (by
   intro j o ho;simp only[Z0,Option.map_map,Tq]at ho;obtain⟨g,hg,rfl⟩:=ho;have:gs[j]?=some g:=by grind
   simp[this,uD]) ps.toList (cells z) z.cells cs hv (bE.kY H).cells e0
  refine⟨.agg b0,?_,?_⟩
  ·simp only[Instr.build,OY,hr,Y1,Zx f.gM,a0];simp_all
  have:=e2.agg;simpa using this
 ·rename_i z n e hz hd;have H:=hE.flat d0 hz;rw[f.d]at hd;obtain rfl:=iT hd;cases hb:Nat.beq ti.es 0 with
  |true=>rw[hb]at h;simp at h
  |false=>
   rw[hb]at h;have j0:=Mm hb;simp only[T4,Tq]at h;obtain⟨cs,e0,rfl⟩:=h;have hr:=gJ (w:=w) f.info (by rw[<-f.zero];exact hz);obtain⟨ei,k0,l0⟩:=rL (P:=P) (u:=.array n e) (by rw[<-f.es];exact j0) (.inr ⟨n,rfl⟩);obtain⟨b0,e1,e2⟩:=nJ (σ:=σ) (place':=λj=>some (j*ei.size,ei.size)) (by intro j o ho;rw[f.es,l0]at ho;exact ho) ps.toList (cells z) z.cells cs hv (bE.kY H).cells e0;refine⟨.agg b0,?_,?_⟩
   ·simp only[Instr.build,OY,hr,Y1,Zx f.gM,run_sizeOf k0];simp_all
   have:=e2.agg;simpa using this
 cases h
end
end
section
section
variable {E:Env} {P:Program} {σ:Sg} {m m':M} {w:World}
theorem nk(z:Bt):∀n:Nat,(lS z n).length=n*z.length
 |0=>by simp[lS]
 |n+1=>by unfold lS;rw[NN,nk z n,JY];omega
theorem zT(z:Bt):∀(n i:Nat),i<n*z.length->(lS z n)[i]?=z[i%z.length]?
 |0,i,h=>by grind
 |n+1,i,h=>by
  unfold lS;by_cases hi:i<z.length;·rw[QH hi,Rl hi]
  ·rw[zC (by omega),zT z n _ (by grind)];congr 1;rw[<-LP (by omega)]
theorem zS{z H:Bt}(h:bN σ z H):∀n:Nat,bN σ (lS z n) (lS H n)
 |0=>bN.nil
 |n+1=>h.append (zS h n)
theorem Dr(z:Array Φ)(n:Nat):((Array.range (n*z.size)).map λi=>z[i%z.size]!)=(lS z.toList n).toArray:=by
 apply Tu;apply OG;intro i;simp only[Array.toList_map,Z0,Array.toList_range];by_cases hi:i<n*z.size
 ·rw[Ks hi,zT z.toList n i (by grind)];have H:0<z.size:=by
   grind
  have hm:i%z.size<z.size:=TH _ H;grind
 ·rw[M8 (by grind),M8 (by rw[nk];simpa using hi)];rfl
theorem uX(hE:E.OK P)(hs:fN P σ m w){T A:Operand->Φ}{t:TypeId}{n:Nat}{ps:Array (Nat×Operand)}{v:Φ}(hv:∀p∈ps.toList,bE σ (T p.2) (A p.2))
  (h:aF E m t n (ps.toList.map λp=>(p.1,T p.2))=some (v,m')):KX P σ m w (Instr.buildSlice t n (ps.map λp=>(p.1,A p.2))) v m':=by
 unfold aF at h;split at h;·cases h
 rename_i ti e0;have⟨i,u,f⟩:=hE.rY e0;split at h
 ·rename_i e hd;rw[f.d]at hd;obtain rfl:=fT hd;split at h;·cases h
  ·rename_i z hz;unfold vg at hz;cases he:E.ty.get e with
   |none=>rw[he]at hz;simp at hz
   |some ei=>
    rw[he]at hz;have⟨ie,ue,fe⟩:=hE.rY he;have j0:ti.es=ie.size:=by rw[f.es];simp[yU,fe.info]
    cases hb:(Nat.beq (cells z).length ti.es && Nat.ble (n*ti.es) 1048576)with
    |false=>rw[hb]at h;simp at h
    |true=>
     rw[hb]at h;simp only[cond_true,Tq,xU]at h;obtain⟨cs,g0,rfl,rfl⟩:=h;simp only[JJ]at hb;have h1:=vZ hb.1;have h2:=JO hb.2;have d0:=(bE.kY (σ:=σ) (hE.flat he hz)).cells;have i0:z.cells.size=ie.size:=by have:=d0.1;simp at this;omega
     have hr:=gJ (w:=w) fe.info (by rw[<-fe.zero];exact hz);obtain⟨a0,e1,e2⟩:=nJ (σ:=σ) (place':=λj=>some (j*ie.size,ie.size)) (by
      grind) ps.toList (lS (cells z) n) (lS z.cells.toList n).toArray cs hv (by simpa using zS d0 n) g0
     refine⟨_,_,KI w.heap.size 0 n n,?_,?_,uA hs e2 (e:=e)⟩
     ·have b0:Instr.fill (λi=>some (i*ie.size,ie.size)) ((Array.range (n*ie.size)).map (z.cells[·%z.cells.size]!)) (ps.map λp=>(p.1,A p.2)).toList=some a0:=by
       have:=Dr z.cells n;simp_all
      by_cases h0:n*ie.size=0
      ·have k0:(lS z.cells.toList n).toArray= #[]:=by apply Tu;exact Je (by rw[nk];simp only[ME];rw[i0];exact h0)
       have H:Instr.fill (λi=>some (i*ie.size,ie.size)) ((Array.range (n*ie.size)).map ((#[]:Array Φ)[·%(#[]:Array Φ).size]!)) (ps.map λp=>(p.1,A p.2)).toList=some a0:=by
        grind
       simp only[Instr.buildSlice,OY,Zx f.gM,Y1,run_sizeOf fe.info,Sem.run_ite];simp only[Wg,Y1,h0,RK];rw[h0]at H;rw[H];simp[newRow]
      simp only[Instr.buildSlice,OY,Zx f.gM,Y1,run_sizeOf fe.info,Sem.run_ite];rw[QL (by grind)];simp only[Wg,Y1,h0,if_false,hr];rw[b0];simp[newRow]
     exact .slice ⟨m.n,0,none⟩ _ n n (Sg.add_same _ _) rfl rfl
 cases h
end
end
section
section
variable {E:Env} {P:Program} {σ:Sg} {m m':M} {w:World}
theorem jz{x x':Φ}{y n:Nat}(h:rR x y=some n)(hx:bE σ x x')(H:Nat)(hy:y<=H)(c:BoundsCode):(Instr.sliceBound x' H c).run P w=.ok n w/\n<=y:=by
 unfold rR at h;split at h
 ·rename_i k i;split at h
  ·rename_i hc;cases h;rw[hx.int];refine⟨?_,by omega⟩;have h2:0<=i/\i<=(H:Int):=by omega
   simp only[Instr.sliceBound,OY,asIntOf,Wg,Y1,Tf h2]
  cases h
 cases h
def zv(σ:Sg)(x H:Option Φ):Prop:=match x,H with
 |none,none=>True
 |some v,some v'=>bE σ v v'
 |_,_=>False
theorem ff{len cap:Nat}{lo hi mx a0 b0 mx':Option Φ}{l h k:Nat}(e:fF len cap lo hi mx=some (l,h,k))(h1:zv σ lo a0)(h2:zv σ hi b0)(h3:zv σ mx mx')
  (d0:len<=cap) (b:Bool) (H:Nat) (hc:cap<=H):
  (Instr.sliceBounds b len H a0 b0 mx').run P w=.ok (l,h,if mx.isNone then H else k) w/\l<=h/\h<=k/\k<=cap/\(mx=none->k=cap):=by
 unfold fF at e;split at e;·cases e
 rename_i m hm;split at e;·cases e
 rename_i h' hh;split at e;·cases e
 ·rename_i l' hl;cases e;cases mx with
  |some vm=>
   cases mx' with
   |none=>exact h3.elim
   |some k0=>
    have⟨r1,r2⟩:=jz (P:=P) (w:=w) hm h3 H hc (if b then .slice3Acap else .slice3Alen);cases hi with
    |none=>simp at hh
    |some vh=>
     cases b0 with
     |none=>exact h2.elim
     |some e0=>
      obtain⟨s1,s2⟩:=jz (P:=P) (w:=w) hh h2 k (Ox _) .slice3B;cases lo with
      |none=>
       cases a0 with
       |some _=>exact h1.elim
       |none=>simp only[No]at hl;subst hl;refine⟨?_,by omega,s2,r2,by simp⟩;simp only[Instr.sliceBounds,OY,r1,s1,Wg,Y1];rfl
      |some vl=>
       cases a0 with
       |none=>exact h1.elim
       |some g0=>obtain⟨t1,t2⟩:=jz (P:=P) (w:=w) hl h1 h (Ox _) .slice3C;refine⟨?_,t2,s2,r2,by simp⟩;simp[Instr.sliceBounds,OY,r1,s1,t1]
  |none=>
   cases mx' with
   |some _=>exact h3.elim
   |none=>
    simp only[No]at hm;subst hm;have i0:(match b0 with|some v=>Instr.sliceBound v H (if b then .sliceAcap else .sliceAlen)|none=>pure len:Sem Nat).run P w=.ok h w/\h<=cap:=by
     cases hi with
     |none=>
      cases b0 with
      |some _=>exact h2.elim
      |none=>simp only[No]at hh;subst hh;exact⟨rfl,d0⟩
     |some vh=>
      cases b0 with
      |none=>exact h2.elim
      |some e0=>exact jz (P:=P) (w:=w) hh h2 H hc _
    have j0:(match a0 with|some v=>Instr.sliceBound v h .sliceB|none=>pure 0:Sem Nat).run P w=.ok l w/\l<=h:=by
     cases lo with
     |none=>
      cases a0 with
      |some _=>exact h1.elim
      |none=>simp only[No]at hl;subst hl;exact⟨rfl,by omega⟩
     |some vl=>
      cases a0 with
      |none=>exact h1.elim
      |some g0=>exact jz (P:=P) (w:=w) hl h1 h (Ox _) _
    refine⟨?_,j0.2,i0.2,Ox _,λ_=>rfl⟩;simp only[Instr.sliceBounds,OY,Wg,Y1];cases b0 <;>cases a0 <;>simp_all
theorem bj{a:Addr}(H:a.spot=none)(n:Nat):a.add n=⟨a.block,a.off+n,none⟩:=by have⟨b,o,s⟩:=a;subst H;rw[dV]
theorem pV(a:Addr)(n:Nat):(a.add n).block=a.block/\(a.add n).off=a.off+n:=by
 unfold Addr.add;grind
theorem fj{t e:TypeId}{H:TypeInfo}{a:Option Addr}{n c l h k:Nat}{lo hi mx:Option Φ}(hu:P.underlying t=some (.slice e))(he:P.info? e=some H)
  (hb:(Instr.sliceBounds true n c lo hi mx).run P w=.ok (l,h,k) w):(Instr.sliceAt t (.slice a n c) lo hi mx).run P w=.ok (.slice (if k=l then a else a.map (·.add (l*H.size))) (h-l) (k-l)) w:=by simp only[Instr.sliceAt,Instr.slice,OY,Zx hu,Y1,hb,run_sizeOf he,Wg]
theorem De(hE:E.OK P)(hs:fN P σ m w){t:TypeId}{x x' v:Φ}{lo hi mx m0 n0 mx':Option Φ}(h:slice? E m t x lo hi mx=some v)(hx:bE σ x x')(h1:zv σ lo m0)(h2:zv σ hi n0)(h3:zv σ mx mx'):
  ∃v',(Instr.sliceAt t x' m0 n0 mx').run P w=.ok v' w/\bE σ v v':=by
 unfold slice? at h;split at h;·cases h
 rename_i ti B0;have⟨i,u,f⟩:=hE.rY B0;split at h
 ·rename_i s hd;rw[f.d]at hd;obtain rfl:=jv hd;rw[hx.string];split at h
  ·rename_i l hh _ hb;cases h;cases mx' with
   |some _=>exact h3.elim
   |none=>obtain⟨r,_⟩:=ff (P:=P) (w:=w) hb h1 h2 (mx':=none) trivial (Ox _) false s.size (Ox _);refine⟨.string (s.extract l hh),?_,.flat _ rfl⟩;simp[Instr.sliceAt,Instr.slice,Zx f.gM,r]
  cases h
 ·rename_i e hd;rw[f.d]at hd;obtain rfl:=fT hd;rw[hx.bR rfl];split at h
  ·rename_i p hb;have⟨l,hh,k⟩:=p;cases hz:Nat.beq ti.es 0 with
   |true=>rw[hz]at h;simp at h
   |false=>
    rw[hz]at h;simp only[T4,No]at h;subst h;obtain⟨ei,g0,o0⟩:=rL (P:=P) (u:=.slice e) (by rw[<-f.es];exact Mm hz) (.inl rfl);obtain⟨r,q1,q2,q3,_⟩:=ff (P:=P) (w:=w) hb h1 h2 h3 (Ox _) true 0 (Ox _);obtain rfl:k=0:=by omega
    obtain rfl:hh=0:=by omega
    obtain rfl:l=0:=by omega
    have r':(Instr.sliceBounds true 0 0 m0 n0 mx').run P w=.ok (0,0,0) w:=by simpa using r
    refine⟨YM,?_,.flat _ rfl⟩;rw[fj f.gM g0 r'];rfl
  cases h
 ·rename_i e a n c hd;rw[f.d]at hd;obtain rfl:=fT hd;split at h
  ·rename_i l hh k cs te g hb hg;cases hz:(Nat.beq ti.es 0 || !(Nat.ble n c))with
   |true=>rw[hz]at h;simp at h
   |false=>
    rw[hz]at h;simp only[Kz,Q0]at hz;have p0:=JO hz.2;have q0:=Mm hz.1;obtain⟨ei,g0,o0⟩:=rL (P:=P) (u:=.slice e) (by rw[<-f.es];exact q0) (.inl rfl);have j0:ti.es=ei.size:=by rw[f.es,o0]
    simp only[T4]at h;obtain⟨bi,a',c',b0,rfl,i0⟩:=hx.fA;have⟨row,G0,hlen,_,u0⟩:=hs.cells b0 hg;cases g with
    |none=>
     have⟨a0,H0⟩:=u0;simp only[No]at h;subst h;rcases i0 with⟨d0,rfl,r0⟩|⟨_,_,k0,sz,N,v0,_⟩
     ·rcases r0 with⟨_,rfl⟩|⟨k0,sz,N,v0,_⟩
      ·obtain⟨r,q1,q2,q3,q4⟩:=ff (P:=P) (w:=w) hb h1 h2 h3 p0 true c' (Ox _);have r':(Instr.sliceBounds true n c' m0 n0 mx').run P w=.ok (l,hh,k) w:=by
        rw[r];cases mx with
        |none=>simp[q4 rfl]
        |some _=>simp
       refine⟨_,fj f.gM g0 r',?_⟩;by_cases H:k=l;·subst H;simp only[QO,cond_true,RK];exact .slice a bi _ _ b0 d0 a0
       have:Nat.beq k l=false:=by
        cases hq:Nat.beq k l with
        |true=>exact absurd (vZ hq) H
        |false=>rfl
       rw[this,QL H];simp only[T4,TN,dV,bj d0];rw[j0];exact .slice ⟨a.block,a.off+l*ei.size,none⟩ bi _ _ b0 rfl a0
      ·grind
     ·grind
    |some k0=>
     have⟨a0,v0,I0⟩:=u0;dsimp only at h;cases hq:Nat.beq k0 ti.es with
     |false=>rw[hq]at h;simp at h
     |true=>
      rw[hq]at h;have z0:=vZ hq;simp only[cond_true,No]at h;subst h
      have hD:∀A:Addr,(if k=l/\¬(mx=none/\a.off+c*ti.es=cs.length)then a else a.add (l*ti.es))=A->
        (bif Nat.beq k l && !(mx.isNone && Nat.beq (a.off+c*ti.es) cs.length)then a else a.add (l*ti.es))=A:=by
       rintro A rfl;by_cases c1:k=l
       ·by_cases c2:mx=none;·simp_all
        ·cases mx with
         |none=>exact absurd rfl c2
         |some _=>simp[c1]
       ·have:Nat.beq k l=false:=by
         cases C0:Nat.beq k l with
         |true=>exact absurd (vZ C0) c1
         |false=>rfl
        simp[c1,this]
      rw[hD _ rfl];rcases i0 with⟨d0,rfl,r0⟩|⟨rfl,rfl,k1,sz,N,s0,J0⟩
      ·rcases r0 with⟨K0,_⟩|⟨k1,sz,N,s0,D0⟩;·grind
       rw[a0]at s0;obtain⟨rfl,rfl,rfl⟩:=s0;have A0:c<=c':=by
        grind
       have⟨r,q1,q2,q3,q4⟩:=ff (P:=P) (w:=w) hb h1 h2 h3 p0 true c' A0;refine⟨_,fj f.gM g0 r,?_⟩;have E0:mx=none\/∃y,mx=some y:=by cases mx <;>simp
       rcases E0 with rfl|⟨y,rfl⟩
       ·obtain rfl:=q4 rfl;simp only[Md,RK,true_and];by_cases l0:a.off+k*ti.es=cs.length
        ·rw[QL (by simp[l0])];by_cases H:k=l
         ·subst H;obtain rfl:hh=k:=by omega
          simp only[Nat.sub_self];have⟨b1,b2⟩:=pV a (hh*ti.es);by_cases y0:c'=hh;·rw[Tf y0];exact .empty _ _ bi _ k0 _ _ (by rw[b1];exact b0) a0 (by rw[b2];exact l0)
          rw[QL y0];exact .empty _ _ bi _ k0 _ _ (by rw[b1];exact b0) a0 (by rw[b2];exact l0)
         rw[QL (by omega),bj d0,<-j0];simp only[TN,dV];refine .iy ⟨a.block,a.off+l*ti.es,none⟩ bi _ _ _ k0 _ _ b0 rfl a0 ?_;rcases D0 with rfl|⟨e0,e1,e2⟩;·exact .inl rfl
         refine .inr ⟨by omega,?_,?_⟩;·dsimp only;rw[<-z0,Ou,Nat.add_assoc,FI (ZW _ (by omega))];exact e1
         dsimp only;rw[<-z0,Ou,Nat.add_assoc,FI (ZW _ (by omega))];exact e2
        have y0:c'=k:=by
         grind
        subst y0;simp only[l0,not_false_eq_true,and_true];by_cases H:c'=l;·rw[Tf H,Tf H];exact .iy a bi _ _ _ k0 _ _ b0 d0 a0 (.inl rfl)
        rw[QL H,QL H,bj d0,<-j0];simp only[TN,dV];exact .iy ⟨a.block,a.off+l*ti.es,none⟩ bi _ _ _ k0 _ _ b0 rfl a0 (.inl rfl)
       simp only[Bs,Pc,if_false,reduceCtorEq,false_and,not_false_eq_true,and_true];by_cases H:k=l;·rw[Tf H,Tf H];exact .iy a bi _ _ _ k0 _ _ b0 d0 a0 (.inl rfl)
       rw[QL H,QL H,bj d0,<-j0];simp only[TN,dV];exact .iy ⟨a.block,a.off+l*ti.es,none⟩ bi _ _ _ k0 _ _ b0 rfl a0 (.inl rfl)
      rw[a0]at s0;obtain⟨rfl,rfl,rfl⟩:=s0;obtain⟨r,q1,q2,q3,q4⟩:=ff (P:=P) (w:=w) hb h1 h2 h3 p0 true c' (ZE _);obtain rfl:k=0:=by omega
      obtain rfl:hh=0:=by omega
      obtain rfl:l=0:=by omega
      refine⟨_,fj f.gM g0 r,?_⟩;have⟨b1,b2⟩:=pV a (0*ti.es);have hA:σ (if 0=0/\¬(mx=none/\a.off+0*ti.es=cs.length)then a else a.add (0*ti.es)).block=some bi/\(if 0=0/\¬(mx=none/\a.off+0*ti.es=cs.length)then a else a.add (0*ti.es)).off=cs.length:=by
       grind
      have hR:∃a2,(if(if mx.isNone then c' else 0)=0 then some a' else(some a').map (·.add (0*ei.size)))=some a2:=by
       grind
      have⟨a2,F0⟩:=hR;rw[F0];exact .empty _ _ bi _ k0 _ _ hA.1 a0 hA.2
  ·rename_i l hh k cs hb hg;cases hz:(Nat.beq ti.es 0 || !(Nat.ble n c))with
   |true=>rw[hz]at h;simp at h
   |false=>
    rw[hz]at h;simp only[Kz,Q0]at hz;have p0:=JO hz.2;have q0:=Mm hz.1;obtain⟨ei,g0,o0⟩:=rL (P:=P) (u:=.slice e) (by rw[<-f.es];exact q0) (.inl rfl);have j0:ti.es=ei.size:=by rw[f.es,o0]
    simp only[T4,No]at h;subst h;obtain⟨bi,a',c',b0,rfl,i0⟩:=hx.fA;have a0:bi.gr=none:=by have:=hs.obj _ _ b0;rw[hg]at this;exact this.1
    rcases i0 with⟨d0,rfl,r0⟩|⟨_,_,k0,sz,N,v0,_⟩
    ·rcases r0 with⟨_,rfl⟩|⟨k0,sz,N,v0,_⟩
     ·obtain⟨r,q1,q2,q3,q4⟩:=ff (P:=P) (w:=w) hb h1 h2 h3 p0 true c' (Ox _);have r':(Instr.sliceBounds true n c' m0 n0 mx').run P w=.ok (l,hh,k) w:=by
       rw[r];cases mx with
       |none=>simp[q4 rfl]
       |some _=>simp
      refine⟨_,fj f.gM g0 r',?_⟩;by_cases H:k=l;·subst H;simp only[QO,cond_true,RK];exact .slice a bi _ _ b0 d0 a0
      have:Nat.beq k l=false:=by
       cases hq:Nat.beq k l with
       |true=>exact absurd (vZ hq) H
       |false=>rfl
      rw[this,QL H];simp only[T4,TN,dV,bj d0];rw[j0];exact .slice ⟨a.block,a.off+l*ei.size,none⟩ bi _ _ b0 rfl a0
     ·grind
    ·grind
  cases h
 ·rename_i n e a hd;rw[f.d]at hd;obtain rfl:=iT hd;split at h
  ·rename_i l hh k hb;cases hz:(Df m a ||Nat.beq ti.es 0)with
   |true=>rw[hz]at h;simp at h
   |false=>
    rw[hz]at h;simp only[T4,No]at h;subst h;simp only[Kz]at hz;obtain⟨ei,g0,o0⟩:=rL (P:=P) (u:=.array n e) (by rw[<-f.es];exact Mm hz.2) (.inr ⟨n,rfl⟩);have j0:ti.es=ei.size:=by rw[f.es,o0]
    obtain⟨bi,b0,d0,rfl⟩:=hx.iC;have a0:bi.gr=none:=by
     have h0:=hz.1;unfold Df at h0;split at h0;·rename_i cs te hg;have⟨_,_,_,_,u0⟩:=hs.cells b0 hg;exact u0.1
     cases h0
    obtain⟨r,q1,q2,q3,q4⟩:=ff (P:=P) (w:=w) hb h1 h2 h3 (Ox _) false n (Ox _);have r':(Instr.sliceBounds false n n m0 n0 mx').run P w=.ok (l,hh,k) w:=by
     rw[r];cases mx with
     |none=>simp[q4 rfl]
     |some _=>simp
    refine⟨.slice (some (if k=l then⟨bi.cY,a.off,none⟩else(⟨bi.cY,a.off,none⟩:Addr).add (l*ei.size))) (hh-l) (k-l),by simp only[Instr.sliceAt,OY,Zx f.gM,Y1,Instr.sureAddr,Wg,r',run_sizeOf g0],?_⟩;by_cases H:k=l;·subst H;simp only[QO,cond_true,RK];exact .slice a bi _ _ b0 d0 a0
    have:Nat.beq k l=false:=by
     cases hq:Nat.beq k l with
     |true=>exact absurd (vZ hq) H
     |false=>rfl
    rw[this,QL H];simp only[T4,dV,bj d0];rw[j0];exact .slice ⟨a.block,a.off+l*ei.size,none⟩ bi _ _ b0 rfl a0
  cases h
 cases h
end
end
section
section
variable {E:Env} {P:Program} {σ:Sg} {m m':M} {w:World}
theorem lh{a b:Nat}(h:a≠b):Nat.beq a b=false:=by
 cases H:Nat.beq a b with
 |true=>exact absurd (vZ H) h
 |false=>rfl
theorem bN.NA{l:Bt}(h:∀v∈l,bw v):bN σ l l:=⟨rfl,λj u H a b=>by
 rw[a]at b;cases b;exact .flat _ (h u (LZ a))⟩
theorem vJ(hs:fN P σ m w){s n:Nat}{x x':Φ}{cs:Bt}(h:first? m s n x=some cs)(hx:bE σ x x')(hn:∀l,lX x=some l->n<=l):
  ∃H:Bt,(Builtin.firstCells s n x').run P w=.ok H.toArray w/\bN σ cs H:=by
 unfold first? at h;split at h
 ·rename_i a len cap;obtain⟨bi,a',c',b0,rfl,a0⟩:=hx.fA;by_cases h0:n=0;·subst h0;simp only[QO,cond_true,No]at h;subst h;refine⟨[],?_,bN.nil⟩;have:=run_loadCells_list (P:=P) w a' [] (by simp);simpa[Builtin.firstCells]using this
  rw[lh h0]at h;simp only[T4]at h;rcases a0 with⟨d0,rfl,_⟩|⟨rfl,_,_⟩;·have⟨H,h1,h2,_,_⟩:=jK hs b0 h;exact⟨H,by simpa[Builtin.firstCells]using h1,h2⟩
  have:=hn 0 rfl;omega
 ·cases h;obtain⟨_,_,rfl⟩:=hx.iN;exact⟨[],by simp[Builtin.firstCells],bN.nil⟩
 ·rename_i b;cases h;rw[hx.string];refine⟨((b.extract 0 n).data.toList.map λb=> .int .u8 b.toNat),?_,bN.NA ?_⟩
  ·simp only[Builtin.firstCells,Wg];congr 1;grind
  intro v hv;obtain⟨b,_,rfl⟩:=LY.1 hv;rfl
 cases h
theorem aeH{x H:Φ}{n:Nat}(h:lX x=some n)(hx:bE σ x H):(Builtin.lenOf H).run P w=.ok n w:=by
 unfold lX at h;split at h;·cases h;obtain⟨b',c',rfl,_⟩:=hx.tY;rfl
 ·cases h;rw[hx.string];rfl
 cases h
theorem iA{t u ty e:TypeId}{i:TypeInfo}{uu:TypeDesc}(ht:P.underlying t=some (.slice e))(hi:P.info? e=some i)(hu:P.underlying u=some uu)(a0:∀k,uu≠.int k)
  {base:Option Addr} {sl sc n:Nat} {x:Φ} {new:Bt} {w':World} (hl:(Builtin.lenOf x).run P w=.ok n w) (hf:(Builtin.firstCells i.size n x).run P w=.ok new.toArray w) (hle:sl+n<=sc)
  (H:(match base with|some a=>Go.storeCells (a.add (sl*i.size)) new|none=>pure ()).run P w=.ok () w'):
  (Builtin.append_ #[t,u] ty #[.slice base sl sc,x]).run P w=.ok (.slice base (sl+n) sc) w':=by
 cases base with
 |none=>simp only[Wg]at H;cases H;simp[Builtin.append_,Zx ht,Zx hu,run_sizeOf hi,hl,hf,hle]
 |some a=>simp only at H;simp[Builtin.append_,Zx ht,Zx hu,run_sizeOf hi,hl,hf,hle,H]
theorem xV{t u ty e:TypeId}{i:TypeInfo}{uu:TypeDesc}{z:Φ}(ht:P.underlying t=some (.slice e))(hi:P.info? e=some i)(hu:P.underlying u=some uu)(e0:∀k,uu≠.int k)
  (hz:i.zero=some z) {base:Option Addr} {sl sc n:Nat} {x:Φ} {fh new:Bt} (hl:(Builtin.lenOf x).run P w=.ok n w) (ho:(Builtin.firstCells i.size sl (.slice base sl sc)).run P w.drew=.ok fh.toArray w.drew)
  (hf:(Builtin.firstCells i.size n x).run P w.drew=.ok new.toArray w.drew) (b0:sc<sl+n) (hb:i.bytes<=65536) (hn:sl+n<=268435456):
  ∃N,sl+n<=N/\(Builtin.append_ #[t,u] ty #[.slice base sl sc,x]).run P w=.ok (KI w.heap.size 0 (sl+n) N) (w.drew.alloc (.cells (fh++new++(Builtin.zeroCells z.cells (N-(sl+n))).toList).toArray e)):=by
 refine⟨grownCap w (sl+n) sc e,grownCap_ge _ _ _ _,?_⟩;have h1:¬(sl+n<=sc):=by omega
 have d0:=growslice_fits (bytes:=i.bytes) b0 (by
  calc (sl+n)*i.bytes<=268435456*65536:=JV hn hb
   _<=_:=by decide)
 have H:¬(281474976710656<Builtin.nextslicecap (sl+n) sc*i.bytes):=by omega
 have a0:¬(9223372036854775807<((sl:Int)+(n:Int))):=by omega
 simp[Builtin.append_,Zx ht,Zx hu,sizeOf,typeInfo,zeroValue,hi,hz,hl,h1,H,a0,Question.forced,hf,ho,newRow,grownCap];congr 2;grind
theorem JS(hs:fN P σ m w){fh news H a0 rest:Bt}{e k sl n N:Nat}(h1:bN σ fh H)(h2:bN σ news a0)(l1:fh.length=sl*k)(l2:news.length=n*k)(hk:0<k)(hn:0<sl+n)
  (hN:sl+n<=N) (lr:rest.length=(N-(sl+n))*k):
  Ev P σ m w (σ.add m.n ⟨w.heap.size,some (k,(sl+n)*k,N*k)⟩) (m.push (.cells (fh++news) e (some k))) (w.drew.alloc (.cells (H++a0++rest).toArray e))/\
  bE (σ.add m.n ⟨w.heap.size,some (k,(sl+n)*k,N*k)⟩) (KI m.n 0 (sl+n) (sl+n)) (KI w.heap.size 0 (sl+n) N):=by
 have hlen:(fh++news).length=(sl+n)*k:=by grind
 have b0:(H++a0).length=(sl+n)*k:=by rw[<-hlen,(h1.append h2).1]
 have e0:((H++a0++rest).toArray).size=N*k:=by
  rw[TP,NN,b0,lr,<-JY];grind
 have i0:0<(sl+n)*k:=Nat.mul_pos hn hk;have hle:(sl+n)*k<=N*k:=ZW _ hN;have g0:fN P σ m w.drew:=hs.of_heap rfl
 have d0:=Hw (g:=some k) (e:=e) (c:=fh++news) (c':=(H++a0++rest).toArray) g0 (by grind) (by
  rw[hlen,<-b0];simp only[List.take_left'];exact h1.append h2) (by
  refine⟨?_,hk,by grind⟩;rfl)
 have he:T7 (fh++news).length ((H++a0++rest).toArray).size (some k)=some (k,(sl+n)*k,N*k):=by rw[hlen,e0];rfl
 rw[he]at d0;refine⟨(Ev.of_heap hs rfl rfl rfl rfl:Ev P σ m w σ m w.drew).trans d0,?_⟩;exact .iy ⟨m.n,0,none⟩ ⟨w.heap.size,_⟩ _ _ _ k ((sl+n)*k) (N*k) (Sg.add_same _ _) rfl rfl (.inr ⟨hN,by simp,by simp⟩)
theorem CF(hE:E.OK P)(hs:fN P σ m w){t u ty:TypeId}{s x s' x' v:Φ}(h:dU E m t u s x=some (v,m'))(hx:bE σ s s')(hy:bE σ x x'):
  KX P σ m w (Builtin.append_ #[t,u] ty #[s',x']) v m':=by
 unfold dU at h;split at h
 ·rename_i ti ui base sl sc n z1 A1 i1;have⟨i,ut,f⟩:=hE.rY z1;have⟨iu,uu,fu⟩:=hE.rY A1;split at h;·cases h
  ·rename_i e hd B1;rw[f.d]at hd;obtain rfl:=fT hd;have g0:∀k,uu≠.int k:=by rintro k rfl;exact B1 k fu.d
   split at h
   ·rename_i ei news j1 C1;have⟨ie,ue,fe⟩:=hE.rY j1;have i0:ti.es=ie.size:=by rw[f.es];simp[yU,fe.info]
    cases hb:(Nat.beq ti.es 0 ||Nat.blt 65536 ei.bytes || !news.all one ||Nat.blt 268435456 (sl+n) || !Nat.beq news.length (n*ti.es) || !gw ei.zero ti.es)with
    |true=>rw[hb]at h;simp at h
    |false=>
     rw[hb]at h;simp only[T4]at h;simp only[Kz,Q0]at hb;have⟨⟨⟨⟨⟨b1,b2⟩,b3⟩,b4⟩,b5⟩,b6⟩:=hb;have T1:=Mm b1;have D1:ie.bytes<=65536:=by rw[nS]at b2;have:=fe.bytes;simp at b2;omega
     have N0:sl+n<=268435456:=by rw[nS]at b4;simp at b4;omega
     have q0:=vZ b5;obtain⟨z,hz,E1⟩:∃z,ie.zero=some z/\z.cells.size=ie.size:=by
      cases D0:ei.zero with
      |none=>rw[D0]at b6;simp[gw]at b6
      |some z=>rw[D0]at b6;have:=vZ b6;have F1:=(bE.kY (σ:=σ) (hE.flat j1 D0)).cells.1;refine⟨z,by rw[<-fe.zero];exact D0,?_⟩;simp only[ME]at F1;omega
     have r0:=λw=>aeH (P:=P) (w:=w) i1 hy;have b0:=λ(w:World) (hs:fN P σ m w)=>vJ (P:=P) hs C1 hy (λl hl=>by rw[i1]at hl;cases hl;exact Ox _);rw[i0]at b0 q0;cases j0:Nat.ble (sl+n) sc with
     |true=>
      rw[j0]at h;have hle:=JO j0;simp only[cond_true]at h;have⟨H,n0,l0⟩:=b0 w hs;cases base with
      |none=>
       obtain⟨rfl,rfl,rfl⟩:=hx.iN;simp only at h;obtain rfl:n=0:=by omega
       simp only[QO,cond_true,No,xU]at h;obtain⟨rfl,rfl⟩:=h;refine KX.pure hs (iA f.gM fe.info fu.gM g0 (base:=none) (r0 w) n0 (Ox _) rfl) (.flat _ rfl)
      |some a=>
       obtain⟨bi,a',c',m0,rfl,d0⟩:=hx.fA;by_cases h0:n=0
       ·subst h0;simp only[QO,cond_true,TN,No,xU]at h;obtain⟨rfl,rfl⟩:=h;have k1:H=[]:=by have:=l0.1;rw[q0]at this;simpa using this.symm
        subst k1;have s0:sl+0<=c':=by rcases d0 with⟨_,_,⟨_,rfl⟩|⟨k,sz,N,hk,rfl|⟨e0,e1,e2⟩⟩⟩|⟨rfl,_⟩ <;>omega
        refine KX.pure hs (iA f.gM fe.info fu.gM g0 (base:=some a') (r0 w) n0 s0 rfl) hx
       rw[lh h0]at h;simp only[T4,Tq,xU]at h;obtain⟨m2,u0,rfl,rfl⟩:=h;rcases d0 with⟨E0,rfl,p0⟩|⟨rfl,rfl,_⟩
       ·have s0:sl+n<=c':=by rcases p0 with⟨_,rfl⟩|⟨k,sz,N,hk,rfl|⟨e0,e1,e2⟩⟩ <;>omega
        rw[bj E0,i0]at u0;have⟨w',G1,H1,_⟩:=mJ (a:=⟨a.block,a.off+sl*ie.size,none⟩) hs m0 l0 u0;refine⟨σ,w',_,iA f.gM fe.info fu.gM g0 (base:=some ⟨bi.cY,a.off,none⟩) (r0 w) n0 s0 (by simp only[dV];exact G1),?_,H1⟩;rcases p0 with⟨hg,rfl⟩|⟨k,sz,N,hk,hc⟩;·exact .slice a bi _ _ m0 E0 hg
        exact .iy a bi _ _ _ k sz N m0 E0 hk hc
       omega
     |false=>
      rw[j0]at h;have I1:sc<sl+n:=by
       rcases Gn sc (sl+n)with hh|hh;·exact hh
       rw[Cc hh]at j0;cases j0
      simp only[T4]at h;have O0:0<ti.es:=by omega
      have fresh:∀(m1:M) (o0:Option Addr) (c':Nat) (fh a0:Bt),Ev P σ m w σ m1 w->m1.n=m.n->
        (Builtin.firstCells ie.size sl (.slice o0 sl c')).run P w.drew=.ok a0.toArray w.drew->bN σ fh a0->fh.length=sl*ti.es->c'<sl+n->
        s'=.slice o0 sl c'->v=KI m.n 0 (sl+n) (sl+n)->m'=m1.push (.cells (fh++news) e (some ti.es))->KX P σ m w (Builtin.append_ #[t,u] ty #[s',x']) v m':=by
       rintro m1 o0 c' fh a0 he J1 ho F0 v0 hc rfl rfl rfl;obtain⟨H,n0,l0⟩:=b0 w.drew (hs.of_heap rfl);have⟨N,hN,y0⟩:=xV (ty:=ty) f.gM fe.info fu.gM g0 hz (r0 w) ho n0 hc D1 N0;obtain⟨g1,g2⟩:=JS (e:=e) (rest:=(Builtin.zeroCells z.cells (N-(sl+n))).toList) he.vY F0 l0 v0 (by rw[q0,i0]) O0 (by omega) hN (by rw[ME,size_zeroCells,E1,i0]);refine⟨_,_,_,y0,?_,he.trans g1⟩;rw[J1]at g2⊢;exact g2
      unfold lY at h;split at h
      ·cases hq:(Nat.beq sl 0 && Nat.beq sc 0)with
       |false=>rw[hq]at h;simp at h
       |true=>rw[hq]at h;simp only[cond_true,No,xU]at h;simp only[JJ]at hq;obtain rfl:=vZ hq.1;obtain rfl:=vZ hq.2;obtain⟨rfl,rfl⟩:=h;refine fresh m none 0 [] [] (Ev.refl hs) rfl (by simp[Builtin.firstCells]) bN.nil (by simp) I1 (hx.bR rfl) rfl rfl
      rename_i a;have⟨bi,a',c',m0,G0,d0⟩:=hx.fA;split at h
      ·rename_i cs te g fh hg hold;have⟨row,I0,hlen,K1,P0⟩:=hs.cells m0 hg;have L1:∀w1,fN P σ m w1->∃a0,(Builtin.firstCells ie.size sl (.slice (some a') sl c')).run P w1=.ok (a0:Bt).toArray w1/\bN σ fh a0:=by intro w1 h1;have z0:first? m ti.es sl (.slice (some a) sl sc)=some fh:=hold;have:=vJ (P:=P) h1 z0 hx (λl hl=>by cases hl;exact Ox _);rw[G0,i0]at this;exact this
       have v0:fh.length=sl*ti.es:=by
        by_cases h0:sl=0;·subst h0;simp only[QO,cond_true,No]at hold;subst hold;simp
        rw[lh h0]at hold;simp only[T4]at hold;have⟨_,_,_,hl,_⟩:=jK hs m0 hold;exact hl
       obtain⟨a0,J0,F0⟩:=L1 w.drew (hs.of_heap rfl);cases hq:(g.isNone ||(g==some ti.es && Nat.blt (a.off+sc*ti.es) cs.length))with
       |true=>
        rw[hq]at h;simp only[cond_true,No,xU]at h;obtain⟨rfl,rfl⟩:=h;refine fresh m (some a') c' fh a0 (Ev.refl hs) rfl J0 F0 v0 ?_ G0 rfl rfl;cases g with
        |none=>
         have a1:=P0.1;grind
        |some k0=>
         have⟨A0,l1,o1⟩:=P0;simp only[Bs,Qw,JJ,beq_iff_eq,No]at hq;obtain⟨rfl,hq⟩:=hq;rw[nS]at hq;grind
       |false=>
        rw[hq]at h;simp only[T4]at h;cases H0:(g==some ti.es && Nat.beq a.off 0 && a.spot.isNone && Nat.beq (sl*ti.es) cs.length && Nat.beq sc sl && Nat.beq te e)with
        |false=>rw[H0]at h;simp at h
        |true=>
         rw[H0]at h;simp only[cond_true,No,xU]at h;obtain⟨rfl,rfl⟩:=h;simp only[JJ]at H0;have⟨⟨⟨⟨⟨q1,q2⟩,q3⟩,q4⟩,q5⟩,q6⟩:=H0;obtain rfl:=vZ q6;have q1:g=some ti.es:=by simpa using q1
         subst q1;have q2:=vZ q2;have q4:=vZ q4;obtain rfl:=vZ q5;have⟨A0,l1,o1⟩:=P0;have B0:m.get a.block≠.dead:=by rw[hg];simp
         by_cases N1:c'<sc+n;·have hw:=Ev.write (w':=w) (ob:=.dead) hs m0 B0 trivial (λ_ _=>rfl) rfl rfl rfl rfl;exact fresh _ (some a') c' fh a0 hw rfl J0 F0 v0 N1 G0 rfl rfl
         ·
          have O1:sc≠0:=by rintro rfl;simp at q4;omega
          rcases d0 with⟨E0,rfl,p0⟩|⟨rfl,_⟩
          ·rcases p0 with⟨a1,_⟩|⟨k,sz,N,hk,p0⟩;·rw[A0]at a1;cases a1
           rw[A0]at hk;simp only[No,xU]at hk;obtain⟨rfl,rfl,rfl⟩:=hk;rcases p0 with rfl|⟨e0,e1,e2⟩;·omega
           have⟨H,n0,l0⟩:=b0 w hs;have c1:fh=cs:=by
            rw[lh O1]at hold;simp only[T4]at hold;unfold loadCells at hold;rw[hg]at hold;simp only[q2,Wl,q4,QA,V9]at hold;cases p1:(a.spot.isNone && Nat.ble cs.length cs.length)with
            |false=>rw[p1]at hold;simp at hold
            |true=>rw[p1]at hold;simpa using hold.symm
           subst c1;have K0:H.length=n*ti.es:=by rw[<-l0.1,q0,i0]
           have C0:(sc+n)*ti.es<=row.size:=by rw[<-e2,q2,Wl];exact ZW _ (by omega)
           rw[JY]at C0;have r1:=l0.dS b3;have u0:=run_storeCells_at (P:=P) bi.cY (sc*ti.es) te H 0 row w I0 (by omega) r1;simp only[PD]at u0;have u1:(row.toList.take (sc*ti.es)++H).length=(sc+n)*ti.es:=by rw[NN,Gy,K0,JY,ME];omega
           have v1:(row.toList.take (sc*ti.es)++H++row.toList.drop (sc*ti.es+H.length)).length=row.size:=by rw[NN,u1,VY,K0,ME,JY];omega
           have d1:(fh++news).length=(sc+n)*ti.es:=by rw[NN,v0,q0,<-i0,JY]
           have y1:bN σ (fh++news) (row.toList.take (sc*ti.es)++H):=by rw[q4];exact K1.append l0
           have P1:=Ev.Tx (ob:=.cells (fh++news) te (some ti.es)) (gr:=some (ti.es,(sc+n)*ti.es,row.size)) (w':=w.setRow bi.cY (row.toList.take (sc*ti.es)++H++row.toList.drop (sc*ti.es+H.length)).toArray) hs m0 B0
            (by
             refine⟨_,setRow_heap w bi.cY row _ te _ I0,?_,?_,?_⟩;·rw[d1,TP,v1,JY];exact C0
             ·rw[d1,<-u1];simp only[List.take_left'];exact y1.mono (Sg.yE hs.mU)
             have L0:=v1;rw[<-TP]at L0;rw[d1,L0];exact⟨rfl,O0,Nat.mul_pos (by omega) O0⟩)
            (λB hB=>by simp only[World.setRow,Wr];rw[QL (λe=>hB e.symm)])
            (by simp[World.setRow]) rfl rfl rfl
           have y0:=iA (ty:=ty) f.gM fe.info fu.gM g0 (base:=some ⟨bi.cY,a.off,none⟩) (r0 w) n0 (show sc+n<=c' by omega) (by simp only[dV,q2,Wl,<-i0];exact u0);rw[G0];refine⟨_,_,_,y0,?_,P1⟩;rw[q2];exact .iy ⟨m.n,0,none⟩ ⟨bi.cY,some (ti.es,(sc+n)*ti.es,row.size)⟩ _ _ _ ti.es ((sc+n)*ti.es) row.size (Sg.add_same _ _) rfl rfl (.inr ⟨by omega,by simp,by rw[<-e2,q2]⟩)
          ·omega
      cases h
   cases h
  cases h
 cases h
end
end
section
section
variable {E:Env} {P:Program} {σ:Sg} {m m':M} {w:World}
theorem abZ(hE:E.OK P)(hs:fN P σ m w){t ty:TypeId}{x x' v:Φ}(h:wi E m t x=some v)(hx:bE σ x x'):(Builtin.len_ #[t] ty #[x']).run P w=.ok v w/\bw v:=by
 unfold wi at h;split at h;·cases h
 rename_i ti a0;have⟨i,u,f⟩:=hE.rY a0;split at h;·rename_i s H;rw[f.d]at H;obtain rfl:=jv H;cases h;rw[hx.string];exact⟨by simp[Builtin.len_,Zx f.gM,goInt],rfl⟩
 ·rename_i n e H;rw[f.d]at H;obtain rfl:=iT H;cases h;exact⟨by simp[Builtin.len_,Zx f.gM,goInt],rfl⟩
 ·rename_i e b n c H;rw[f.d]at H;obtain rfl:=fT H;cases h;obtain⟨b',c',rfl,_⟩:=hx.tY;exact⟨by simp[Builtin.len_,Zx f.gM,goInt],rfl⟩
 ·rename_i k e H;rw[f.d]at H;obtain rfl:=mV H;cases h;rw[hx.map_nil];exact⟨by simp[Builtin.len_,Zx f.gM,goInt],rfl⟩
 ·rename_i k e r H;rw[f.d]at H;obtain rfl:=mV H;split at h
  ·rename_i es clock hg;cases h;obtain⟨bi,b0,rfl⟩:=hx.sS;have ho:=hs.obj _ _ b0;rw[hg]at ho;have⟨_,d0,h1,h2,_⟩:=ho;refine⟨?_,rfl⟩;have e0:(getObj bi.cY).run P w=.ok (.map d0 clock) w:=by simp[getObj,Sem.run,h1]
   simp[Builtin.len_,Zx f.gM,e0,goInt,h2]
  cases h
 cases h
theorem vI{g:Int->Int->Int}{op:Φ->Φ->Sem Φ}(a0:∀k x k' y,(op (.int k x) (.int k' y)).run P w=.ok (.int k (g x y)) w):
  ∀(l H:Bt) (k:IntKind) (x:Int) (v:Φ),bN σ l H->Ef g k x l=some v->(H.foldlM op (.int k x)).run P w=.ok v w/\bw v=true
 |[],H,k,x,v,hl,h=>by
  obtain rfl:=hl.nil_eq;simp only[Ef,No]at h;subst h;exact⟨rfl,rfl⟩
 |y::l,H,k,x,v,hl,h=>by
  unfold Ef at h;split at h;·grind
  ·rename_i k' y' rest heq;cases heq;obtain⟨v',l2,rfl,hv,b0⟩:=hl.cases;rw[hv.int];obtain⟨h1,h2⟩:=vI a0 _ _ _ _ _ b0 h;simp_all
  ·cases h
theorem pD{g:Int->Int->Int}{op:Φ->Φ->Sem Φ}(H:∀k x k' y,(op (.int k x) (.int k' y)).run P w=.ok (.int k (g x y)) w){l l':Bt}{v:Φ}(hl:bN σ l l')(h:fy g l=some v):
  ∃x rest,l'=x::rest/\(rest.foldlM op x).run P w=.ok v w/\bw v:=by
 unfold fy at h;split at h;·obtain⟨v',l2,rfl,hv,a0⟩:=hl.cases;rw[hv.int];exact⟨_,_,rfl,vI H _ _ _ _ _ a0 h⟩
 cases h
theorem aeL(H:fN P σ m w)(t:TypeId):KX P σ m w (Instr.makeMap t none) (.map (some m.n)) (m.push (.map [] 0)):=by
 refine⟨σ.add m.n ⟨w.heap.size,none⟩,w.alloc (.map #[] 0),.map (some w.heap.size),?_,.map _ ⟨w.heap.size,none⟩ (Sg.add_same _ _),?_⟩;·simp[Instr.makeMap]
 exact Ev.uB H ⟨rfl, #[],heap_alloc_new w _,rfl,by grind⟩
theorem rD{H:TypeId}{k:Φ}(h:keyed E H k):dC k:=by
 unfold keyed at h;split at h
 ·split at h;·rfl
  ·rfl
  ·rfl
  ·simp only[JJ]at h;exact h.1.2
  cases h
 cases h
theorem bE.mf{v v':Φ}(h:bE σ v v')(h0:dC v):v'=v:=by
 by_cases hc:bw v=true;·exact h.bR hc
 ·cases v with
  |agg a=>
   obtain⟨a',rfl,ha⟩:=h.mi;congr 1;apply Tu;apply OG;intro j;cases H:a.toList[j]? with
   |none=>exact M8 (by rw[<-ha.1];exact TZ.1 H)
   |some u=>have⟨u',hu,hr⟩:=ha.get H;rw[hu,hr.bR (Jl.1 h0 u (LZ H))]
  |_=>exact absurd h0 hc
theorem Fj(hE:E.OK P){t:TypeId}(h:scalar E t):∃u,P.underlying t=some u/\(u=.bool\/(∃k,u=.int k)\/u=.string):=by
 unfold scalar at h;split at h
 ·rename_i fi a0;have⟨i,u,f⟩:=hE.rY a0;refine⟨u,f.gM,?_⟩;split at h;·rename_i H;exact .inl (qh (by rw[<-f.d];exact H))
  ·rename_i k H;exact .inr (.inl ⟨k,pA (by rw[<-f.d];exact H)⟩)
  ·rename_i H;exact .inr (.inr (jv (by rw[<-f.d];exact H)))
  cases h
 cases h
theorem qQ(hE:E.OK P)(e:Bool)(n:Nat)(cs:Array Φ):∀gs:List Field,(∀g∈gs,g.offset < cs.toList.length/\scalar E g.type)->
  (forIn (m:=Sem) gs PUnit.unit λf _=>
   if f.name≠ "_" then do
    let x<-Go.part f.type cs f.offset
    Instr.checkKey e (n+1) f.type x
    pure (ForInStep.yield PUnit.unit)
   else pure (ForInStep.yield PUnit.unit)).run P w=.ok PUnit.unit w
 |[],_=>rfl
 |g::gs,h=>by
  have⟨h1,h2⟩:=h g zN
  have⟨u,hu,H⟩:=Fj hE h2
  have ih:=qQ hE e n cs gs (λg hg=>h g (W6 _ hg))
  have hp:(Go.part g.type cs g.offset).run P w=.ok cs[g.offset]! w:=by
   unfold Go.part
   have h3:g.offset < cs.size:=by grind
   have ha:=sR (P:=P) u w g.type hu
   have a0:(gX P u).agg=false:=by
    rcases H with rfl |⟨k,rfl⟩ |rfl <;>rfl
   simp_all
  have hk:∀v,(Instr.checkKey e (n+1) g.type v).run P w=.ok () w:=by
   intro v
   rcases H with rfl |⟨k,rfl⟩ |rfl <;>simp[Instr.checkKey,Zx hu]
  simp_all
theorem pN(hE:E.OK P){kt:TypeId}{k:Φ}(h:keyed E kt k)(e:Bool)(n:Nat):(Instr.checkKey e (n+2) kt k).run P w=.ok () w:=by
 unfold keyed at h;split at h
 ·rename_i ti a0;have⟨i,u,f⟩:=hE.rY a0;split at h;·rename_i H;rw[f.d]at H;obtain rfl:=qh H;simp[Instr.checkKey,Zx f.gM]
  ·rename_i H;rw[f.d]at H;obtain rfl:=pA H;simp[Instr.checkKey,Zx f.gM]
  ·rename_i H;rw[f.d]at H;obtain rfl:=jv H;simp[Instr.checkKey,Zx f.gM]
  ·rename_i fs cs H;rw[f.d]at H;obtain⟨gs,rfl,rfl⟩:=ju H;simp only[JJ]at h;have:=qQ (w:=w) hE e n cs gs.toList (λg hg=>by have:=Jl.1 h.2 _ (WZ (f:=uD P) hg);simp only[JJ]at this;refine⟨?_,this.2⟩;have h2:=this.1.2;rw[nS]at h2;simpa[uD]using NT h2);rw[Array.forIn_toList]at this;unfold Instr.checkKey;simp only[OY,Zx f.gM,Y1];simp_all
  cases h
 cases h
def zy(σ:Sg)(es H:List MapEntry):Prop:=es.length=H.length/\∀(j:Nat) e e',es[j]?=some e->H[j]?=some e'->e'.key=e.key/\e'.born=e.born/\dC e.key=true/\bE σ e.val e'.val
theorem zy.tail{e e':MapEntry}{es H:List MapEntry}(h:zy σ (e::es) (e'::H)):zy σ es H:=
 ⟨by simpa using h.1,λj a b x y=>h.2 (j+1) a b (by grind) (by grind)⟩
theorem zy.cases{e:MapEntry}{es x:List MapEntry}(h:zy σ (e::es) x):∃e' H,x=e'::H/\zy σ es H/\e'.key=e.key/\dC e.key/\bE σ e.val e'.val:=by
 cases x with
 |nil=>have:=h.1;simp at this
 |cons e' H=>have⟨h1,_,h3,h4⟩:=h.2 0 e e' rfl rfl;exact⟨e',H,rfl,h.tail,h1,h3,h4⟩
def Sb(σ:Sg):Option (Nat×Φ)->Option (Nat×Φ)->Prop
 |none,none=>True
 |some (i,v),some (j,H)=>i=j/\bE σ v H
 |_,_=>False
theorem qS{kt:TypeId}{k:Φ}{ti:TI}{u:TypeDesc}{it:TypeInfo}(b0:E.ty.get kt=some ti)(f:TIF P kt ti it u)(hu:u=.bool\/(∃k,u=.int k)\/u=.string):
  ∀(es H:List MapEntry) (i:Nat) (r:Option (Nat×Φ)),zy σ es H->findKey E kt k es i=some r->∃r',Instr.findNow u k H i=some r'/\Sb σ r r'
 |[],H,i,r,h,hf=>by
  have:H=[]:=Je h.1.symm;subst this;simp only[findKey,No]at hf;subst hf;exact⟨none,rfl,trivial⟩
 |e::es,x,i,r,h,hf=>by
  obtain⟨e',H,rfl,ht,hk,_,hv⟩:=h.cases;unfold findKey at hf;have a0:∀b,eq? E kt k e.key=some b->Instr.sameNow u k e.key=some b:=by
   intro b hb;unfold eq? at hb;rw[b0]at hb;simp only[f.d]at hb;rcases hu with rfl|⟨q,rfl⟩|rfl
   ·simp only[gX]at hb;split at hb <;>simp_all [Instr.sameNow]
   ·simp only[gX]at hb;split at hb <;>simp_all [Instr.sameNow]
   ·simp only[gX]at hb;split at hb <;>simp_all [Instr.sameNow]
  cases hq:eq? E kt k e.key with
  |none=>rw[hq]at hf;cases hf
  |some b=>
   rw[hq]at hf;have hn:=a0 b hq;unfold Instr.findNow;rw[hk,hn];cases b with
   |true=>
    simp only[No]at hf;subst hf;exact⟨_,rfl,rfl,hv⟩
   |false=>exact qS b0 f hu es H (i+1) r ht hf
theorem mZ(hE:E.OK P){kt:TypeId}{k:Φ}(a0:dC k):
  ∀(es H:List MapEntry) (i:Nat) (r:Option (Nat×Φ)),zy σ es H->findKey E kt k es i=some r->∃r',(Instr.findAsking kt k H i).run P w=.ok r' w/\Sb σ r r'
 |[],H,i,r,h,hf=>by
  have:H=[]:=Je h.1.symm;subst this;simp only[findKey,No]at hf;subst hf;exact⟨none,rfl,trivial⟩
 |e::es,x,i,r,h,hf=>by
  obtain⟨e',H,rfl,ht,hk,b0,hv⟩:=h.cases;unfold findKey at hf;cases hq:eq? E kt k e.key with
  |none=>rw[hq]at hf;cases hf
  |some b=>
   rw[hq]at hf;have he:=pJ (w:=w) (σ:=σ) hE hq (bE.kZ a0) (bE.kZ b0);unfold Instr.findAsking;rw[hk,OY,he,Y1];cases b with
   |true=>
    simp only[No]at hf;subst hf;exact⟨_,rfl,rfl,hv⟩
   |false=>exact mZ hE a0 es H (i+1) r ht hf
theorem qT(hE:E.OK P){kt:TypeId}{k:Φ}(hk:keyed E kt k){es H:List MapEntry}{r:Option (Nat×Φ)}(h:zy σ es H)(hf:findKey E kt k es 0=some r):
  ∃r',(Instr.findKey kt k H).run P w=.ok r' w/\Sb σ r r':=by
 have d0:=hk;unfold keyed at hk;split at hk
 ·rename_i ti b0;have⟨i,u,f⟩:=hE.rY b0;have a0:(u=.bool\/(∃k,u=.int k)\/u=.string)->∃r',(Instr.findKey kt k H).run P w=.ok r' w/\Sb σ r r':=by intro hu;have⟨r',h1,h2⟩:=qS b0 f hu es H 0 r h hf;exact⟨r',by simp[Instr.findKey,Zx f.gM,h1],h2⟩
  split at hk;·rename_i hd;exact a0 (.inl (qh (by rw[<-f.d];exact hd)))
  ·rename_i hd;exact a0 (.inr (.inl ⟨_,pA (by rw[<-f.d];exact hd)⟩))
  ·rename_i hd;exact a0 (.inr (.inr (jv (by rw[<-f.d];exact hd))))
  ·rename_i fs cs hd;rw[f.d]at hd;obtain⟨gs,rfl,rfl⟩:=ju hd;have⟨r',h1,h2⟩:=mZ (w:=w) hE (rD d0) es H 0 r h hf;refine⟨r',?_,h2⟩;cases H with
   |nil=>
    have:r'=none:=by
     simp only[Instr.findAsking,Wg,Result.ok.injEq]at h1;grind
    subst this;simp[Instr.findKey,Zx f.gM,Instr.findNow]
   |cons e H=>simp[Instr.findKey,Zx f.gM,Instr.findNow,Instr.sameNow,h1]
  cases hk
 cases hk
def P3(w:World)(x:Φ)(es:Array MapEntry):Prop:=(x=.map none/\es= #[])\/∃r clock,x=.map (some r)/\w.heap[r]?=some (.map es clock)
theorem acj{t H et:TypeId}{x k v:Φ}{es:Array MapEntry}{j:Nat}(ok:Bool)(hu:P.underlying t=some (.map H et))(hm:P3 w x es)(hc:(Instr.checkKey es.isEmpty 10000 H k).run P w=.ok () w)
  (hf:(Instr.findKey H k es.toList).run P w=.ok (some (j,v)) w):(Instr.lookup t x k ok).run P w=.ok (if ok then .tuple #[v,Ku]else v) w:=by
 rcases hm with⟨rfl,rfl⟩|⟨r,clock,rfl,hr⟩;·simp only[Instr.lookup,OY,Zx hu,Y1,Wg,hc,hf]
 have hg:(getObj r).run P w=.ok (.map es clock) w:=by simp only[getObj,Sem.run,hr]
 simp only[Instr.lookup,OY,Zx hu,Y1,Wg,hg,hc,hf]
theorem abA{t H et:TypeId}{x k z:Φ}{es:Array MapEntry}(ok:Bool)(hu:P.underlying t=some (.map H et))(hm:P3 w x es)(hc:(Instr.checkKey es.isEmpty 10000 H k).run P w=.ok () w)
  (hf:(Instr.findKey H k es.toList).run P w=.ok none w) (hz:(zeroValue et).run P w=.ok z w):(Instr.lookup t x k ok).run P w=.ok (if ok then .tuple #[z,Zf]else z) w:=by
 rcases hm with⟨rfl,rfl⟩|⟨r,clock,rfl,hr⟩;·simp only[Instr.lookup,OY,Zx hu,Y1,Wg,hc,hf,hz]
 have hg:(getObj r).run P w=.ok (.map es clock) w:=by simp only[getObj,Sem.run,hr]
 simp only[Instr.lookup,OY,Zx hu,Y1,Wg,hg,hc,hf,hz]
theorem BQ(hE:E.OK P)(hs:fN P σ m w){t:TypeId}{x k x' k' v:Φ}{ok:Bool}(h:kh E m t x k ok=some v)(hx:bE σ x x')(hk:bE σ k k'):
  ∃v',(Instr.lookup t x' k' ok).run P w=.ok v' w/\bE σ v v':=by
 unfold kh at h;split at h;·cases h
 rename_i ti k0;have⟨i,u,f⟩:=hE.rY k0;split at h
 ·rename_i kt et hd;rw[f.d]at hd;obtain rfl:=mV hd;split at h;·cases h
  ·rename_i es b0;cases a0:keyed E kt k with
   |false=>rw[a0]at h;simp at h
   |true=>
    rw[a0]at h;simp only[cond_true]at h;obtain rfl:=hk.mf (rD a0);have l0:∃H:Array MapEntry,P3 w x' H/\zy σ es H.toList:=by
     split at b0;·cases b0;exact⟨#[],.inl ⟨hx.map_nil,rfl⟩,rfl,by grind⟩
     ·split at b0;·rename_i r _ _ hg;cases b0;obtain⟨bi,m0,rfl⟩:=hx.sS;have ho:=hs.obj _ _ m0;rw[hg]at ho;have⟨_,H,h1,h2,h3⟩:=ho;exact⟨H,.inr ⟨_,_,rfl,h1⟩,by grind,λj e e' a b=>h3 j e e' a (by grind)⟩
      ·grind
     ·grind
    have⟨H,e0,n0⟩:=l0;have g0:=pN (w:=w) hE a0 H.isEmpty 9998;cases hf:findKey E kt k' es 0 with
    |none=>rw[hf]at h;cases h
    |some r=>
     have⟨r',i0,d0⟩:=qT (w:=w) hE a0 n0 hf;rw[hf]at h;cases r with
     |some p=>
      have⟨j,v0⟩:=p;cases r' with
      |none=>exact d0.elim
      |some p'=>
       have⟨j',j0⟩:=p';have⟨_,hv⟩:=d0;simp only[No]at h;subst h;refine⟨if ok then .tuple #[j0,Ku]else j0,?_,?_⟩;·exact acj ok f.gM e0 g0 i0
       cases ok;·exact hv
       exact(bN.cons hv (bN.cons (.flat _ rfl) bN.nil)).tuple
     |none=>
      cases r' with
      |some p'=>exact d0.elim
      |none=>
       simp only[Tq]at h;obtain⟨z,hz,rfl⟩:=h;unfold vg at hz;cases he:E.ty.get et with
       |none=>rw[he]at hz;simp at hz
       |some ei=>
        rw[he]at hz;simp only[Bd]at hz;have⟨ie,ue,fe⟩:=hE.rY he;have o0:=bE.kY (σ:=σ) (hE.flat he hz);have hr:=gJ (w:=w) fe.info (by rw[<-fe.zero];exact hz);refine⟨if ok then .tuple #[z,Zf]else z,?_,?_⟩;·exact abA ok f.gM e0 g0 i0 hr
        cases ok;·grind
        exact(bN.cons o0 (bN.cons (.flat _ rfl) bN.nil)).tuple
 cases h
theorem Pw{a b:ByteArray}(h:(a==b)):a=b:=by
 cases a;cases b;rename_i x y;have:(x==y):=h;grind
theorem tn{q:Kd}{x y:Φ}(h:HX q x y=some true)(n:Nat):Instr.sameBits n y x:=by
 unfold HX at h;split at h;·simp only[No,beq_iff_eq]at h;subst h;simp[Instr.sameBits]
 ·split at h;·rename_i hk;subst hk;simp only[No,beq_iff_eq]at h;subst h;simp[Instr.sameBits]
  cases h
 ·simp only[No]at h;obtain rfl:=Pw h;simpa[Instr.sameBits]using h
 cases h
theorem tu(n:Nat):∀{H:List Kd} {xs ys:Bt},cp H xs ys=some true->xs.length=ys.length/\((ys.zip xs).all λ(x,y)=>Instr.sameBits n x y)=true
 |[],[],[],_=>⟨rfl,rfl⟩
 |k::H,x::xs,y::ys,h=>by
  unfold cp at h;cases h1:HX k x y with
  |none=>rw[h1]at h;simp at h
  |some c=>
   cases h2:cp H xs ys with
   |none=>rw[h1,h2]at h;simp at h
   |some r=>
    rw[h1,h2]at h;simp only[No,JJ]at h;obtain⟨rfl,rfl⟩:=h;have⟨a,b⟩:=tu n h2;refine⟨by simp[a],?_⟩;simp only[List.zip_cons_cons,Zb,JJ];exact⟨tn h1 n,b⟩
theorem RM{kt:TypeId}{k y:Φ}(hk:keyed E kt k)(h:eq? E kt k y=some true):Instr.sameBits 10000 y k:=by
 unfold keyed at hk;unfold eq? at h;split at hk
 ·rename_i ti H;rw[H]at h;have⟨d,_,_,_,_,cmp⟩:=ti;dsimp only at h hk;split at hk;·exact tn (q:=.b) (by cases y <;>simp_all [HX]) _
  ·exact tn (q:=.i) (by cases y <;>simp_all [HX]) _
  ·exact tn (q:=.s) (by cases y <;>simp_all [HX]) _
  ·cases y with
   |agg ys=>
    simp only at h;cases cmp with
    |none=>simp at h
    |some ks=>
     simp only at h;have⟨a,b⟩:=tu 9999 h;simp only[Instr.sameBits,JJ];grind
   |_=>simp at h
  cases hk
 cases hk
theorem yQ{H:TypeId}{k:Φ}:∀(es:List MapEntry) (i j:Nat) (v:Φ),findKey E H k es i=some (some (j,v))->∃e,i<=j/\es[j-i]?=some e/\eq? E H k e.key=some true
 |[],i,j,v,h=>by simp[findKey]at h
 |e::es,i,j,v,h=>by
  unfold findKey at h;cases hq:eq? E H k e.key with
  |none=>rw[hq]at h;cases h
  |some b=>
   rw[hq]at h;cases b with
   |true=>
    grind
   |false=>
    have⟨e',h1,h2,h3⟩:=yQ es (i+1) j v h;grind
theorem oj(hE:E.OK P)(hs:fN P σ m w){t:TypeId}{x k v x' k' v':Φ}(h:dN E m t x k v=some m')(hx:bE σ x x')(hk:bE σ k k')(hv:bE σ v v'):
  ∃w',(Instr.mapUpdate t x' k' v').run P w=.ok () w'/\Ev P σ m w σ m' w':=by
 unfold dN at h;split at h
 ·rename_i ti r y0;have⟨i,u,f⟩:=hE.rY y0;split at h
  ·rename_i kt et es clock hd hg;rw[f.d]at hd;obtain rfl:=mV hd;cases b0:keyed E kt k with
   |false=>rw[b0]at h;simp at h
   |true=>
    rw[b0]at h;simp only[cond_true]at h;have z0:=rD b0;obtain rfl:=hk.mf z0;obtain⟨bi,j0,rfl⟩:=hx.sS;have ho:=hs.obj _ _ j0;rw[hg]at ho;have⟨o0,H,h1,h2,h3⟩:=ho;have p0:zy σ es H.toList:=⟨by grind,λj e e' a b=>h3 j e e' a (by grind)⟩
    have k0:(getObj bi.cY).run P w=.ok (.map H clock) w:=by simp only[getObj,Sem.run,h1]
    have l0:∀o,(setObj bi.cY o).run P w=.ok () {w with heap:=w.heap.setIfInBounds bi.cY o}:=λo=>MapKept.run_setObj_map o h1;have q0:=pN (w:=w) hE b0 false 9998;have C0:=hs.lt _ _ j0;have d0:∀o:Obj,({w with heap:=w.heap.setIfInBounds bi.cY o}:World).heap[bi.cY]?=some o:=by
     grind
    have a0:∀(o:Obj) B,B≠bi.cY->({w with heap:=w.heap.setIfInBounds bi.cY o}:World).heap[B]?=w.heap[B]?:=by
     grind
    have g0:∀o:Obj,({w with heap:=w.heap.setIfInBounds bi.cY o}:World).heap.size=w.heap.size:=by grind
    have i0:m.get r≠.dead:=by grind
    cases hf:findKey E kt k' es 0 with
    |none=>rw[hf]at h;cases h
    |some fr=>
     have⟨r0,s0,m0⟩:=qT (w:=w) hE b0 p0 hf;rw[hf]at h;cases fr with
     |some p=>
      have⟨j,v0⟩:=p;cases r0 with
      |none=>exact m0.elim
      |some p'=>
       have⟨j',D0⟩:=p';obtain⟨rfl,_⟩:=m0;simp only[No]at h;subst h;have⟨e0,_,u0,heq⟩:=yQ es 0 j v0 hf;simp only[KA]at u0;have A0:j<H.size:=by grind
       obtain⟨B0,_,_,_⟩:=h3 j e0 H[j] u0 (by grind)
       have n0:(Instr.keyThatStays (((H[j]?).map (·.key)).getD k') k').run P w=.ok k' w:=by
        have:((H[j]?).map (·.key)).getD k'=e0.key:=by grind
        rw[this];unfold Instr.keyThatStays;rw[Tf (RM b0 heq)];rfl
       refine⟨_,?_,Ev.write (ob:=.map (es.modify j λe=>{e with key:=k',val:=v}) clock) (w':={w with heap:=w.heap.setIfInBounds bi.cY (.map (H.modify j λe=>{e with key:=k',val:=v'}) clock)}) hs j0 i0 ?_ (a0 _) (g0 _) rfl rfl rfl⟩;·simp only[Instr.mapUpdate,OY,Zx f.gM,Y1,k0,q0,s0,n0,l0]
       ·refine⟨o0,_,d0 _,by grind,?_⟩;grind
     |none=>
      cases r0 with
      |some p'=>exact m0.elim
      |none=>
       simp only[No]at h;subst h;refine⟨_,?_,Ev.write (ob:=.map (es++ [{key:=k',val:=v,born:=clock}]) (clock+1)) (w':={w with heap:=w.heap.setIfInBounds bi.cY (.map (H.push {key:=k',val:=v',born:=clock}) (clock+1))}) hs j0 i0 ?_ (a0 _) (g0 _) rfl rfl rfl⟩;·simp only[Instr.mapUpdate,OY,Zx f.gM,Y1,k0,q0,s0,l0]
       ·refine⟨o0,_,d0 _,by grind,?_⟩;grind
  cases h
 cases h
end
end
section
def LK(m m':M):Prop:=∀b r,m.get b=.loop r->∃H,m'.get b=.loop H
section
variable {m m' m2:M} {E:Env}
theorem LK.refl:LK m m:=λ_ r h=>⟨r,h⟩
theorem LK.trans(h:LK m m')(H:LK m' m2):LK m m2:=λb r hb=>by
 have⟨r',h1⟩:=h b r hb;exact H b r' h1
theorem LK.push{o:Ob}:LK m (m.push o):=λb r h=>⟨r,by
 have:b<m.n:=M.jN (by grind);rw[M.lA,QL (by omega)];exact h⟩
theorem LK.set{b:Nat}{o:Ob}(hb:∀r,m.get b≠.loop r):LK m (m.set b o):=λc r h=>by
 by_cases H:c=b;·grind
 ·refine⟨r,?_⟩;have:c<m.n:=M.jN (by grind);rw[M.kj];have hn:(m.set b o).n=m.n:=rfl;rw[hn,Tf this];show((m.st.set b o).get c).getD .dead=_;rw[Tr.cj,QL H];rw[M.kj,Tf this]at h;exact h
theorem LK.wO{b:Nat}{H:zx}:LK m (m.set b (.loop H)):=λc r h=>by
 have:c<m.n:=M.jN (by grind);by_cases hc:c=b;·subst hc;exact⟨H,by rw[M.cj _ _ _ _ this,Tf rfl]⟩
 ·refine⟨r,?_⟩;rw[M.kj];have hn:(m.set b (.loop H)).n=m.n:=rfl;rw[hn,Tf this];show((m.st.set b _).get c).getD .dead=_;rw[Tr.cj,QL hc];rw[M.kj,Tf this]at h;exact h
theorem LK.low{x:Nat}(h:LK m m'):LK m {m' with low:=x}:=h
theorem LK.TM{x:Nat}(h:LK {m with low:=x} m'):LK m m':=h
theorem qJ{a:Addr}{vs:Bt}(h:storeCells m a vs=some m'):LK m m':=by
 unfold storeCells at h;split at h
 ·rename_i c e g hg;cases H:(a.spot.isNone && Nat.ble (a.off+vs.length) c.length && vs.all one)with
  |false=>rw[H]at h;cases h
  |true=>rw[H]at h;cases h;exact LK.set λr=>by grind
 cases h
theorem Db{t:TypeId}{a:Addr}{v:Φ}(h:storeVar E m t a v=some m'):LK m m':=by
 unfold storeVar at h;split at h
 ·cases H:Nat.beq (cells v).length _ with
  |false=>rw[H]at h;cases h
  |true=>rw[H]at h;exact qJ h
 cases h
theorem Ru{e k sl sc H:Nat}{base:Option Addr}{news:Bt}{v:Φ}(h:lY m e k base sl sc H news=some (v,m')):LK m m':=by
 unfold lY at h;split at h
 ·cases hc:(Nat.beq sl 0 && Nat.beq sc 0)with
  |false=>rw[hc]at h;cases h
  |true=>rw[hc]at h;cases h;exact LK.push
 rename_i a;split at h
 ·rename_i c te g fh hg _;cases hc:(g.isNone ||(g==some k && Nat.blt (a.off+sc*k) c.length))with
  |true=>rw[hc]at h;cases h;exact LK.push
  |false=>
   rw[hc]at h;cases a0:(g==some k && Nat.beq a.off 0 && a.spot.isNone && Nat.beq (sl*k) c.length && Nat.beq sc sl && Nat.beq te e)with
   |false=>rw[a0]at h;cases h
   |true=>rw[a0]at h;cases h;exact(LK.set λr=>by grind).trans LK.push
 cases h
theorem acD{t u:TypeId}{s x v:Φ}(h:dU E m t u s x=some (v,m')):LK m m':=by
 unfold dU at h;split at h
 ·rename_i ti ui base sl sc n _ _ _;split at h;·cases h
  ·rename_i e _ _;split at h
   ·rename_i ei news _ _;cases hc:(Nat.beq ti.es 0 ||Nat.blt 65536 ei.bytes || !news.all one ||Nat.blt 268435456 (sl+n) || !Nat.beq news.length (n*ti.es) || !gw ei.zero ti.es)with
    |true=>rw[hc]at h;cases h
    |false=>
     rw[hc]at h;simp only[T4]at h;cases H:Nat.ble (sl+n) sc with
     |false=>rw[H]at h;exact Ru h
     |true=>
      rw[H]at h;simp only[cond_true]at h;split at h
      ·rename_i a;simp only[Tq,xU]at h;obtain⟨m1,h1,_,rfl⟩:=h;cases hn:Nat.beq n 0 with
       |true=>rw[hn]at h1;cases h1;exact LK.refl
       |false=>rw[hn]at h1;exact qJ h1
      ·cases hn:Nat.beq n 0 with
       |true=>rw[hn]at h;cases h;exact LK.refl
       |false=>rw[hn]at h;cases h
   cases h
  cases h
 cases h
theorem Gs{b:Builtin}{ts:List TypeId}{args:Bt}{v:Φ}(h:av E m b ts args=some (v,m')):LK m m':=by
 unfold av at h;split at h;·exact acD h
 all_goals try (simp only[Tq,xU]at h;obtain⟨_,_,_,rfl⟩:=h;exact LK.refl)
 cases h
theorem sT{t:TypeId}{x k v:Φ}(h:dN E m t x k v=some m'):LK m m':=by
 unfold dN at h;split at h
 ·rename_i ti r _;split at h
  ·rename_i H et es clock _ hg;cases hk:keyed E H k with
   |false=>rw[hk]at h;cases h
   |true=>
    rw[hk]at h;split at h;·cases h;exact LK.set λr=>by grind
    ·cases h;exact LK.set λr=>by grind
    cases h
  cases h
 cases h
theorem zO{t:TypeId}{n:Nat}{ps:List (Nat×Φ)}{v:Φ}(h:aF E m t n ps=some (v,m')):LK m m':=by
 unfold aF at h;split at h;·cases h
 rename_i H _;split at h
 ·split at h;·cases h
  ·rename_i z _;cases hc:(Nat.beq (cells z).length H.es && Nat.ble (n*H.es) 1048576)with
   |false=>rw[hc]at h;cases h
   |true=>rw[hc]at h;simp only[cond_true,Tq,xU]at h;obtain⟨_,_,_,rfl⟩:=h;exact LK.push
 cases h
def nX(call:aK):Prop:=∀f args m v m',call f args m=some (v,m')->LK m m'
theorem SA{call:aK}(hc:nX call){T:Tr Φ}{o:Op}{v:Φ}(h:ew o E call T m=some (v,m')):LK m m':=by
 have same:∀{r:Option Φ},(match r with|some v=>some (v,m)|none=>none)=some (v,m')->LK m m':=by
  intro r H;cases r with
  |none=>cases H
  |some x=>cases H;exact LK.refl
 cases o with
 |move x=>cases h;exact LK.refl
 |assign x=>cases h;exact LK.refl
 |pick c a b=>simp only[ew,rq]at h;split at h <;>cases h;exact LK.refl
 |alloc t=>simp only[ew,wV]at h;split at h <;>cases h;exact LK.push
 |box t x=>cases h;exact LK.push
 |build t ps=>exact same h
 |buildSlice t n ps=>exact zO h
 |load t a=>
  simp only[ew,BD]at h;split at h;·exact same h
  cases h
 |store t a x=>
  simp only[ew,wU]at h;split at h
  ·split at h;·rename_i hs;cases h;exact Db hs
   cases h
  cases h
 |nilCheck x=>simp only[ew,gW]at h;split at h <;>cases h <;>exact LK.refl
 |binOp op t x y _=>exact same h
 |unOp op t x=>exact same h
 |convert s d x=>exact same h
 |makeFunc f a b=>simp only[ew,iR]at h;split at h <;>cases h;exact LK.refl
 |makeMap t r=>simp only[ew,qe]at h;split at h <;>cases h;exact LK.push
 |slice t x lo hi mx=>exact same h
 |fieldAddr s x f=>exact same h
 |indexAddr t x i=>exact same h
 |index t x i=>exact same h
 |lookup t x i ok=>exact same h
 |mapUpdate t x k y=>simp only[ew,eW]at h;split at h <;>cases h;exact sT ‹_›
 |insert t x k y=>simp only[ew,eW]at h;split at h <;>cases h;exact sT ‹_›
 |extract x i=>
  simp only[ew,kF]at h;split at h;·exact same h
  cases h
 |call c=>
  simp only[ew,uz]at h;split at h;·exact Gs h
  ·split at h;·exact hc _ _ _ _ _ h
   cases h
  cases h
 |_=>simp[ew]at h
theorem FA{call:aK}(hc:nX call){ops:Array Oper}:∀(l:List Oper) (fr H:Fr),zD E call ops l fr=some H->LK fr.m H.m
 |[],fr,H,h=>by simp only[DA,No]at h;subst h;exact LK.refl
 |o::l,fr,H,h=>by
  rw[mT]at h;cases hw:dq ops fr.T o with
  |false=>rw[hw]at h;exact FA hc l {fr with T:=put fr.T o.dst undef} H h
  |true=>
   rw[hw]at h;simp only[cond_true]at h;cases ho:ew o.op E call fr.T fr.m with
   |none=>rw[ho]at h;cases h
   |some p=>
    rw[ho]at h;exact(SA hc ho).trans (FA hc l _ H h)
theorem Cm{call:aK}(hc:nX call){ops:Array Oper}:∀(l:List Oper) (j:Nat) (fr H:Fr),oH E call ops l j fr=some H->LK fr.m H.m
 |[],j,fr,H,h=>by simp only[AQ,No]at h;subst h;exact LK.refl
 |o::l,j,fr,H,h=>by
  rw[lH]at h;cases hw:dq ops fr.T o with
  |false=>rw[hw]at h;exact Cm hc l (j+1) {fr with T:=put fr.T o.dst undef} H h
  |true=>
   rw[hw]at h;simp only[cond_true]at h;cases ho:ew o.op E call fr.T {fr.m with low:=fr.m.n}with
   |none=>rw[ho]at h;cases h
   |some p=>
    have⟨v,m1⟩:=p;rw[ho]at h;simp only at h;cases hb:(Nat.ble fr.m.n m1.low ||gR ops j)with
    |false=>rw[hb]at h;cases h
    |true=>
     rw[hb]at h;simp only[cond_true]at h;have h1:LK fr.m m1:=LK.TM (SA hc ho);exact h1.trans (Cm hc l (j+1) _ H h)
theorem HD{body:Fr->Option (Ex×Fr)}(hb:∀fr e H,body fr=some (e,H)->LK fr.m H.m):∀(n:Nat) (fr:Fr) (e:Ex) (H:Fr),ia body n fr=some (e,H)->LK fr.m H.m
 |0,_,_,_,h=>by simp[ia]at h
 |n+1,fr,e,H,h=>by
  unfold ia at h;cases a0:body fr with
  |none=>rw[a0]at h;cases h
  |some p=>
   have⟨e1,b0⟩:=p;rw[a0]at h;have h1:=hb _ _ _ a0;cases e1 with
   |normal=>exact h1.trans (HD hb n b0 e H h)
   |exit id=>cases h;exact h1
   |ret=>cases h;exact h1
theorem gQ{call:aK}(hc:nX call){n:Nat}:∀(c:Code) (fr:Fr) (e:Ex) (H:Fr),bQ E call n c fr=some (e,H)->LK fr.m H.m
 |.skip,fr,e,H,h=>by cases h;exact LK.refl
 |.label l,fr,e,H,h=>by cases h;exact LK.refl
 |.exit id,fr,e,H,h=>by cases h;exact LK.refl
 |.ret,fr,e,H,h=>by cases h;exact LK.refl
 |.region id ops d,fr,e,H,h=>by
  unfold bQ at h;simp only[Tq,xU]at h;obtain⟨a0,h,rfl,rfl⟩:=h;cases d with
  |false=>exact FA hc _ _ _ h
  |true=>exact Cm hc _ _ _ _ h
 |.seq a b,fr,e,H,h=>by
  unfold bQ at h;cases ha:bQ E call n a fr with
  |none=>rw[ha]at h;cases h
  |some p=>
   have⟨e1,a0⟩:=p;rw[ha]at h;have h1:=gQ hc a _ _ _ ha;cases e1 with
   |normal=>exact h1.trans (gQ hc b _ _ _ h)
   |exit id=>cases h;exact h1
   |ret=>cases h;exact h1
 |.cond c x y,fr,e,H,h=>by
  unfold bQ at h;split at h
  ·rename_i t _;cases t with
   |true=>exact gQ hc x _ _ _ h
   |false=>exact gQ hc y _ _ _ h
  ·cases h
 |.block id c,fr,e,H,h=>by
  unfold bQ at h;cases ha:bQ E call n c fr with
  |none=>rw[ha]at h;cases h
  |some p=>
   have⟨e1,a0⟩:=p;rw[ha]at h;have h1:=gQ hc c _ _ _ ha;cases e1 with
   |normal=>cases h;exact h1
   |exit b0=>
    simp only at h;cases hb:Nat.beq b0 id with
    |true=>rw[hb]at h;cases h;exact h1
    |false=>rw[hb]at h;cases h;exact h1
   |ret=>cases h;exact h1
 |.loop c,fr,e,H,h=>by
  unfold bQ at h;exact HD (λfr e H hb=>gQ hc c fr e H hb) n fr e H h
 |.scope c,fr,e,H,h=>by
  unfold bQ at h;exact gQ hc c _ _ _ h
 |.rangeFunc g ps a b,fr,e,H,h=>by
  unfold bQ at h;split at h
  ·rename_i f first captured _;split at h
   ·rename_i v m1 d0;have h1:=LK.push.trans (hc _ _ _ _ _ d0);split at h
    ·split at h;·cases h
     ·cases h;exact h1.trans LK.wO
    ·cases h
   ·cases h
  ·cases h
 |.goto l,fr,e,H,h=>by simp[bQ]at h
 |.refuse y,fr,e,H,h=>by simp[bQ]at h
theorem M1{call:aK}(hc:nX call){n G l:Nat}{args:Bt}{v:Φ}(h:ud (bQ E call n) G l args m=some (v,m')):LK m m':=by
 unfold ud at h;split at h
 ·rename_i r _;cases hb:(Nat.beq args.length r.ps.size && Nat.beq r.G G)with
  |false=>rw[hb]at h;cases h
  |true=>
   rw[hb]at h;split at h
   ·rename_i H hx;have h1:LK m H.m:=(gQ hc _ _ _ _ hx:LK m _)
    split at h
    ·split at h
     ·split at h
      ·rename_i a0 b0;have h2:LK m a0.m:=(h1.trans LK.wO).trans (gQ hc _ _ _ _ b0);split at h
       ·split at h;·cases h;exact h2.trans LK.wO
        cases h;exact h2.trans LK.wO
       cases h
      cases h
     cases h
    cases h
   cases h
 cases h
theorem Cw{X:aK}(H:nX X):∀n,nX (cC E X n)
 |0=>λf args m v m' h=>by simp[cC]at h
 |n+1=>λf args m v m' h=>by
  have ih:=Cw H n;cases f with
  |func f=>
   unfold cC at h;split at h;·rename_i r hr;cases h;exact H _ _ _ _ _ hr
   ·split at h;·cases h
    ·rename_i fn _;split at h;·cases h
     ·cases hle:Nat.ble args.length fn.ntmps with
      |false=>rw[hle]at h;cases h
      |true=>
       rw[hle]at h;simp only[cond_true]at h;split at h;·cases h
       ·cases h
       ·rename_i fr _ hex;have h0:LK m fr.m:=gQ ih _ _ _ _ hex;split at h;·cases h
        ·rename_i v1 _;cases hb:(bA v1 && Nat.ble m.n fr.m.low)with
         |true=>rw[hb]at h;cases h;exact LK.refl
         |false=>rw[hb]at h;cases h;exact h0
  |yield l=>unfold cC at h;exact M1 ih h
  |_=>simp[cC]at h
end
end
section
def iL(ro:Option Nat):Fence:={Fence.wide with round:=ro}
section
variable {E:Env} {P:Program} {σ:Sg} {m m':M} {w:World}
def eA(P:Program)(σ:Sg)(m:M)(w:World)(r:Result Next)(v:Φ)(m':M):Prop:=
 (∃σ' w' H,bE σ' v H/\Ev P σ m w σ' m' w')/\
 ∀(ro:Option Nat) (n:Nat) (o:Oper) (a:Act) (next:Act->World->Prop) (Q:Exit->Act->World->Prop),
  (∀σ' w' H,bE σ' v H->Ev P σ m w σ' m' w'->next (a.put o.dst H) w')->o.uponIn (iL ro) n P a next Q r
def gD(P:Program)(σ:Sg)(m:M)(w:World)(v:Φ)(m':M):Ending->World->Prop:=λe w'=>∃H σ',e=.returned H/\bE σ' v H/\Ev P σ m w σ' m' w'
structure dJ(P:Program)(call:aK):Prop where
 func:∀f args m v m',call (.func f) args m=some (v,m')->∀σ w (args':Array Φ),fN P σ m w->bN σ args args'.toList->
  CallsIn Fence.wide 0 P f args' w (gD P σ m w v m')/\(callFunc f args').run P w=.ok (.enter f args') w
 yield:∀l args m v m',call (.yield l) args m=some (v,m')->∀σ w i (args':Array Φ),fN P σ m w->σ l=some i->bN σ args args'.toList->eA P σ m w ((Instr.yield i.cY args').run P w) v m'
 aV:nX call
theorem eA.enter{f:FuncId}{args:Array Φ}{v:Φ}(h:CallsIn Fence.wide 0 P f args w (gD P σ m w v m')):eA P σ m w (.ok (.enter f args) w) v m':=by
 refine⟨?_,λro n o a next Q hk=>?_⟩
 ·obtain⟨e,w',fr,⟨H,σ',_,hv,he⟩,_⟩:=h.2 [] (room_wide _);grind
 ·refine⟨λhh=>by simp[iL,Fence.wide]at hh,?_⟩;have h2:CallsIn (iL ro) (n-1) P f args w (gD P σ m w v m'):=⟨trivial,λcs _=>h.2 cs (room_wide _)⟩
  refine h2.mono λe w' he=>?_;obtain⟨H,σ',rfl,hv,a0⟩:=he;grind
theorem dJ.op{call:aK}(H:dJ P call)(f:FuncId)(args:Bt)(m:M)(v:Φ)(m':M)(h:call (.func f) args m=some (v,m'))(σ:Sg)(w:World)(args':Array Φ)(hs:fN P σ m w)(hl:bN σ args args'.toList):eA P σ m w ((callFunc f args').run P w) v m':=by have⟨h1,h2⟩:=H.func f args m v m' h σ w args' hs hl;rw[h2];exact .enter h1
theorem eA.value{v v':Φ}{σ':Sg}{w':World}(H:bE σ' v v')(he:Ev P σ m w σ' m' w'):eA P σ m w (.ok (.value v') w') v m':=
 ⟨⟨σ',w',v',H,he⟩,λ_ _ _ _ _ _ h=>h σ' w' v' H he⟩
theorem eA.skip{σ':Sg}{w':World}(he:Ev P σ m w σ' m' w'):eA P σ m w (.ok .skip w') undef m':=
 ⟨⟨σ',w',undef,bE.undef,he⟩,λ_ _ _ _ _ _ h=>h σ' w' undef bE.undef he⟩
theorem KX.op{s:Sem Φ}{v:Φ}(h:KX P σ m w s v m'):eA P σ m w ((do let x<-s;Pure.pure (Next.value x):Sem Next).run P w) v m':=by have⟨σ',w',v',h1,H,h3⟩:=h;rw[OY,h1];exact .value H h3
theorem eA.same(H:fN P σ m w){s:Sem Φ}{v v':Φ}(h:s.run P w=.ok v' w)(hv:bE σ v v'):eA P σ m w ((do let x<-s;pure (Next.value x):Sem Next).run P w) v m:=
 (KX.pure H h hv).op
def eO(σ:Sg)(T:Tr Φ)(a:Act)(nt:Nat):Prop:=a.tmps.size=nt/\∀t,t < nt->bE σ (qB T t) (a.eval (.tmp t))
theorem eO.mono{τ:Sg}{T:Tr Φ}{a:Act}{nt:Nat}(h:eO σ T a nt)(hle:σ.le τ):eO τ T a nt:=⟨h.1,λt H=>(h.2 t H).mono hle⟩
theorem GF(T:Tr Φ)(d:Tmp)(v:Φ)(t:Nat):qB (put T (some d) v) t=if t=d then v else qB T t:=by
 unfold qB D.put;rw[Tr.cj];grind
theorem eO.put{T:Tr Φ}{a:Act}{nt:Nat}{v v':Φ}{dst:Option Tmp}(h:eO σ T a nt)(hd:∀d,dst=some d->d<nt)(hv:bE σ v v'):eO σ (put T dst v) (a.put dst v') nt:=by
 cases dst with
 |none=>exact h
 |some d=>
  have a0:=hd d rfl;refine⟨by simp[Act.put,h.1],λt ht=>?_⟩;rw[GF];by_cases H:t=d
  ·subst H;have:(a.put (some t) v').eval (.tmp t)=v':=by simp[Act.put,Act.eval,h.1,a0]
   grind
  rw[QL H,Act.eval_put (by grind)];exact h.2 t ht
theorem El{nt:Nat}{T:Tr Φ}{a:Act}{x:Operand}(hs:fN P σ m w)(hT:∀t,x=.tmp t->bE σ (qB T t) (a.eval (.tmp t)))(H:rz nt P.globals.size x):bE σ (ev T x) (a.eval x):=by
 cases x with
 |tmp t=>exact hT t rfl
 |const v=>exact .kZ H
 |global g=>
  have hg:g<P.globals.size:=by
   have h:Nat.blt g P.globals.size:=H;simp_all
  exact .ptr ⟨g,0,none⟩ ⟨g,none⟩ (hs.lz g hg) rfl
 |func f=>exact .flat _ rfl
theorem nf{T:Tr Φ}{a:Act}(l:List Operand)(h:∀x∈l,bE σ (ev T x) (a.eval x)):bN σ (l.map (ev T)) (l.map a.eval):=by
 refine⟨by simp,λj u u' hu H=>?_⟩;grind
theorem adg(hE:E.OK P)(hs:fN P σ m w){b:Builtin}{ts:Array TypeId}{ty:TypeId}{cs:Array Bool}{args args':Bt}{v:Φ}(h:av E m b ts.toList args=some (v,m'))(hl:bN σ args args'):
  eA P σ m w ((Go.builtin b ts ty cs args'.toArray).run P w) v m':=by
 unfold av at h;split at h;·rename_i t u s x a0;obtain⟨s',l1,rfl,h1,d0⟩:=hl.cases;obtain⟨x',l2,rfl,h2,b0⟩:=d0.cases;obtain rfl:=b0.nil_eq;have H:ts= #[t,u]:=Tu a0;subst H;exact(CF (ty:=ty) hE hs h h1 h2).op
 ·rename_i t x a0;obtain⟨x',l2,rfl,h2,b0⟩:=hl.cases;obtain rfl:=b0.nil_eq;have H:ts= #[t]:=Tu a0;subst H;simp only[Tq,xU]at h;obtain⟨v0,h,rfl,rfl⟩:=h;have⟨q1,q2⟩:=abZ (ty:=ty) hE hs h h2;exact eA.same hs q1 (.flat _ q2)
 ·simp only[Tq,xU]at h;obtain⟨v0,h,rfl,rfl⟩:=h;obtain⟨x,rest,rfl,q1,q2⟩:=pD (P:=P) (w:=w) (op:=Builtin.min2) (λk x k' y=>rfl) hl h;exact eA.same hs (s:=Builtin.min_ ts ty (x::rest).toArray) (by simpa[Builtin.min_]using q1) (.flat _ q2)
 ·simp only[Tq,xU]at h;obtain⟨v0,h,rfl,rfl⟩:=h;obtain⟨x,rest,rfl,q1,q2⟩:=pD (P:=P) (w:=w) (op:=Builtin.max2) (λk x k' y=>rfl) hl h;exact eA.same hs (s:=Builtin.max_ ts ty (x::rest).toArray) (by simpa[Builtin.max_]using q1) (.flat _ q2)
 cases h
theorem zv.map{T:Tr Φ}{a:Act}{x:Option Operand}(h:∀o,x=some o->bE σ (ev T o) (a.eval o)):zv σ (x.map (ev T)) (x.map a.eval):=by
 cases x with
 |none=>trivial
 |some o=>exact h o rfl
theorem Gr(hE:E.OK P){call:aK}(eX:dJ P call)(hs:fN P σ m w){T:Tr Φ}{a:Act}{c:Call}{ty:TypeId}{v:Φ}(h:uz c E call T m=some (v,m'))
  (hT:∀x∈c.operands.toList,bE σ (ev T x) (a.eval x)):eA P σ m w ((do let d<-resolve a.eval c ty;invoke d.target d.args:Sem Next).run P w) v m':=by
 unfold uz at h;have a0:bN σ (c.args.toList.map (ev T)) (c.args.toList.map a.eval):=nf _ (λx hx=>hT x (by simp[Call.operands];exact .inr (by grind)));have e0:c.args.map a.eval=(c.args.toList.map a.eval).toArray:=by grind
 unfold resolve;split at h;·rename_i b hc;rw[hc];simp only[OY,Wg,Y1,invoke,e0];exact adg hE hs h a0
 ·rename_i f hc;rw[hc];have hf:bE σ (ev T f) (a.eval f):=hT f (by simp[Call.operands,hc]);split at h
  ·rename_i g first captured hg;rw[hg]at hf;obtain⟨fv,b0⟩:∃x,a.eval f=x:=⟨_,rfl⟩
   rw[b0]at hf;cases hf with
   |flat _ hh=>
    cases g with
    |func g=>
     simp only[b0,Deferred.ofValue,OY,Wg,Y1,invoke];refine eX.op g _ m v m' h σ w _ hs ?_;rw[e0];simp only[bw,JJ,List.isEmpty_iff]at hh;grind
    |_=>simp[bw]at hh
   |func g _ _ d0 H ha hb h1 h2=>
    simp only[b0,Deferred.ofValue,OY,Wg,Y1,invoke];refine eX.op g _ m v m' h σ w _ hs ?_;rw[e0];simp only[IF];have e1:bN σ first.toList d0.toList:=⟨by grind,λj u u' x y=>h1 j u u' (by grind) (by grind)⟩
    have e2:bN σ captured.toList H.toList:=⟨by grind,λj u u' x y=>h2 j u u' (by grind) (by grind)⟩
    rw[WO];exact e1.append (a0.append e2)
   |yield l i hl=>
    simp only[b0,Deferred.ofValue,OY,Wg,Y1,invoke];refine eX.yield l _ m v m' h σ w i _ hs hl ?_;grind
  cases h
 cases h
theorem sO(hE:E.OK P){call:aK}(eX:dJ P call)(hs:fN P σ m w){T:Tr Φ}{a:Act}{o:Oper}{v:Φ}(h:ew o.op E call T m=some (v,m'))
  (H:∀x∈o.op.operands.toList,bE σ (ev T x) (a.eval x)):eA P σ m w ((execOp a.eval o).run P w) v m':=by
 unfold execOp;cases ho:o.op with
 |move x=>rw[ho]at h H;dsimp only;cases h;exact .value (H x (by simp[Op.operands])) (Ev.refl hs)
 |assign x=>rw[ho]at h H;dsimp only;cases h;exact .value (H x (by simp[Op.operands])) (Ev.refl hs)
 |pick c x y=>
  rw[ho]at h H;dsimp only;simp only[ew,rq]at h;split at h
  ·rename_i t hc;simp only[No,xU]at h;obtain⟨rfl,rfl⟩:=h;have h1:=H c (by simp[Op.operands]);rw[hc]at h1;rw[h1.bool];simp only[asBool,OY,Wg,Y1];refine .value ?_ (Ev.refl hs);cases t;·exact H y (by simp[Op.operands])
   exact H x (by simp[Op.operands])
  cases h
 |alloc t=>
  rw[ho]at h;dsimp only;simp only[ew,wV]at h;split at h;·rename_i z hz;cases h;exact(EE hE hs hz).op
  cases h
 |box t x=>rw[ho]at h H;dsimp only;cases h;exact(KO hs (H x (by simp[Op.operands]))).op
 |build t ps=>
  rw[ho]at h H;dsimp only;simp only[ew,sQ]at h;split at h;·rename_i z hz;cases h;obtain⟨v',h1,h2⟩:=vP (w:=w) hE (T:=ev T) (A:=a.eval) (λp hp=>H p.2 (by simp only[Op.operands];exact WZ hp)) hz;exact eA.same hs h1 h2
  cases h
 |buildSlice t n ps=>rw[ho]at h H;dsimp only;simp only[ew,nD]at h;exact(uX hE hs (T:=ev T) (A:=a.eval) (λp hp=>H p.2 (by simp only[Op.operands];exact WZ hp)) h).op
 |load t x=>
  rw[ho]at h H;dsimp only;simp only[ew,BD]at h;split at h
  ·rename_i ad hx;split at h;·rename_i z hz;cases h;have h1:=H x (by simp[Op.operands]);rw[hx]at h1;have⟨i,hi,_,he⟩:=h1.iC;have⟨v',q1,q2,_⟩:=qP (w:=w) hE hs hi hz;refine eA.same hs (s:=Instr.loadAt t (a.eval x)) ?_ q2;rw[he];simpa[Instr.loadAt,Instr.sureAddr]using q1
   cases h
  cases h
 |store t x y=>
  rw[ho]at h H;dsimp only;simp only[ew,wU]at h;split at h
  ·rename_i ad hx;split at h
   ·rename_i m2 hz;cases h;have h1:=H x (by simp[Op.operands]);rw[hx]at h1;have⟨i,hi,_,he⟩:=h1.iC;obtain⟨w',q1,q2,_⟩:=xI hE hs hi (H y (by simp[Op.operands])) hz;have hr:(Instr.storeAt t (a.eval x) (a.eval y)).run P w=.ok () w':=by rw[he];simpa[Instr.storeAt,Instr.sureAddr]using q1
    simp only[OY,hr,Y1,Wg];exact .skip q2
   cases h
  cases h
 |nilCheck x=>
  rw[ho]at h H;dsimp only;have h1:=H x (by simp[Op.operands]);simp only[ew,gW]at h;split at h;·rename_i ad hx;cases h;rw[hx]at h1;have h2:=h1;have⟨i,hi,_,he⟩:=h1.iC;rw[he]at h2⊢;exact .value h2 (Ev.refl hs)
  ·rename_i g a1 b1 hx;cases h;rw[hx]at h1;have h2:=h1;have⟨a',b',he,_⟩:=h1.yP;rw[he]at h2⊢;exact .value h2 (Ev.refl hs)
  cases h
 |binOp op t x y yt=>
  rw[ho]at h H;dsimp only;simp only[ew,DB]at h;split at h;·rename_i z hz;cases h;obtain⟨q1,q2⟩:=AZ (w:=w) hE hz (H x (by simp[Op.operands])) (H y (by simp[Op.operands])) x y;exact eA.same hs q1 (.flat _ q2)
  cases h
 |unOp op t x=>
  rw[ho]at h H;dsimp only;simp only[ew,Nr]at h;split at h;·rename_i z hz;cases h;obtain⟨q1,q2⟩:=CY (P:=P) (w:=w) hz (H x (by simp[Op.operands]));exact eA.same hs q1 (.flat _ q2)
  cases h
 |convert s d x=>
  rw[ho]at h H;dsimp only;simp only[ew,FB]at h;split at h;·rename_i z hz;cases h;obtain⟨q1,q2⟩:=aeg (P:=P) (w:=w) hE hz (H x (by simp[Op.operands]));exact eA.same hs q1 (.flat _ q2)
  cases h
 |makeFunc f x y=>
  rw[ho]at h H;dsimp only;simp only[ew,iR]at h;split at h;·rename_i g;cases h;have e1:bN σ (x.toList.map (ev T)) (x.toList.map a.eval):=nf _ (λo hx=>H o (by simp[Op.operands];exact .inl (by grind)));have e2:bN σ (y.toList.map (ev T)) (y.toList.map a.eval):=nf _ (λo hx=>H o (by simp[Op.operands];exact .inr (by grind)));refine eA.same hs (s:=Instr.makeFunc (.func g) (x.map a.eval) (y.map a.eval)) rfl ?_;refine .func g _ _ _ _ (by simp) (by simp) (λj u u' p q=>e1.2 j u u' (by grind) (by grind)) (λj u u' p q=>e2.2 j u u' (by grind) (by grind))
  cases h
 |makeMap t r=>
  rw[ho]at h;dsimp only;simp only[ew,qe]at h;split at h;·cases h;exact(aeL hs t).op
  cases h
 |slice t x lo hi mx=>
  rw[ho]at h H;dsimp only;simp only[ew,BB]at h;split at h;·rename_i z hz;cases h;obtain⟨v',q1,q2⟩:=De (w:=w) hE hs hz (H x (by simp[Op.operands])) (zv.map (a:=a) (λo he=>H o (by simp[Op.operands,he]))) (zv.map (a:=a) (λo he=>H o (by simp[Op.operands,he]))) (zv.map (a:=a) (λo he=>H o (by simp[Op.operands,he])));exact eA.same hs q1 q2
  cases h
 |fieldAddr s x f=>
  rw[ho]at h H;dsimp only;simp only[ew,js]at h;split at h;·rename_i z hz;cases h;obtain⟨v',q1,q2⟩:=oz (w:=w) hE hz (H x (by simp[Op.operands]));exact eA.same hs q1 q2
  cases h
 |indexAddr t x y=>
  rw[ho]at h H;dsimp only;simp only[ew,jr]at h;split at h;·rename_i z hz;cases h;obtain⟨v',q1,q2⟩:=oo (w:=w) hE hz (H x (by simp[Op.operands])) (H y (by simp[Op.operands]));exact eA.same hs q1 q2
  cases h
 |index t x y=>
  rw[ho]at h H;dsimp only;simp only[ew,sP]at h;split at h;·rename_i z hz;cases h;obtain⟨v',q1,q2⟩:=vF (w:=w) hE hz (H x (by simp[Op.operands])) (H y (by simp[Op.operands]));exact eA.same hs q1 q2
  cases h
 |lookup t x y ok=>
  rw[ho]at h H;dsimp only;simp only[ew,yq]at h;split at h;·rename_i z hz;cases h;obtain⟨v',q1,q2⟩:=BQ hE hs hz (H x (by simp[Op.operands])) (H y (by simp[Op.operands]));exact eA.same hs q1 q2
  cases h
 |mapUpdate t x k y=>
  rw[ho]at h H;dsimp only;simp only[ew,eW]at h;split at h;·rename_i m2 hz;cases h;obtain⟨w',q1,q2⟩:=oj hE hs hz (H x (by simp[Op.operands])) (H k (by simp[Op.operands])) (H y (by simp[Op.operands]));simp only[OY,q1,Y1,Wg];exact .skip q2
  cases h
 |insert t x k y=>
  rw[ho]at h H;dsimp only;simp only[ew,eW]at h;split at h;·rename_i m2 hz;cases h;obtain⟨w',q1,q2⟩:=oj hE hs hz (H x (by simp[Op.operands])) (H k (by simp[Op.operands])) (H y (by simp[Op.operands]));simp only[OY,q1,Y1,Wg];exact .skip q2
  cases h
 |extract x i=>
  rw[ho]at h H;dsimp only;simp only[ew,kF]at h;split at h
  ·rename_i vs hx;split at h
   ·rename_i z hz;cases h;have h1:=H x (by simp[Op.operands]);rw[hx]at h1;have⟨a0,he,hl⟩:=h1.tV;have⟨u',hu,hr⟩:=hl.get hz;refine eA.same hs (s:=Instr.extract (a.eval x) i) (v':=u') ?_ hr;rw[he];have:a0[i]?=some u':=by grind
    simp[Instr.extract,this]
   cases h
  cases h
 |call c=>rw[ho]at h H;dsimp only;exact Gr hE eX hs h H
 |_=>rw[ho]at h;simp[ew]at h
end
end
section
section
variable {E:Env} {P:Program} {σ:Sg} {m m':M} {w:World}
theorem bE.Qm{v:Φ}{b:Bool}(h:bE σ v (.bool b)):v=.bool b:=by cases h;rfl
theorem rU{ops:Array Oper}{T:Tr Φ}{a:Act}{o:Oper}
  (hT:∀j want d,o.guard=some (j,want)->(ops[j]?).bind (·.dst)=some d->d<a.tmps.size/\bE σ (qB T d) (a.eval (.tmp d))):
  dq ops T o=Region.wanted o (yielded ops a.tmps):=by
 unfold dq Region.wanted;cases hg:o.guard with
 |none=>rfl
 |some p=>
  have⟨j,want⟩:=p;dsimp only;unfold yielded;simp only[wo];cases hd:(ops[j]?).bind (·.dst)with
  |none=>rfl
  |some d=>
   have⟨h1,H⟩:=hT j want d hg hd;have he:a.tmps[d]?=some (a.eval (.tmp d)):=by simp[Act.eval,h1]
   simp only[Bd,he];generalize a.eval (.tmp d)=u at H;cases hv:qB T d with
   |bool b=>rw[hv]at H;rw[H.bool];simp
   |_=>
    rw[hv]at H;cases u with
    |bool b=>have:=H.Qm;cases this
    |_=>simp
theorem kX{nt G:Nat}{o:Oper}(h:jI nt G o):∀d,o.dst=some d->d<nt:=by
 intro d H;unfold jI at h;simp_all
theorem kW{nt G:Nat}{o:Oper}(h:jI nt G o):∀x∈o.op.operands.toList,rz nt G x:=by
 intro x H;unfold jI at h;grind
theorem ry{nt G t:Nat}(h:rz nt G (.tmp t)):t<nt:=by
 have h:Nat.blt t nt:=h;simp_all
theorem eO.Nq{T:Tr Φ}{a:Act}{nt:Nat}(h:eO σ T a nt)(hs:fN P σ m w){x:Operand}(H:rz nt P.globals.size x):bE σ (ev T x) (a.eval x):=
 El hs (λt ht=>by subst ht;exact h.2 t (ry H)) H
theorem eO.wanted{ops:Array Oper}{T:Tr Φ}{a:Act}{nt:Nat}(h:eO σ T a nt)(a0:∀o∈ops.toList,jI nt P.globals.size o)(o:Oper):dq ops T o=Region.wanted o (yielded ops a.tmps):=by refine rU (σ:=σ) λj want d _ hd=>?_;simp only[Me]at hd;have⟨o',d0,b0⟩:=hd;have H:=kX (a0 o' (by grind)) d b0;exact⟨by rw[h.1];exact H,h.2 d H⟩
theorem uw(hE:E.OK P){call:aK}(eX:dJ P call){nt:Nat}{ops:Array Oper}(b0:∀o∈ops.toList,jI nt P.globals.size o){ro:Option Nat}{n:Nat}{Q:Exit->Act->World->Prop}{ds:List Deferred}:
  ∀(l:List Oper),(∀o∈l,jI nt P.globals.size o)->∀(fr H:Fr),zD E call ops l fr=some H->∀(σ:Sg) (a:Act) (w:World),eO σ fr.T a nt->a.defers=ds->fN P σ fr.m w->(∀σ' a' w',eO σ' H.T a' nt->a'.defers=ds->Ev P σ fr.m w σ' H.m w'->Q .normal a' w')->wpListIn (iL ro) n P ops Q l a w
 |[],_,fr,H,h,σ,a,w,hf,hd,hs,k=>by
  simp only[DA,No]at h;subst h;exact k σ a w hf hd (Ev.refl hs)
 |o::l,hl,fr,H,h,σ,a,w,hf,hd,hs,k=>by
  rw[mT]at h;have hw:=hf.wanted b0 o;have a0:=kX (hl o zN);have d0:=λo ho=>hl o (W6 _ ho);unfold wpListIn;rw[<-hw];cases e0:dq ops fr.T o with
  |false=>
   rw[e0]at h;simp only[T4]at h;rw[QL (by simp)];refine⟨λ_ _=>trivial,?_⟩;refine uw hE eX b0 l d0 _ _ h σ (a.put o.dst undef) w (hf.put a0 bE.undef) ?_ hs k;rw[<-hd];cases o.dst <;>rfl
  |true=>
   rw[e0]at h;simp only[cond_true]at h;rw[Tf rfl];cases ho:ew o.op E call fr.T fr.m with
   |none=>rw[ho]at h;cases h
   |some p=>
    have⟨v,m1⟩:=p;rw[ho]at h;simp only at h;refine⟨λ_ _=>trivial,?_⟩;have g0:=sO hE eX hs ho (a:=a) (λx hx=>hf.Nq hs (kW (hl o zN) x hx));rw[Oper.semAt_eq _ _ _ (λc hc=>by rw[hc]at ho;simp[ew]at ho)];refine g0.2 ro n o a _ Q λσ' w' v' hv he=>?_;refine uw hE eX b0 l d0 _ _ h σ' (a.put o.dst v') w' ((hf.mono he.ext).put a0 hv) ?_ he.vY λi0 a2 w2 j0 k0 l0=>k i0 a2 w2 j0 k0 (he.trans l0);rw[<-hd];cases o.dst <;>rfl
end
end
section
inductive Reach (ops:Array Oper):Nat->Nat->Prop where
 |one {j:Nat} {o:Oper} {e:Edge} (ho:ops[j]?=some o) (he:e∈o.after) (hb:Region.binds .any e=true):Reach ops e.on j
 |step {i j:Nat} {o:Oper} {e:Edge} (ho:ops[j]?=some o) (he:e∈o.after) (hb:Region.binds .any e=true) (h:Reach ops i e.on):Reach ops i j
theorem rZ{acc:Array Nat}{i:Nat}:∀(l:List Edge) (s:Nat),(l.foldl (λs e=>if Region.binds .any e then s |||2 ^ e.on |||acc.getD e.on 0 else s) s).testBit i->
  s.testBit i\/∃e∈l,Region.binds .any e/\(i=e.on\/(acc.getD e.on 0).testBit i)
 |[],s,h=> .inl h
 |e::l,s,h=>by
  rw[IW]at h;rcases rZ l _ h with h1|⟨H,h1,h2,h3⟩;·grind
  ·grind
theorem vQ(ops:Array Oper):∀(l pre:List Oper) (acc:Array Nat),ops.toList=pre++l->acc.size=pre.length->(∀i j,(acc.getD j 0).testBit i->Reach ops i j)->
  ∀i j,((l.foldl (λacc o=>acc.push (o.after.foldl (λs e=>if Region.binds .any e then s |||2 ^ e.on |||acc.getD e.on 0 else s) 0)) acc).getD j 0).testBit i->Reach ops i j
 |[],pre,acc,_,_,h,i,j,hh=>h i j hh
 |o::l,pre,acc,hp,hs,h,i,j,hh=>by
  rw[IW]at hh;refine vQ ops l (pre++ [o]) _ (by grind) (by grind) ?_ i j hh;intro i j H;have ho:ops[pre.length]?=some o:=by
   rw[<-wo,hp,zC (Ox _)];simp
  rcases QS j acc.size with hj|hj|hj
  ·refine h i j ?_;rw[NP,DD hj]at H;rw[NP];grind
  ·subst hj;rw[NP,Array.getElem?_push_size]at H;simp only[VZ]at H;rw[<-zP]at H;rcases rZ o.after.toList 0 H with h1|⟨e,h1,h2,h3⟩;·grind
   ·rw[hs];rcases h3 with rfl|h3;·exact .one ho (by grind) h2
    ·exact .step ho (by grind) h2 (h _ _ h3)
  ·grind
theorem nU{ops:Array Oper}{i j:Nat}(h:((Region.before ops).getD j 0).testBit i):Reach ops i j:=by unfold Region.before at h;rw[<-zP]at h;exact vQ ops ops.toList [] #[] (by simp) rfl (by grind) i j h
def CK(ops:Array Oper)(L:Nat->Prop):Prop:=∀j o,ops[j]?=some o->L j->∀e∈o.after,Region.binds .any e=true->L e.on
theorem Reach.listed{ops:Array Oper}{L:Nat->Prop}(hc:CK ops L){i j:Nat}(h:Reach ops i j):(∀o,ops[j]?=some o->∀e∈o.after,Region.binds .any e->L e.on)->L i:=by
 induction h with
 |one H he hb=>exact λh=>h _ H _ he hb
 |step H he hb _ ih=>exact λh=>ih λo' a0 e' b0 d0=>hc _ o' a0 (h _ H _ he hb) e' b0 d0
theorem Reach.qg{ops:Array Oper}{L:Nat->Prop}(H:CK ops L){i j:Nat}(h:Reach ops i j)(hj:L j):L i:=h.listed H λo ho e he hb=>H j o ho hj e he hb
theorem Reach.lt{ops:Array Oper}(hl:∀j o,ops[j]?=some o->∀e∈o.after,Region.binds .any e->e.on<j){i j:Nat}(h:Reach ops i j):i<j:=by
 induction h with
 |one H he hb=>exact hl _ _ H _ he hb
 |step H he hb _ ih=>exact Nat.lt_trans ih (hl _ _ H _ he hb)
structure Iv(ops:Array Oper):Prop where
 lt:∀j o,ops[j]?=some o->∀e∈o.after,Region.binds .any e=true->e.on < j
 apart:∀i j o' o,ops[i]?=some o'->ops[j]?=some o->i < j->Reach ops i j\/((∀d,o.dst=some d->d∉jg ops o')/\∀d,o'.dst=some d->d∉jg ops o)
theorem ad7{ops:Array Oper}(h:BJ ops):Iv ops:=by
 have key:∀j o,ops[j]?=some o->_:=λj o ho=>Jl.1 h (o,j) (by grind);simp only[JJ]at key;refine⟨λj o ho e he hb=>?_,λi j o' o hi hj H=>?_⟩
 ·have:=Jl.1 (key j o ho).1 e (by grind);simp_all
 have:=Jl.1 (key j o hj).2 (o',i) (by grind);rw[nS]at this;simp only[H,decide_true,V8,Qw,Qf,JJ]at this;rcases this with h1|⟨h1,h2⟩;·exact .inl (nU h1)
 ·grind
theorem qY{ops:Array Oper}{j:Nat}(h:gR ops j):∀i o,ops[i]?=some o->i=j\/mn o.op\/Reach ops i j\/Reach ops j i:=by
 intro i o H;have:=Jl.1 h (o,i) (by grind);simp only[Qf,beq_iff_eq]at this;rcases this with((h1|h1)|h1)|h1;·grind
 ·grind
 ·exact .inr (.inr (.inl (nU h1)))
 exact .inr (.inr (.inr (nU h1)))
section
variable {E:Env} {P:Program} {σ:Sg} {m m':M} {w:World}
theorem Du{op:Op}{call:aK}{T:Tr Φ}{v:Φ}(H:mn op)(h:ew op E call T m=some (v,m')):m'=m:=by
 cases op <;>simp[mn]at H <;>simp only[ew]at h
 case move=>cases h;rfl
 case assign=>cases h;rfl
 case pick=>unfold rq at h;split at h <;>cases h;rfl
 case build=>unfold sQ at h;split at h <;>cases h;rfl
 case nilCheck=>unfold gW at h;split at h <;>cases h <;>rfl
 case binOp=>unfold DB at h;split at h <;>cases h;rfl
 case unOp=>unfold Nr at h;split at h <;>cases h;rfl
 case makeFunc=>unfold iR at h;split at h <;>cases h;rfl
 case fieldAddr=>unfold js at h;split at h <;>cases h;rfl
 case indexAddr=>unfold jr at h;split at h <;>cases h;rfl
 case index=>unfold sP at h;split at h <;>cases h;rfl
 case extract=>
  unfold kF at h;grind
theorem Ft(hE:E.OK P){call:aK}{T:Tr Φ}{a:Act}{o:Oper}{v:Φ}(hp:mn o.op)(h:ew o.op E call T m=some (v,m'))
  (H:∀x∈o.op.operands.toList,bE σ (ev T x) (a.eval x)):∃v',(execOp a.eval o).run P w=.ok (.value v') w/\bE σ v v':=by
 have val:∀{s:Sem Φ} {v':Φ},s.run P w=.ok v' w->(do let x<-s;pure (Next.value x):Sem Next).run P w=.ok (.value v') w:=by
  simp_all
 unfold execOp;cases ho:o.op with
 |move x=>rw[ho]at h H;cases h;exact⟨_,rfl,H x (by simp[Op.operands])⟩
 |assign x=>rw[ho]at h H;cases h;exact⟨_,rfl,H x (by simp[Op.operands])⟩
 |pick c x y=>
  rw[ho]at h H;dsimp only;simp only[ew,rq]at h;split at h
  ·rename_i t hc;obtain⟨rfl,rfl⟩:=h;have h1:=H c (by simp[Op.operands]);rw[hc]at h1;rw[h1.bool];refine⟨_,rfl,?_⟩;cases t;·exact H y (by simp[Op.operands])
   exact H x (by simp[Op.operands])
  cases h
 |build t ps=>
  rw[ho]at h H;simp only[ew,sQ]at h;split at h
  ·rename_i z hz;cases h;obtain⟨v',h1,h2⟩:=vP (w:=w) hE (T:=ev T) (A:=a.eval) (λp hp=>H p.2 (by simp only[Op.operands];exact WZ hp)) hz;grind
  cases h
 |nilCheck x=>
  rw[ho]at h H;have h1:=H x (by simp[Op.operands]);simp only[ew,gW]at h;split at h
  ·rename_i ad hx;cases h;rw[hx]at h1;have⟨i,hi,_,he⟩:=h1.iC;simp_all
  ·rename_i g a1 b1 hx;cases h;rw[hx]at h1;have⟨a',b',he,_⟩:=h1.yP;simp_all
  cases h
 |binOp op t x y yt=>
  rw[ho]at h H;simp only[ew,DB]at h;split at h;·rename_i z hz;cases h;obtain⟨q1,q2⟩:=AZ (w:=w) hE hz (H x (by simp[Op.operands])) (H y (by simp[Op.operands])) x y;exact⟨_,val q1,.flat _ q2⟩
  cases h
 |unOp op t x=>
  rw[ho]at h H;simp only[ew,Nr]at h;split at h;·rename_i z hz;cases h;obtain⟨q1,q2⟩:=CY (P:=P) (w:=w) hz (H x (by simp[Op.operands]));exact⟨_,val q1,.flat _ q2⟩
  cases h
 |makeFunc f x y=>
  rw[ho]at h H;simp only[ew,iR]at h;split at h;·rename_i g;cases h;have e1:bN σ (x.toList.map (ev T)) (x.toList.map a.eval):=nf _ (λo hx=>H o (by simp[Op.operands];exact .inl (by grind)));have e2:bN σ (y.toList.map (ev T)) (y.toList.map a.eval):=nf _ (λo hx=>H o (by simp[Op.operands];exact .inr (by grind)));refine⟨_,rfl,?_⟩;refine .func g _ _ _ _ (by simp) (by simp) (λj u u' p q=>e1.2 j u u' (by grind) (by grind)) (λj u u' p q=>e2.2 j u u' (by grind) (by grind))
  cases h
 |fieldAddr s x f=>
  rw[ho]at h H;simp only[ew,js]at h;split at h
  ·rename_i z hz;cases h;obtain⟨v',q1,q2⟩:=oz (w:=w) hE hz (H x (by simp[Op.operands]));grind
  cases h
 |indexAddr t x y=>
  rw[ho]at h H;simp only[ew,jr]at h;split at h
  ·rename_i z hz;cases h;obtain⟨v',q1,q2⟩:=oo (w:=w) hE hz (H x (by simp[Op.operands])) (H y (by simp[Op.operands]));grind
  cases h
 |index t x y=>
  rw[ho]at h H;simp only[ew,sP]at h;split at h
  ·rename_i z hz;cases h;obtain⟨v',q1,q2⟩:=vF (w:=w) hE hz (H x (by simp[Op.operands])) (H y (by simp[Op.operands]));grind
  cases h
 |extract x i=>
  rw[ho]at h H;simp only[ew,kF]at h;split at h
  ·rename_i vs hx;split at h
   ·rename_i z hz;cases h;have h1:=H x (by simp[Op.operands]);rw[hx]at h1;have⟨a0,he,hl⟩:=h1.tV;have⟨u',hu,hr⟩:=hl.get hz;refine⟨u',val ?_,hr⟩;rw[he];have:a0[i]?=some u':=by grind
    simp[Instr.extract,this]
   cases h
  cases h
 |_=>rw[ho]at hp;simp[mn]at hp
def DStep(E:Env)(call:aK)(ops:Array Oper)(fr:Fr)(o:Oper)(j:Nat)(H:Fr):Prop:=
 (dq ops fr.T o=false/\H={fr with T:=put fr.T o.dst undef})\/
 (dq ops fr.T o=true/\∃v m,ew o.op E call fr.T {fr.m with low:=fr.m.n}=some (v,m)/\(fr.m.n<=m.low\/gR ops j=true)/\
  H={T:=put fr.T o.dst v,m:={m with low:=min fr.m.low m.low}})
theorem za{call:aK}{ops:Array Oper}:∀(l:List Oper) (j:Nat) (fr H:Fr),oH E call ops l j fr=some H->
  ∃tr:Nat->Fr,tr j=fr/\tr (j+l.length)=H/\∀i o,l[i]?=some o->DStep E call ops (tr (j+i)) o (j+i) (tr (j+i+1))
 |[],j,fr,H,h=>by
  simp only[AQ,No]at h;subst h;exact⟨λ_=>fr,rfl,rfl,λi o h=>by simp at h⟩
 |o::l,j,fr,H,h=>by
  have key:∀a0,DStep E call ops fr o j a0->oH E call ops l (j+1) a0=some H->
    ∃tr:Nat->Fr,tr j=fr/\tr (j+(o::l).length)=H/\∀i o',(o::l)[i]?=some o'->DStep E call ops (tr (j+i)) o' (j+i) (tr (j+i+1)):=by
   intro a0 h1 h2;have⟨tr,t1,t2,t3⟩:=za l (j+1) a0 H h2;refine⟨λk=>if k=j then fr else tr k,by simp,?_,?_⟩;·grind
   ·intro i o' hi;cases i with
    |zero=>
     grind
    |succ i=>
     grind
  rw[lH]at h;cases hw:dq ops fr.T o with
  |false=>
   rw[hw]at h;exact key _ (.inl ⟨hw,rfl⟩) h
  |true=>
   rw[hw]at h;simp only[cond_true]at h;cases ho:ew o.op E call fr.T {fr.m with low:=fr.m.n}with
   |none=>rw[ho]at h;cases h
   |some p=>
    have⟨v,m⟩:=p;rw[ho]at h;simp only at h;cases hb:(Nat.ble fr.m.n m.low ||gR ops j)with
    |false=>rw[hb]at h;simp at h
    |true=>
     rw[hb]at h;simp only[cond_true]at h;refine key _ (.inr ⟨hw,v,m,ho,?_,rfl⟩) h;simp only[Qf]at hb;exact hb.imp JO id
end
end
section
def Sg.cut(σ:Sg)(n:Nat):Sg:=λb=>if b < n then σ b else none
theorem Sg.dI{σ:Sg}{n b:Nat}{i:BI}:(σ.cut n) b=some i↔b<n/\σ b=some i:=by
 unfold Sg.cut;grind
theorem Sg.Gh{σ τ:Sg}{n k:Nat}(h:σ.le τ)(hn:n<=k):(σ.cut n).le (τ.cut k):=by intro b i H;rw[Sg.dI]at H⊢;exact⟨by omega,h b i H.2⟩
section
variable {E:Env} {P:Program} {call:aK} {ops:Array Oper} {nt:Nat} {tr:Nat->Fr}
structure Ctx(E:Env)(P:Program)(call:aK)(ops:Array Oper)(nt:Nat)(tr:Nat->Fr):Prop where
 hE:E.OK P
 eX:dJ P call
 ord:Iv ops
 ok:∀o∈ops.toList,jI nt P.globals.size o=true
 step:∀j o,ops[j]?=some o->DStep E call ops (tr j) o j (tr (j+1))
 ghost:∀j,j<=ops.size->∃σ a w,fN P σ (tr j).m w/\eO σ (tr j).T a nt
theorem fN.low{σ:Sg}{m:M}{w:World}(h:fN P σ m w)(x:Nat):fN P σ {m with low:=x} w:=⟨h.rT,h.obj,h.lt,h.inj,h.lz⟩
theorem AF(hE:E.OK P)(eX:dJ P call)(b0:∀o∈ops.toList,jI nt P.globals.size o)
  (H:∀j o,ops[j]?=some o->DStep E call ops (tr j) o j (tr (j+1))) {σ:Sg} {a:Act} {w:World} (hs:fN P σ (tr 0).m w) (hf:eO σ (tr 0).T a nt):
  ∀j,j<=ops.size->∃σ a w,fN P σ (tr j).m w/\eO σ (tr j).T a nt
 |0,_=>⟨σ,a,w,hs,hf⟩
 |j+1,hj=>by
  obtain⟨d0,a1,w1,h1,h2⟩:=AF hE eX b0 H hs hf j (by omega);have ho:ops[j]?=some ops[j]:=by grind
  have a0:=b0 ops[j] (by simp);rcases H j _ ho with⟨_,h⟩|⟨_,v,m,e0,_,h⟩
  ·rw[h];exact⟨d0,a1.put ops[j].dst undef,w1,h1,h2.put (kX a0) bE.undef⟩
  ·rw[h];have⟨σ',w',v',hv,he⟩:=(sO hE eX (h1.low (tr j).m.n) e0 (a:=a1) (λx hx=>h2.Nq h1 (kW a0 x hx))).1;exact⟨σ',a1.put ops[j].dst v',w',he.vY.low _,(h2.mono he.ext).put (kX a0) hv⟩
def P4(E:Env)(call:aK)(ops:Array Oper)(tr:Nat->Fr)(j:Nat):Prop:=
 ∃o v m,ops[j]?=some o/\dq ops (tr j).T o=true/\ew o.op E call (tr j).T {(tr j).m with low:=(tr j).m.n}=some (v,m)/\¬(tr j).m.n<=m.low
theorem Ctx.fact(c:Ctx E P call ops nt tr){j:Nat}{o:Oper}(ho:ops[j]?=some o):(tr j).m.n<=(tr (j+1)).m.n/\(tr (j+1)).m.low<=(tr j).m.low/\
  (∀b,b<(tr (j+1)).m.low->b<(tr j).m.n->(tr (j+1)).m.get b=(tr j).m.get b)/\
  (¬P4 E call ops tr j->∀b,b<(tr j).m.n->(tr (j+1)).m.get b=(tr j).m.get b):=by
 have e0:j<ops.size:=(Ph.1 ho).1;have a0:=c.ok o (by grind);rcases c.step j o ho with⟨_,h⟩|⟨hw,v,m,b0,hb,h⟩;·grind
 obtain⟨g0,a1,w1,h1,h2⟩:=c.ghost j (by omega);have⟨σ',w',v',hv,he⟩:=(sO c.hE c.eX (h1.low (tr j).m.n) b0 (a:=a1) (λx hx=>h2.Nq h1 (kW a0 x hx))).1;have hn:=he.Lc;have ha:=he.abs;rw[h];refine⟨hn,RU _ _,λb hb H=>ha b (by grind) H,λd0 b H=>ha b ?_ H⟩;have:(tr j).m.n<=m.low:=by refine Ty λhc=>d0 ⟨o,v,m,ho,hw,b0,hc⟩
 omega
theorem Ctx.uM(c:Ctx E P call ops nt tr){j:Nat}{o:Oper}(ho:ops[j]?=some o)(hp:mn o.op):(tr (j+1)).m.n=(tr j).m.n/\¬P4 E call ops tr j:=by
 constructor
 ·rcases c.step j o ho with⟨_,h⟩|⟨hw,v,m,H,hb,h⟩;·rw[h]
  rw[h,Du hp H]
 ·rintro⟨o',v,m,a0,_,H,hn⟩;rw[ho]at a0;cases a0;rw[Du hp H]at hn;grind
theorem Ctx.bar(c:Ctx E P call ops nt tr){j:Nat}(h:P4 E call ops tr j):gR ops j/\j<ops.size:=by
 have⟨o,v,m,H,hw,b0,hn⟩:=h;refine⟨?_,(Ph.1 H).1⟩;rcases c.step j o H with⟨h0,_⟩|⟨_,v',m',a0,hb,_⟩;·grind
 ·grind
theorem Ba{j:Nat}(h:j<ops.size):∃o,ops[j]?=some o:=⟨ops[j],by simp[h]⟩
theorem Ctx.mono(c:Ctx E P call ops nt tr){i:Nat}:∀k,i<=k->k<=ops.size->(tr i).m.n<=(tr k).m.n/\(tr k).m.low<=(tr i).m.low
 |0,h,_=>by
  grind
 |k+1,h,hk=>by
  by_cases H:i=k+1;·grind
  ·obtain⟨h1,h2⟩:=c.mono (i:=i) k (by omega) (by omega);obtain⟨o,ho⟩:=Ba (ops:=ops) (show k<ops.size by omega);have⟨h3,h4,_⟩:=c.fact ho;omega
theorem Ctx.qz(c:Ctx E P call ops nt tr){i:Nat}:∀k,i<=k->k<=ops.size->(∀b,i<=b->b<k->¬P4 E call ops tr b)->∀x,x<(tr i).m.n->(tr k).m.get x=(tr i).m.get x
 |0,h,_,_,x,_=>by
  grind
 |k+1,h,hk,H,x,hx=>by
  by_cases a0:i=k+1;·grind
  ·obtain⟨o,ho⟩:=Ba (ops:=ops) (show k<ops.size by omega);have h1:=(c.mono k (show i<=k by omega) (by omega)).1;rw[(c.fact ho).2.2.2 (H k (show i<=k by omega) (OS k)) x (IV hx h1)];exact c.qz k (by omega) (by omega) (λb h1 h2=>H b h1 (by omega)) x hx
theorem Ctx.abs(c:Ctx E P call ops nt tr):∀k,k<=ops.size->∀x,x<(tr k).m.low->x<(tr 0).m.n->(tr k).m.get x=(tr 0).m.get x
 |0,_,_,_,_=>rfl
 |k+1,hk,x,H,hn=>by
  obtain⟨o,ho⟩:=Ba (ops:=ops) (show k<ops.size by omega);have h1:=(c.mono (i:=0) k (by omega) (by omega)).1;have⟨_,h2,h3,_⟩:=c.fact ho;rw[h3 x H (by omega)];exact c.abs k (by omega) x (by omega) hn
theorem M7(T:Tr Φ){dst:Option Tmp}{t:Tmp}(h:dst≠some t)(v:Φ):qB (put T dst v) t=qB T t:=by
 cases dst with
 |none=>rfl
 |some d=>rw[GF,QL (λe=>h (by rw[e]))]
theorem Ctx.Cs(c:Ctx E P call ops nt tr){i t:Nat}:∀k,i<=k->k<=ops.size->(∀j o,i<=j->j<k->ops[j]?=some o->o.dst≠some t)->qB (tr k).T t=qB (tr i).T t
 |0,h,_,_=>by
  grind
 |k+1,h,hk,hb=>by
  by_cases a0:i=k+1;·grind
  ·obtain⟨o,ho⟩:=Ba (ops:=ops) (show k<ops.size by omega);have H:=hb k o (by omega) (by omega) ho;have ih:=c.Cs k (by omega) (by omega) (λj o h1 h2=>hb j o h1 (by omega));rw[<-ih];rcases c.step k o ho with⟨_,h⟩|⟨_,v,m,_,_,h⟩;·rw[h];exact M7 _ H _
   ·rw[h];exact M7 _ H _
structure Inv(E:Env)(P:Program)(call:aK)(ops:Array Oper)(nt:Nat)(tr:Nat->Fr)(σ0:Sg)(w0:World)(ds:List Deferred)(L:Nat->Prop)(σ:Sg)(a:Act)(w:World):Prop where
 lt:∀i,L i->i < ops.size
 closed:CK ops L
 Tj:a.tmps.size=nt
 defs:a.defers=ds
 tmp:∀t,t < nt->∃k,k<=ops.size/\bE (σ.cut (tr k).m.n) (qB (tr k).T t) (a.eval (.tmp t))/\(∀i o,L i->ops[i]?=some o->o.dst=some t->i < k)/\(k=0\/∃o,L (k-1)/\ops[k-1]?=some o/\o.dst=some t)
 Wz:∀k,k<=ops.size->(∀b,P4 E call ops tr b->(b < k↔L b))->fN P (σ.cut (tr k).m.n) (tr k).m w
 rT:∀b i,σ b=some i->b < (tr 0).m.n\/∃j,L j/\(tr j).m.n<=b/\b < (tr (j+1)).m.n
 base:σ0.le σ
 new:∀b i,σ b=some i->σ0 b=none->(tr 0).m.n<=b/\(w0.heap.size<=i.cY\/∃b0 i0,σ0 b0=some i0/\i0.cY=i.cY/\(tr ops.size).m.low<=b0)
 hle:w0.heap.size<=w.heap.size
 heap:∀B,B < w0.heap.size->(∀b i,σ0 b=some i->i.cY=B->b < (tr ops.size).m.low)->w.heap[B]?=w0.heap[B]?
 os:w.os=w0.os
 tape:w.tape=w0.tape
 output:w.output=w0.output
 lz:∀g,g < P.globals.size->g < (tr 0).m.n/\σ0 g=some ⟨g,none⟩
variable {σ0 σ:Sg} {w0 w:World} {ds:List Deferred} {L:Nat->Prop} {a:Act}
theorem Inv.names(c:Ctx E P call ops nt tr)(h:Inv E P call ops nt tr σ0 w0 ds L σ a w){j:Nat}{o:Oper}(hj:¬L j)(ho:ops[j]?=some o)(e0:∀e∈o.after,Region.binds .any e->L e.on)
  {t:Nat} (ht:t<nt) (hn:t∈jg ops o):bE (σ.cut (tr j).m.n) (qB (tr j).T t) (a.eval (.tmp t)):=by
 have g0:j<ops.size:=(Ph.1 ho).1;have⟨k,hk,hv,hw,H⟩:=h.tmp t ht;have a0:k<=j:=by
  rcases H with rfl|⟨o',hL,b0,hd⟩;·omega
  refine Ty λhc=>?_;have i0:k-1≠j:=λe=>hj (e ▸ hL);rcases c.ord.apart j (k-1) o o' ho b0 (by omega)with hr|⟨h1,_⟩;·exact hj (hr.qg h.closed hL)
  ·grind
 have hT:qB (tr j).T t=qB (tr k).T t:=c.Cs j a0 (by omega) λi oi h1 h2 d0 hd=>by
  rcases c.ord.apart i j oi o d0 ho h2 with hr|⟨_,h3⟩
  ·have:=hr.listed h.closed (λo' b0=>by grind);grind
  ·grind
 rw[hT];exact hv.mono (Sg.Gh (λ_ _ x=>x) (c.mono j a0 (by omega)).1)
theorem Inv.DI(c:Ctx E P call ops nt tr)(h:Inv E P call ops nt tr σ0 w0 ds L σ a w){j:Nat}{o:Oper}(hj:¬L j)(ho:ops[j]?=some o){v v':Φ}(hT:(tr (j+1)).T=put (tr j).T o.dst v)
  {σ':Sg} (hle:σ.le σ') (hv:bE (σ'.cut (tr (j+1)).m.n) v v'):∀t,t<nt->∃k,k<=ops.size/\bE (σ'.cut (tr k).m.n) (qB (tr k).T t) ((a.put o.dst v').eval (.tmp t))/\
   (∀i H,(i=j\/L i)->ops[i]?=some H->H.dst=some t->i<k)/\(k=0\/∃H,(k-1=j\/L (k-1))/\ops[k-1]?=some H/\H.dst=some t):=by
 intro t ht;have e0:j<ops.size:=(Ph.1 ho).1;by_cases hd:o.dst=some t
 ·refine⟨j+1,by omega,?_,?_,.inr ⟨o,.inl rfl,ho,hd⟩⟩
  ·rw[hT,hd,GF,Tf rfl];have:(a.put (some t) v').eval (.tmp t)=v':=by simp[Act.put,Act.eval,h.Tj,ht]
   grind
  rintro i H (rfl|hL) d0 b0;·omega
  refine Ty λhc=>?_;rcases c.ord.apart j i o H ho d0 (by omega)with hr|⟨h1,_⟩;·exact hj (hr.qg h.closed hL)
  exact h1 t b0 (by unfold jg;rw[hd];simp)
 have⟨k,hk,hv,hw,a0⟩:=h.tmp t ht;refine⟨k,hk,?_,?_,a0.imp id (λ⟨H,x,y,z⟩=>⟨H,.inr x,y,z⟩)⟩;·rw[Act.eval_put (λd b0 he=>by grind)];exact hv.mono (Sg.Gh hle (Ox _))
 ·grind
end
end
section
section
variable {E:Env} {P:Program} {call:aK} {ops:Array Oper} {nt:Nat} {tr:Nat->Fr} {σ0 σ:Sg} {w0 w:World} {ds:List Deferred} {L:Nat->Prop} {a:Act}
theorem put_defers(a:Act)(dst:Option Tmp)(v:Φ):(a.put dst v).defers=a.defers:=by cases dst <;>rfl
theorem Ds(a:Act)(dst:Option Tmp)(v:Φ):(a.put dst v).tmps.size=a.tmps.size:=by cases dst <;>simp[Act.put]
theorem Inv.vM(h:Inv E P call ops nt tr σ0 w0 ds L σ a w){j:Nat}{o:Oper}(ho:ops[j]?=some o)(a0:∀e∈o.after,Region.binds .any e->L e.on):CK ops (λi=>i=j\/L i):=by
 rintro i o' H (rfl|hL) e he hb;·grind
 exact .inr (h.closed i o' H hL e he hb)
theorem Inv.same(c:Ctx E P call ops nt tr)(h:Inv E P call ops nt tr σ0 w0 ds L σ a w){j:Nat}{o:Oper}(hj:¬L j)(ho:ops[j]?=some o)(a0:∀e∈o.after,Region.binds .any e->L e.on)
  {v v':Φ} (hT:(tr (j+1)).T=put (tr j).T o.dst v) (hb:¬P4 E call ops tr j) (hv:bE (σ.cut (tr (j+1)).m.n) v v'):
  Inv E P call ops nt tr σ0 w0 ds (λi=>i=j\/L i) σ (a.put o.dst v') w where
 lt:=by
  rintro i (rfl|hL);·grind
  ·exact h.lt i hL
 closed:=h.vM ho a0
 Tj:=by rw[Ds];exact h.Tj
 defs:=by rw[put_defers];exact h.defs
 tmp:=h.DI c hj ho hT (λ_ _ x=>x) hv
 Wz:=λk hk hw=>h.Wz k hk λb H=>(hw b H).trans ⟨λx=>x.resolve_left (λe=>hb (e ▸ H)),.inr⟩
 rT:=λb i hb=>(h.rT b i hb).imp id λ⟨q,x,y⟩=>⟨q,.inr x,y⟩
 base:=h.base
 new:=h.new
 hle:=h.hle
 heap:=h.heap
 os:=h.os
 tape:=h.tape
 output:=h.output
 lz:=h.lz
theorem Inv.Lk(c:Ctx E P call ops nt tr)(h:Inv E P call ops nt tr σ0 w0 ds L σ a w){j:Nat}{o:Oper}(hj:¬L j)(ho:ops[j]?=some o)(a0:∀e∈o.after,Region.binds .any e->L e.on)
  (hp:mn o.op=false):∀b,P4 E call ops tr b->(b<j↔L b):=by
 intro b hb;have H:=(c.bar hb).1;rcases qY H j o ho with rfl|h1|h1|h1;·grind
 ·grind
 ·have:=h1.lt c.ord.lt;exact⟨λx=>by omega,λx=>absurd (h1.qg h.closed x) hj⟩
 exact⟨λ_=>h1.listed h.closed (λo' b0=>by grind),λ_=>h1.lt c.ord.lt⟩
theorem Inv.effect(c:Ctx E P call ops nt tr)(h:Inv E P call ops nt tr σ0 w0 ds L σ a w){j:Nat}{o:Oper}(hj:¬L j)(ho:ops[j]?=some o)(z0:∀e∈o.after,Region.binds .any e->L e.on)
  (hp:mn o.op=false) {v v':Φ} {m:M} {τ:Sg} {w':World} (a0:Ev P (σ.cut (tr j).m.n) {(tr j).m with low:=(tr j).m.n} w τ m w') (hv:bE τ v v')
  (v0:tr (j+1)={T:=put (tr j).T o.dst v,m:={m with low:=min (tr j).m.low m.low}}) (hq:(tr j).m.n<=m.low\/(gR ops j/\P4 E call ops tr j)):
  ∃σ',Inv E P call ops nt tr σ0 w0 ds (λi=>i=j\/L i) σ' (a.put o.dst v') w':=by
 have d1:j<ops.size:=(Ph.1 ho).1;have e1:(tr (j+1)).m.n=m.n:=by rw[v0]
 have G0:∀b,(tr (j+1)).m.get b=m.get b:=by intro b;rw[v0];rfl
 have H0:(tr (j+1)).m.low<=m.low:=by grind
 have hN:=(c.mono (i:=j+1) ops.size (by omega) (Ox _)).2;have P0:(tr j).m.n<=m.n:=a0.Lc;have I0:∀b i,σ b=some i->¬((tr j).m.n<=b/\b<m.n):=by
  rintro b i H ⟨h1,h2⟩;rcases h.rT b i H with h3|⟨q,r0,h3,h4⟩;·have:=(c.mono (i:=0) j (by omega) (by omega)).1;omega
  have A0:=h.lt q r0;rcases QS q j with J0|rfl|J0;·have:=(c.mono (i:=q+1) j (by omega) (by omega)).1;omega
  ·grind
  have:=(c.mono (i:=j+1) q (by omega) (by omega)).1;omega
 have g1:∀b i,τ b=some i->b<(tr j).m.n->σ b=some i:=by
  intro b i H K0;cases hs:(σ.cut (tr j).m.n) b with
  |some i'=>have:=a0.ext b i' hs;rw[H]at this;cases this;exact(Sg.dI.1 hs).2
  |none=>
   have:=(a0.new b i H hs).1;grind
 have B0:∀b i,τ b=some i->b<m.n:=a0.vY.rT;let σ':Sg:=λb=>if(tr j).m.n<=b/\b<m.n then τ b else σ b
 have hle:σ.le σ':=by
  intro b i H;grind
 have e0:∀k,m.n<=k->τ.le (σ'.cut k):=by
  intro k hk b i H;have K0:=B0 b i H;rw[Sg.dI];grind
 have k0:∀b i,σ' b=some i->(((tr j).m.n<=b/\b<m.n)/\τ b=some i)\/(¬((tr j).m.n<=b/\b<m.n)/\σ b=some i):=by
  grind
 have j1:=h.Lk c hj ho z0 hp;refine⟨σ',?_⟩;constructor
 ·rintro i (rfl|hL);·grind
  exact h.lt i hL
 ·exact h.vM ho z0
 ·rw[Ds];exact h.Tj
 ·rw[put_defers];exact h.defs
 ·exact h.DI c hj ho (by rw[v0]) hle (hv.mono (by grind))
 ·
  intro k hk hw;by_cases l0:P4 E call ops tr j
  ·
   have n0:j<k:=(hw j l0).2 (.inl rfl);have L0:=(c.bar l0).1;have C0:∀b i,σ b=some i->b<(tr j).m.n:=by
    intro b i H;rcases h.rT b i H with h3|⟨q,r0,h3,h4⟩;·have:=(c.mono (i:=0) j (by omega) (by omega)).1;omega
    have A0:=h.lt q r0;have⟨oq,D0⟩:=Ba (ops:=ops) A0;rcases qY L0 q oq D0 with rfl|h5|h5|h5;·grind
    ·have:=(c.uM D0 h5).1;omega
    ·have:=h5.lt c.ord.lt;have:=(c.mono (i:=q+1) j (by omega) (by omega)).1;omega
    exact absurd (h5.qg h.closed r0) hj
   have E0:∀b,j+1<=b->b<k->¬P4 E call ops tr b:=by
    grind
   have a1:=c.qz k (show j+1<=k by omega) hk E0;have N0:=(c.mono (i:=j+1) k (by omega) hk).1;have heq:∀b i,(σ'.cut (tr k).m.n) b=some i->τ b=some i:=by
    intro b i H;rw[Sg.dI]at H;rcases k0 b i H.2 with⟨_,h1⟩|⟨_,h1⟩;·exact h1
    exact a0.ext b i (Sg.dI.2 ⟨C0 b i h1,h1⟩)
   have g0:∀b i,τ b=some i->(tr k).m.get b=m.get b:=by
    grind
   have hs:=a0.vY;refine⟨λb i H=>(Sg.dI.1 H).1,λb i H=>?_,λb i H=>hs.lt b i (heq b i H),λb b' i i' H s0 hd o0=>?_,λg hg=>e0 _ (by omega) g _ (hs.lz g hg)⟩;·rw[g0 b i (heq b i H)];exact(hs.obj b i (heq b i H)).aV (e0 _ (by omega)) rfl
   ·rw[g0 b i (heq b i H)]at hd;rw[g0 b' i' (heq b' i' s0)]at o0;exact hs.inj b b' i i' (heq b i H) (heq b' i' s0) hd o0
  ·
   have k1:(tr j).m.n<=m.low:=hq.resolve_right (λx=>l0 x.2);have O0:∀b,P4 E call ops tr b->(b<k↔L b):=λb H=>(hw b H).trans ⟨λx=>x.resolve_left (λe=>l0 (e ▸ H)),.inr⟩;have hA:=h.Wz k hk O0;have y0:∀B,B<w.heap.size->w'.heap[B]?=w.heap[B]?:=λB hB=>a0.heap B hB λb i H _=>by have:=(Sg.dI.1 H).1;omega
   have u0:(σ.cut (tr k).m.n).le (σ'.cut (tr k).m.n):=Sg.Gh hle (Ox _);have d0:∀b i,(σ'.cut (tr k).m.n) b=some i->(((tr j).m.n<=b/\b<m.n)/\τ b=some i/\j<k)\/(σ.cut (tr k).m.n) b=some i:=by
    intro b i H;rw[Sg.dI]at H;rcases k0 b i H.2 with⟨h1,h2⟩|⟨_,h2⟩;·refine .inl ⟨h1,h2,?_⟩;refine Ty λhc=>?_;have:=(c.mono (i:=k) j (by omega) (by omega)).1;omega
    exact .inr (Sg.dI.2 ⟨H.1,h2⟩)
   have g0:j<k->∀b,b<m.n->(tr k).m.get b=m.get b:=by
    intro n0 b H
    rw[c.qz k (show j+1<=k by omega) hk (λb h1 h2 h3=>by
     grind) b (by grind),G0]
   have hs:=a0.vY;have m0:∀b i,(tr j).m.n<=b->τ b=some i->w.heap.size<=i.cY:=by
    intro b i h1 h2;have j0:(σ.cut (tr j).m.n) b=none:=by
     cases hx:(σ.cut (tr j).m.n) b with
     |none=>rfl
     |some i'=>have:=(Sg.dI.1 hx).1;omega
    rcases(a0.new b i h2 j0).2 with h3|⟨b0,i0,h3,_,h5⟩;·exact h3
    have:=(Sg.dI.1 h3).1;omega
   refine⟨λb i H=>(Sg.dI.1 H).1,λb i H=>?_,λb i H=>?_,λb b' i i' H s0 hd o0 he=>?_,λg hg=>u0 g _ (hA.lz g hg)⟩
   ·rcases d0 b i H with⟨h1,h2,n0⟩|h1;·rw[g0 n0 b h1.2];have N0:=(c.mono (i:=j+1) k (by omega) hk).1;exact(hs.obj b i h2).aV (e0 _ (by omega)) rfl
    exact(hA.obj b i h1).aV u0 (y0 _ (hA.lt b i h1))
   ·rcases d0 b i H with⟨_,h2,_⟩|h1;·exact hs.lt b i h2
    ·have:=hA.lt b i h1;grind
   ·rcases d0 b i H with⟨h1,h2,n0⟩|h1 <;>rcases d0 b' i' s0 with⟨p0,F0,c1⟩|p0
    ·rw[g0 n0 b h1.2]at hd;rw[g0 n0 b' p0.2]at o0;exact hs.inj b b' i i' h2 F0 hd o0 he
    ·have:=m0 b i h1.1 h2;have:=hA.lt b' i' p0;omega
    ·have:=m0 b' i' p0.1 F0;have:=hA.lt b i h1;omega
    exact hA.inj b b' i i' h1 p0 hd o0 he
 ·intro b i H;rcases k0 b i H with⟨h1,_⟩|⟨_,h1⟩;·grind
  exact(h.rT b i h1).imp id λ⟨q,x,y⟩=>⟨q,.inr x,y⟩
 ·exact λb i H=>hle b i (h.base b i H)
 ·intro b i H h0;rcases k0 b i H with⟨h1,h2⟩|⟨_,h2⟩
  ·have j0:(σ.cut (tr j).m.n) b=none:=by
    cases hx:(σ.cut (tr j).m.n) b with
    |none=>rfl
    |some i'=>have:=(Sg.dI.1 hx).1;omega
   have l1:=(c.mono (i:=0) j (by omega) (by omega)).1;refine⟨by omega,?_⟩;have hh:=h.hle;rcases(a0.new b i h2 j0).2 with h3|⟨b0,i0,h3,h4,h5⟩;·grind
   ·have h3:=(Sg.dI.1 h3).2;cases q0:σ0 b0 with
    |some i1=>
     have:=h.base b0 i1 q0;grind
    |none=>
     rcases(h.new b0 i0 h3 q0).2 with h6|⟨b1,i1,h6,h7,h8⟩;·grind
     ·grind
  exact h.new b i h2 h0
 ·have:=h.hle;have:=a0.hle;omega
 ·intro B hB hc;have hh:=h.hle;rw[<-h.heap B hB hc];refine a0.heap B (by omega) λb i H he=>?_;have H:=(Sg.dI.1 H).2;cases q0:σ0 b with
  |some i1=>
   have:=h.base b i1 q0;grind
  |none=>
   rcases(h.new b i H q0).2 with h6|⟨b1,i1,h6,h7,h8⟩;·omega
   ·grind
 ·exact a0.os.trans h.os
 ·exact a0.tape.trans h.tape
 ·exact a0.output.trans h.output
 exact h.lz
end
end
end Go.D
