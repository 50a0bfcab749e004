/- The tie of the row WorksKeeps .. -/
import Derived.Test.YthffgohpkjpkbaaGreatDoorCards
import Derived.SevenTiedAt
import Derived.LaidSub
import Derived.LaidOnce
import Derived.OrdersIn
import Derived.RangeFuncLeaves
import Derived.WalkKit
set_option maxHeartbeats 1000000
set_option linter.defProp false
noncomputable section
namespace Go
variable{p:Prop}
theorem Z(h:p:=by omega):p:=h
theorem J(h:p:=by grind):p:=h
theorem bv(h:p:=by kernel_rfl):p:=h
theorem ce(h:p:=by decide):p:=h
theorem co(h:p:=by simp):p:=h
theorem dg(h:p:=by simp_all):p:=h
theorem el(h:p:=by assumption):p:=h
theorem ft(h:p:=by simp[Op.operands]):p:=h
abbrev gc:=@cond_true
abbrev ge:=@decide_eq_decide
abbrev R8:=@Nat.le_refl
abbrev QC:=@List.getElem?_eq_getElem
abbrev Z0:=@of_decide_eq_false
abbrev G4:=@Bool.and_eq_true
abbrev Nr:=@List.getElem?_eq_some_iff
abbrev Mv:=@of_decide_eq_true
abbrev QP:=@List.mem_of_getElem?
abbrev Q7:=@List.getElem?_cons_succ
abbrev XW:=@List.getElem?_cons_zero
abbrev ND:=@if_neg
abbrev UG:=@if_pos
abbrev L6:=@Nat.eq_of_beq_eq_true
abbrev I2:=@cond_false
abbrev R7:=@Option.map_eq_some_iff
abbrev NF:=@run_underlying
abbrev Rr:=@Result.andThen_ok
abbrev DS:=@Option.some.injEq
abbrev Vw:=@Nat.zero_le
abbrev VM:=@List.mem_cons
abbrev Z8:=@List.take_add_one
abbrev F4:=@Option.map_some
abbrev UD:=@Sem.run_bind
abbrev RO:=@decide_eq_true
abbrev DO:=@Bool.true_and
abbrev HO:=@Bool.not_eq_false'
abbrev MI:=@List.getElem?_of_mem
abbrev C8:=@decide_eq_false
abbrev Ja:=@List.mem_map
abbrev SV:=@List.filter_cons
abbrev Jg:=@Nat.le_of_ble_eq_true
abbrev MN:=@List.map_append
abbrev IT:=@List.filter_append
abbrev SB:=@List.all_eq_true
abbrev yC:=@Bool.not_eq_true'
abbrev No:=@Bool.not_true
abbrev MO:=@Nat.mul_le_mul_right
abbrev IF:=@List.mem_append
abbrev Jf:=@Nat.zero_add
abbrev W8:=@List.take_length
abbrev MM:=@List.take_of_length_le
abbrev RB:=@Sem.run_pure
abbrev Xo:=@decide_eq_true_eq
abbrev DJ:=@List.mem_cons_of_mem
abbrev I8:=@List.length_append
abbrev Mq:=@List.mem_cons_self
abbrev Ax:=@Prod.mk.injEq
abbrev DA:=@List.not_mem_nil
abbrev NZ:=@List.append_assoc
abbrev Vr:=@List.pairwise_iff_getElem
abbrev NC:=@List.append_nil
abbrev Ng:=@Classical.byContradiction
abbrev ME:=@Bool.not_false
abbrev N3:=@Array.getElem?_eq_some_iff
abbrev RV:=@List.mem_singleton
abbrev Rq:=@List.length_cons
abbrev S0:=@Nat.ble_eq_true_of_le
abbrev Ns:=@Bool.false_and
abbrev W9:=@Option.bind_eq_some_iff
abbrev Vc:=@Bool.and_false
abbrev NG:=@Bool.false_or
abbrev Uc:=@List.filter_eq_self
abbrev MT:=@Array.length_toList
abbrev Uk:=@List.mem_filter
abbrev Np:=@Option.map_none
abbrev ZO:=@List.length_take
abbrev Jd:=@Bool.or_false
abbrev S1:=@Nat.ne_of_beq_eq_false
abbrev My:=@Option.toList_some
abbrev Mf:=@List.drop_zero
abbrev Jy:=@List.take_append_drop
abbrev X0:=@List.length_filter_le
abbrev XM:=@List.getElem?_take_of_lt
abbrev IM:=@Nat.add_mul
abbrev Uo:=@List.getElem?_map
abbrev UY:=@Bool.and_true
abbrev Xp:=@Nat.le_trans
abbrev Xx:=@List.ext_getElem?
abbrev Xh:=@List.length_map
abbrev ZV:=@List.pairwise_cons
abbrev Gj:=@List.filter_nil
abbrev Sa:=@List.getElem?_drop
abbrev JQ:=@List.getElem?_eq_none
abbrev UM:=@List.map_cons
abbrev TY:=@Bool.true_or
abbrev Xa:=@List.drop_drop
abbrev Nk:=@Nat.beq_refl
abbrev TA:=@List.flatMap_append
abbrev Mr:=@List.drop_eq_getElem_cons
abbrev U7:=@List.any_eq_true
abbrev RM:=@Option.bind_some
abbrev UP:=@Bool.or_eq_false_iff
abbrev NS:=@Bool.or_true
abbrev NI:=@Array.getD_eq_getD_getElem?
abbrev TL:=@Int.mul_nonneg
abbrev Gv:=@List.pairwise_append
abbrev XA:=@List.filter_eq_nil_iff
abbrev Nw:=@List.cons_append
abbrev OZ:=@Array.getElem?_toList
abbrev OV:=@List.getElem?_append_right
abbrev R3:=@if_true
abbrev JW:=@List.length_nil
abbrev Xi:=@List.getElem?_set_ne
abbrev I5:=@Array.eq_empty_of_size_eq_zero
abbrev RJ:=@List.eq_nil_of_length_eq_zero
abbrev SF:=@List.take_succ_cons
abbrev US:=@List.mem_map_of_mem
abbrev Nc:=@Nat.le_succ
abbrev Z1:=@Nat.lt_of_lt_of_le
abbrev SU:=@decide_eq_false_iff_not
abbrev Qd:=@Array.ext'
abbrev At:=@Option.getD_some
abbrev OX:=@Nat.add_zero
abbrev HY:=@Nat.one_mul
abbrev M3:=@List.getElem?_set_self
abbrev J3:=@List.any_eq_false
abbrev Xs:=@List.getElem?_append_left
abbrev VS:=@Array.getElem?_modify
abbrev Va:=@List.length_drop
abbrev TB:=@Nat.blt_eq
abbrev Vx:=@List.filter_congr
abbrev Nx:=@List.pairwise_map
abbrev TJ:=@Nat.lt_trichotomy
abbrev QA:=@Bool.or_eq_true
abbrev UZ:=@List.drop_succ_cons
abbrev Vk:=@Nat.zero_mul
abbrev VD:=@Nat.mod_eq_of_lt
abbrev Px:=@List.mem_iff_getElem?
abbrev N2:=@List.take_zero
abbrev Se:=@List.mem_of_find?_eq_some
abbrev T7:=@Nat.mod_lt
abbrev Rf:=@Int.mul_le_mul_of_nonneg_right
abbrev M5:=@Int.mul_eq_zero
abbrev Ud:=@List.eq_nil_iff_forall_not_mem
abbrev zm:=@List.take_take
abbrev t8:=@List.isEmpty_iff
abbrev Rz:=@List.getElem?_take
abbrev T5:=@List.map_nil
abbrev Qi:=@Bool.eq_iff_iff
abbrev C7:=@List.length_set
abbrev Xc:=@Bool.and_self
abbrev Hc:=@Int.mul_nonpos_of_nonneg_of_nonpos
abbrev P3:=@Array.getElem?_eq_getElem
abbrev NA:=@List.mem_append_left
abbrev Mg:=@List.findIdx?_eq_some_iff_getElem
abbrev ID:=@Int.mul_pos
abbrev IJ:=@Nat.sub_zero
abbrev XV:=@Option.isSome_iff_exists
abbrev Oz:=@List.range_succ
abbrev ZZ:=@Nat.min_eq_left
abbrev MU:=@List.take_left'
abbrev Ry:=@List.mem_filterMap
abbrev NL:=@List.drop_eq_nil_of_le
abbrev OD:=@Nat.sub_mul
abbrev Rs:=@Bool.eq_false_iff
abbrev WZ:=@List.flatMap_cons
abbrev Nt:=@List.size_toArray
abbrev QJ:=@List.mem_range
abbrev UQ:=@Nat.mul_le_mul
abbrev Uh:=@Array.getElem?_setIfInBounds
abbrev Ip:=@List.filterMap_append
abbrev Je:=@List.map_map
abbrev Ha:=@List.filterMap_cons
abbrev JH:=@List.all_append
abbrev RQ:=@Nat.min_le_left
abbrev OM:=@Option.isNone_none
abbrev Io:=@List.find?_eq_none
abbrev O6:=@Array.getElem?_replicate
abbrev PE:=@Array.foldl_toList
abbrev Vd:=@List.filterMap_nil
abbrev Uv:=@Int.le_of_lt
abbrev Dx:=@List.set_cons_succ
abbrev Z3:=@List.drop_take
abbrev VH:=@Option.map_eq_none_iff
abbrev Mt:=@Array.getElem?_push_lt
abbrev Qh:=@List.perm_middle
abbrev OO:=@Nat.lt_succ_self
abbrev NQ:=@List.range'_succ
abbrev PZ:=@List.mem_append_right
abbrev LR:=@Classical.choose_spec
abbrev U9:=@List.eraseIdx_eq_take_drop_succ
abbrev Xl:=@List.filter_map
abbrev WY:=@List.range_eq_range'
abbrev G6:=@List.foldl_cons
abbrev Sd:=@Int.mul_le_mul_of_nonneg_left
abbrev FD:=@List.toList_toArray
abbrev Pq:=@List.filter_sublist
abbrev Vf:=@Array.toList_append
abbrev LU:=@Nat.sub_add_cancel
abbrev ML:=@List.map_take
abbrev DQ:=@List.nodup_append
abbrev Ul:=@List.mem_or_eq_of_mem_set
abbrev Mb:=@List.findIdx?_eq_none_iff
abbrev R2:=@Array.mapM_eq_mapM_toList
abbrev TR:=@List.getElem?_eq_none_iff
abbrev Xd:=@Nat.sub_self
abbrev Xz:=@List.map_set
abbrev RR:=@List.set_eq_of_length_le
abbrev OB:=@Bool.not_not
abbrev U0:=@List.mem_flatMap
abbrev RT:=@List.drop_append
abbrev PC:=@Nat.succ_mul
abbrev MD:=@Nat.min_self
abbrev SH:=@List.length_filterMap_le
abbrev JX:=@Int.lt_or_le
abbrev PI:=@Nat.mod_self
abbrev Nq:=@Int.mul_emod
abbrev VQ:=@Nat.min_le_right
abbrev BJ:=@List.length_eq_zero_iff
abbrev Ms:=@Nat.add_sub_cancel_left
abbrev VI:=@List.find?_some
abbrev N5:=@Int.le_refl
abbrev tG:=@Int.mul_neg
abbrev IZ:=@List.mem_of_mem_take
abbrev OC:=@List.map_drop
abbrev ZN:=@List.take_set
abbrev Dd:=@List.drop_set
abbrev V2:=@List.all_cons
abbrev FE:=@List.length_pos_iff
abbrev Rt:=@Nat.add_sub_cancel'
abbrev ZX:=@Nat.add_sub_cancel
abbrev Q3:=@List.any_map
abbrev UL:=@Nat.lt_or_ge
abbrev Fl:=@Nat.lt_of_le_of_lt
abbrev QR:=@List.append_of_mem
abbrev NR:=@List.zip_cons_cons
abbrev HZ:=@Option.isNone_some
abbrev Q4:=@Int.mul_zero
abbrev Uu:=@Int.emod_lt_of_pos
abbrev Pc:=@Nat.mul_one
abbrev UU:=@Sem.run_ite
abbrev Sv:=@Int.neg_mul
abbrev Ω(b o:Nat):Value:=.pointer (some ⟨b,o,none⟩)
abbrev Hr(b o n c:Nat):Value:=.slice (some ⟨b,o,none⟩) n c
abbrev O:=Value
abbrev ν:=List Value
abbrev Z9:Value:=.slice none 0 0
abbrev VT:Value:=.bool true
abbrev P6:Value:=.bool false
abbrev I:=Value.int .i64
end Go
namespace Go.Proofs.YthffgohpkjpkbaaGreatDoor
open Go
set_option maxRecDepth 100000
def ac8:Rows.worksKeepsRow.laidByTextAt .later Tryz.pinned [.data,.data,.data,.data,.sentinel,.sentinel,.data,.data,.pinned] true:=
 OpenClaim.laidByTextAt_pinned rfl rfl (Program.laidByTextLater_by_one 90 8 65 bv bv bv bv bv bv (λ_ _=>bv)) rfl rfl rfl rfl (λy F e=>by simp only[Rows.worksKeepsRow,NR,List.zip_nil_right,VM,List.mem_nil_iff,or_false]at F;rcases F with rfl |rfl |rfl |rfl |rfl |rfl |rfl |rfl |rfl <;>first |(cases e;done) |exact⟨bv,bv⟩) (by unfold Program.listedFits;rw[show Tryz.pinned.checked.prog.headLifts.contains "ownunsafe" =false by kernel_rfl];kernel_rfl)
end Go.Proofs.YthffgohpkjpkbaaGreatDoor
namespace Go.D
open Go
variable{s v' x:O}{F H vs:ν}{a:Addr}{b c e h n nt:Nat}{gr:Option (Nat×Nat×Nat)}{t ty:TypeId}{args:Array O}
section
inductive Tr (α:Type) where
 |e
 |n (v:Option α) (l r:Tr α)
 deriving Inhabited
def Tr.get{α:Type}(t:Tr α):Nat->Option α:=
 Tr.rec (motive:=λ_=>Nat->Option α) (λ_=>none)
  (λv _ _ F gr i=>bif Nat.beq i 0 then v else bif Nat.beq ((i-1)%2) 0 then F ((i-1)/2)else gr ((i-1)/2)) t
theorem Tr.CK{α:Type}(i:Nat):(Tr.e:Tr α).get i=none:=rfl
theorem Tr.sW{α:Type}(v:Option α)(l r:Tr α):(Tr.n v l r).get 0=v:=rfl
theorem Tr.my{α:Type}(v:Option α)(l r:Tr α)(i:Nat):(Tr.n v l r).get (i+1)=bif Nat.beq (i%2) 0 then l.get (i/2)else r.get (i/2):=rfl
def Tr.single{α:Type}(x:α):Nat->Nat->Tr α
 |0,_=> .n (some x) .e .e
 |_+1,0=> .n (some x) .e .e
 |f+1,i+1=>bif Nat.beq (i%2) 0 then .n none (single x f (i/2)) .e else .n none .e (single x f (i/2))
def Tr.set{α:Type}(t:Tr α):Nat->α->Tr α:=
 Tr.rec (motive:=λ_=>Nat->α->Tr α) (λi x=>Tr.single x i i)
  (λv l r sl F i x=>bif Nat.beq i 0 then .n (some x) l r else bif Nat.beq ((i-1)%2) 0 then .n v (sl ((i-1)/2) x) r else .n v l (F ((i-1)/2) x)) t
theorem Tr.P1{α:Type}(i:Nat)(x:α):(Tr.e:Tr α).set i x=Tr.single x i i:=rfl
theorem Tr.BC{α:Type}(v:Option α)(l r:Tr α)(x:α):(Tr.n v l r).set 0 x=.n (some x) l r:=rfl
theorem Tr.BD{α:Type}(v:Option α)(l r:Tr α)(i:Nat)(x:α):(Tr.n v l r).set (i+1) x=bif Nat.beq (i%2) 0 then .n v (l.set (i/2) x) r else .n v l (r.set (i/2) x):=rfl
structure Fd where
 ty:Nat
 off:Nat
 size:Nat
 blank:Bool
inductive Kd where
 |b |i |s
inductive TD where
 |bool
 |int (k:IntKind)
 |str
 |ptr (e:Nat)
 |slice (e:Nat)
 |array (n e:Nat)
 |map (k e:Nat)
 |struct (fs:List Fd)
 |func
 |iface (empty:Bool)
 |other
structure TI where
 d:TD
 size:Nat
 bytes:Nat
 es:Nat
 zero:Option O
 cmp:Option (List Kd)
structure LO where
 fn:Func
 pre:List Code
 id:Nat
 mf:Oper
 de:Oper
 post:Code
structure Wa where
 fn:Func
 id:Nat
 ops:Array Oper
 rest:Code
def nP:List Code->Code->Code
 |[],c=>c
 |a::l,c=> .seq a (nP l c)
structure Env where
 ty:Tr TI
 fn:Tr Func
 G:Nat
 df:Tr LO
 cl:Tr Wa
def TD.agg:TD->Bool
 |.struct _ |.array _ _=>true
 |_=>false
def jM(P:Program):TypeDesc->TD
 |.bool=> .bool
 |.int k=> .int k
 |.string=> .str
 |.pointer e=> .ptr e
 |.slice e=> .slice e
 |.array n e=> .array n e
 |.map k e=> .map k e
 |.struct F=> .struct (F.toList.map λf=>⟨f.type,f.offset,((P.info? f.type).map (·.size)).getD 0,f.name== "_" ||(P.info? f.type).isNone⟩)
 |.func _ _ _=> .func
 |.interface ms=> .iface ms.isEmpty
 |_=> .other
def kinds(g:TypeId->Option (List Kd)):List Field->Nat->Option (List Kd)
 |[],_=>some []
 |f::H,off=>if f.name= "_" then none else if f.offset=off then
   match g f.type with
   |some F=>match kinds g H (off+F.length)with
    |some r=>some (F++r)
    |none=>none
   |none=>none
  else none
def re(F:List Kd):Nat->List Kd
 |0=> []
 |n+1=>F++re F n
def sized(P:Program)(t:TypeId)(r:Option (List Kd)):Option (List Kd):=
 match r,P.info? t with
 |some F,some i=>if F.length=i.size then some F else none
 |_,_=>none
def oz(P:Program):Nat->TypeId->Option (List Kd)
 |0,_=>none
 |d+1,t=>sized P t (match P.underlying t with
  |some .bool=>some [.b]
  |some (.int _)=>some [.i]
  |some .string=>some [.s]
  |some (.struct H)=>if P.stoodInHeld t then none else kinds (oz P d) H.toList 0
  |some (.array n e)=>match oz P d e with
   |some F=>if n*F.length<=64 then some (re F n)else none
   |none=>none
  |_=>none)
def CS(P:Program):TypeDesc->Nat
 |.slice e |.array _ e=>((P.info? e).map (·.size)).getD 0
 |_=>0
def LB(P:Program)(t:TypeId):TypeDesc->Option (List Kd)
 |.struct _ |.array _ _=>if P.eqGuardType P.depth t then none else oz P 12 t
 |_=>none
def XC(P:Program)(t:TypeId):Option TI:=do
 let i<-P.info? t
 let u<-P.underlying t
 some {d:=jM P u,size:=i.size,bytes:=i.bytes,es:=CS P u,zero:=i.zero,cmp:=LB P t u}
inductive Ex where
 |normal
 |exit (id:Nat)
 |ret
 deriving DecidableEq,Inhabited
structure Dm where
 T:Tr O
 ps:Array Tmp
 assign:Code
 body:Code
 st:LoopState
 Aq:Option Ex
 G:Nat
 deriving Inhabited
inductive Ob where
 |dead
 |cells (c:ν) (e:TypeId) (g:Option Nat)
 |map (es:List MapEntry) (clock:Nat)
 |loop (r:Dm)
 |ro (c:ν)
 deriving Inhabited
structure M where
 st:Tr Ob
 n:Nat
 low:Nat
 deriving Inhabited
def M.get(m:M)(b:Nat):Ob:=bif Nat.blt b m.n then(m.st.get b).getD .dead else .dead
def M.push(m:M)(o:Ob):M:={m with st:=m.st.set m.n o,n:=m.n+1}
def M.set(m:M)(b:Nat)(o:Ob):M:={m with st:=m.st.set b o,low:=min m.low b}
def bL:O->Bool
 |.bool _ |.int _ _ |.float _ _ |.complex _ _ _ |.string _ |.nilFunc |.nilIface |.pointer none |.map none |.chan none |.slice none 0 0=>true
 |.func (.func _) a b=>a.toList.isEmpty && b.toList.isEmpty
 |.iface _ (.agg cs)=>cs.toList.isEmpty
 |_=>false
def ep:O->Bool
 |.agg cs=>cs.toList.all bL
 |v=>bL v
def aZ:O->Bool
 |.tuple F=>F.toList.all ep
 |v=>ep v
def Tr.wD{α:Type}:Tr α->Nat->Nat->List (Nat×α)
 |.e,_,_=> []
 |.n v l r,a,b=>(match v with |some x=> [(b,x)] |none=> [])++(l.wD (2*a) (a+b)++r.wD (2*a) (2*a+b))
def vH(n G:Nat):Operand->Bool
 |.tmp t=>Nat.blt t n
 |.const v=>ep v
 |.global g=>Nat.blt g G
 |.func _=>true
def fw(n G:Nat)(o:Oper):Bool:=o.op.operands.toList.all (vH n G) && (match o.dst with |some d=>Nat.blt d n |none=>true)
def fJ(ops:Array Oper)(o:Oper):List Tmp:=
 o.dst.toList++(o.op.operands.toList.filterMap (λ|.tmp t=>some t |_=>none)++(match o.guard with |some (j,_)=>((ops[j]?).bind (·.dst)).toList |none=> []))
def yY(ops:Array Oper):Bool:=
 let b:=Region.before ops
 (ops.toList.zipIdx.all λ(o,j)=>o.after.toList.all (λe=> !Region.binds .any e ||Nat.blt e.on j) &&
  ops.toList.zipIdx.all λ(F,i)=> !(Nat.blt i j) ||(b.getD j 0).testBit i ||
   ((match o.dst with |some d=> !(fJ ops F).contains d |none=>true) && (match F.dst with |some d=> !(fJ ops o).contains d |none=>true)))
def fL:Code->Bool
 |.seq a b=>fL a && fL b
 |.cond _ x y=>fL x && fL y
 |.block _ c |.loop c |.scope c=>fL c
 |.rangeFunc ..=>false
 |_=>true
def dq(n G:Nat):Code->Bool
 |.region _ ops d=>ops.toList.all (fw n G) && (!d ||yY ops)
 |.seq a b=>dq n G a && dq n G b
 |.cond c x y=>vH n G c && (dq n G x && dq n G y)
 |.block _ c |.loop c |.scope c=>dq n G c
 |.rangeFunc f ps a b=>vH n G f && (ps.toList.all (Nat.blt · n) && (dq n G a && dq n G b))
 |_=>true
def nc(G:Nat)(fn:Func):Bool:=
 (match fn.body with |some c=>dq fn.ntmps G c |none=>true) && (fn.name != "runtime.NumGoroutine" &&
 fn.results.toList.all λ|.tmp t=>Nat.blt t fn.ntmps |.cell a _=>Nat.blt a fn.ntmps)
def Env.IA(E:Env):Bool:=
 ((E.ty.wD 1 0).all λp=>(match p.2.zero with |some z=>aZ z |none=>true) &&
  (match p.2.d with |.struct F=>F.all (λf=>match E.ty.get f.ty with |some H=>H.size==f.size |none=>false) |_=>true)) &&
 ((E.fn.wD 1 0).all (λp=>nc E.G p.2) && ((E.df.wD 1 0).all (λp=>nc E.G p.2.fn) && (E.cl.wD 1 0).all λp=>nc E.G p.2.fn))
def Ds:Nat:=58
structure Env.OK(E:Env)(P:Program):Prop where
 st:E.fn.get Ds=none/\E.df.get Ds=none
 ty:∀t ti,E.ty.get t=some ti->XC P t=some ti
 fn:∀f fn,E.fn.get f=some fn->P.funcs[f]?=some fn
 G:E.G=P.globals.size
 df:∀f d,E.df.get f=some d->P.funcs[f]?=some d.fn/\d.fn.body=some (nP d.pre (.seq (.region d.id #[d.mf,d.de] false) d.post))
 cl:∀f d,E.cl.get f=some d->P.funcs[f]?=some d.fn/\d.fn.body=some (.seq (.region d.id d.ops false) d.rest)
 IA:E.IA=true
 mixed:P.follows .mixedOrders=true
def one:O->Bool
 |.agg _ |.tuple _=>false
 |_=>true
def cells:O->ν
 |.agg cs=>cs.toList
 |v=> [v]
noncomputable section
variable (E:Env)
def gX(t:TypeId):Option O:=(E.ty.get t).bind (·.zero)
def cellAt(m:M)(a:Addr):Option O:=
 match m.get a.block with
 |.cells c _ _=>if a.spot.isNone then c[a.off]? else none
 |.ro c=>if a.spot.isNone then(match c[a.off]? with |some v=>bif one v then some v else none |none=>none)else none
 |_=>none
def loadCells(m:M)(a:Addr)(n:Nat):Option (ν):=
 match m.get a.block with
 |.cells c _ _=>bif a.spot.isNone && Nat.ble (a.off+n) c.length then some ((c.drop a.off).take n)else none
 |.ro c=>bif a.spot.isNone && Nat.ble (a.off+n) c.length && ((c.drop a.off).take n).all one then some ((c.drop a.off).take n)else none
 |_=>none
def storeCells(m:M)(a:Addr)(vs:ν):Option M:=
 match m.get a.block with
 |.cells c e g=>
  bif a.spot.isNone && Nat.ble (a.off+vs.length) c.length && vs.all one then
   some (m.set a.block (.cells (c.take a.off++(vs++c.drop (a.off+vs.length))) e g))
  else none
 |_=>none
def loadVar(m:M)(t:TypeId)(a:Addr):Option O:=
 match E.ty.get t with
 |some F=>bif F.d.agg then(loadCells m a F.size).map (λcs=> .agg cs.toArray)else cellAt m a
 |none=>none
def storeVar(m:M)(t:TypeId)(a:Addr)(v:O):Option M:=
 match E.ty.get t with
 |some F=>bif Nat.beq (cells v).length F.size then storeCells m a (cells v)else none
 |none=>none
def newVar(m:M)(t:TypeId)(v:O):O×M:=(.pointer (some ⟨m.n,0,none⟩),m.push (.cells (cells v) t none))
def part(t:TypeId)(cs:ν)(off:Nat):Option O:=
 match E.ty.get t with
 |some F=>bif F.d.agg then(bif Nat.ble (off+F.size) cs.length then some (.agg ((cs.drop off).take F.size).toArray)else none)else cs[off]?
 |none=>none
def Lu:Kd->O->O->Option Bool
 |.b,.bool a,.bool b=>some (a==b)
 |.i,.int k a,.int F b=>if k=F then some (a==b)else none
 |.s,.string a,.string b=>some (a==b)
 |_,_,_=>none
def cM:List Kd->ν->ν->Option Bool
 |[],[],[]=>some true
 |k::F,a::x,b::y=>
  match Lu k a b,cM F x y with
  |some c,some r=>some (c && r)
  |_,_=>none
 |_,_,_=>none
def eq?(t:TypeId)(x y:O):Option Bool:=
 match E.ty.get t with
 |none=>none
 |some F=>
  match F.d,x,y with
  |.bool,.bool a,.bool b=>some (a==b)
  |.int _,.int k a,.int k' b=>if k=k' then some (a==b)else none
  |.str,.string a,.string b=>some (a==b)
  |.struct _,.agg xs,.agg H=>match F.cmp with |some ks=>cM ks xs.toList H.toList |none=>none
  |.array _ _,.agg xs,.agg H=>match F.cmp with |some ks=>cM ks xs.toList H.toList |none=>none
  |.slice _,.slice none _ _,.slice b _ _=>some b.isNone
  |.slice _,.slice (some _) _ _,.slice none _ _=>some false
  |.map _ _,.map none,.map b=>some b.isNone
  |.map _ _,.map (some _),.map none=>some false
  |.func,.nilFunc,.nilFunc=>some true
  |.func,.nilFunc,.func _ _ _=>some false
  |.func,.func _ _ _,.nilFunc=>some false
  |.ptr _,.pointer none,.pointer b=>some b.isNone
  |.ptr _,.pointer (some _),.pointer none=>some false
  |.iface true,.nilIface,.nilIface=>some true
  |_,_,_=>none
def kQ(op:BinOp)(k:IntKind)(a b:Int):Option O:=
 match op with
 |.add=>some (.int k (k.wrap (a+b)))
 |.sub=>some (.int k (k.wrap (a-b)))
 |.mul=>some (.int k (k.wrap (a*b)))
 |.quo=>if b=0 then none else some (.int k (k.wrap (a.tdiv b)))
 |.rem=>if b=0 then none else some (.int k (a.tmod b))
 |.and=>some (.int k (k.wrap (BitVec.ofInt k.bits a &&& BitVec.ofInt k.bits b).toNat))
 |.or=>some (.int k (k.wrap (BitVec.ofInt k.bits a |||BitVec.ofInt k.bits b).toNat))
 |.xor=>some (.int k (k.wrap (BitVec.ofInt k.bits a ^^^ BitVec.ofInt k.bits b).toNat))
 |.andNot=>some (.int k (k.wrap (BitVec.ofInt k.bits a &&& ~~~(BitVec.ofInt k.bits b)).toNat))
 |.eql=>some (.bool (a==b))
 |.neq=>some (.bool (a !=b))
 |.lss=>some (.bool (a < b))
 |.leq=>some (.bool (a<=b))
 |.gtr=>some (.bool (a >b))
 |.geq=>some (.bool (a>=b))
 |_=>none
def J2(op:BinOp)(a b:ByteArray):Option O:=
 match op with
 |.add=>if((a.size+b.size:Nat):Int) >IntKind.i64.max then none else some (.string (a++b))
 |.eql=>some (.bool (a.toList==b.toList))
 |.neq=>some (.bool !(a.toList==b.toList))
 |.lss=>some (.bool (Op.bytesLess a.toList b.toList))
 |_=>none
def bE(op:BinOp)(t:TypeId)(x y:O):Option O:=
 match op,x,y with
 |.shl,.int k a,.int _ b=>if b < 0 then none else some (.int k (k.wrap (a*2 ^ (min b.toNat k.bits))))
 |.shr,.int k a,.int _ b=>if b < 0 then none else some (.int k (a.fdiv (2 ^ (min b.toNat k.bits))))
 |op,.int k a,.int F b=>if k=F then kQ op k a b else none
 |op,.string a,.string b=>J2 op a b
 |.eql,x,y=>(eq? E t x y).map .bool
 |.neq,x,y=>(eq? E t x y).map (λb=> .bool !b)
 |_,_,_=>none
def Dr(op:UnOp)(x:O):Option O:=
 match op,x with
 |.neg,.int k n=>some (.int k (k.wrap (0-n)))
 |.not,.bool b=>some (.bool !b)
 |_,_=>none
def SM(src dst:TypeId)(x:O):Option O:=
 match E.ty.get src,E.ty.get dst,x with
 |some _,some F,.int _ n=>match F.d with |.int k=>some (.int k (k.wrap n)) |_=>none
 |some _,some F,.string s=>match F.d with |.str=>some (.string s) |_=>none
 |_,_,_=>none
def fill(place:Nat->Option (Nat×Nat))(cs:ν):List (Nat×O)->Option (ν)
 |[]=>some cs
 |(i,v)::rest=>
  match place i with
  |none=>none
  |some (off,size)=>
   bif Nat.beq (cells v).length size && Nat.ble (off+size) cs.length then fill place (cs.take off++(cells v++cs.drop (off+size))) rest else none
def bz(t:TypeId)(parts:List (Nat×O)):Option O:=
 match E.ty.get t with
 |none=>none
 |some F=>
  match F.zero,F.d with
  |some z,.struct H=>(fill (λi=>(H[i]?).map λf=>(f.off,f.size)) (cells z) parts).map λcs=> .agg cs.toArray
  |some z,.array _ _=>bif Nat.beq F.es 0 then none else(fill (λi=>some (i*F.es,F.es)) (cells z) parts).map λcs=> .agg cs.toArray
  |_,_=>none
def eg(z:ν):Nat->ν
 |0=> []
 |n+1=>z++eg z n
def aQ(m:M)(t:TypeId)(len:Nat)(parts:List (Nat×O)):Option (O×M):=
 match E.ty.get t with
 |none=>none
 |some F=>
  match F.d with
  |.slice e=>
   match gX E e with
   |none=>none
   |some z=>
    bif Nat.beq (cells z).length F.es && Nat.ble (len*F.es) 1048576 then
     (fill (λi=>some (i*F.es,F.es)) (eg (cells z) len) parts).map λcs=>(.slice (some ⟨m.n,0,none⟩) len len,m.push (.cells cs e none))
    else none
  |_=>none
def fy(m:M)(t:TypeId)(l c:O):Option (O×M):=
 match E.ty.get t with
 |none=>none
 |some H=>
  match H.d,l,c with
  |.slice e,.int _ l,.int _ c=>
   match E.ty.get e with
   |none=>none
   |some F=>
    match F.zero with
    |none=>none
    |some z=>
     if 0<=l/\l<=c/\c<=1048576/\F.bytes<=65536/\(cells z).length=F.size then
      some (.slice (some ⟨m.n,0,none⟩) l.toNat c.toNat,m.push (.cells (eg (cells z) c.toNat) e none))
     else none
  |_,_,_=>none
def az(s:TypeId)(x:O)(i:Nat):Option O:=
 match E.ty.get s,x with
 |some F,.pointer (some a)=>
  match F.d with
  |.struct H=>match H[i]? with
   |some f=>bif Nat.beq f.size 0 then none else some (.pointer (some (a.add f.off)))
   |none=>none
  |_=>none
 |_,_=>none
def F2(t:TypeId)(x:O)(i:Nat):Option O:=
 match E.ty.get t,x with
 |some F,.agg cs=>
  match F.d with
  |.struct H=>match H[i]? with
   |some f=>part E f.ty cs.toList f.off
   |none=>none
  |_=>none
 |_,_=>none
def aD(t:TypeId)(x H:O):Option O:=
 match E.ty.get t with
 |none=>none
 |some F=>
  match F.d,x,H with
  |.slice _,.slice (some a) n _,.int _ i=>if 0<=i/\i < n/\0 < F.es then some (.pointer (some (a.add (i.toNat*F.es))))else none
  |.array n _,.pointer (some a),.int _ i=>if 0<=i/\i < n/\0 < F.es then some (.pointer (some (a.add (i.toNat*F.es))))else none
  |_,_,_=>none
def index?(t:TypeId)(x H:O):Option O:=
 match E.ty.get t with
 |none=>none
 |some F=>
  match F.d,x,H with
  |.array n e,.agg cs,.int _ i=>if 0<=i/\i < n then part E e cs.toList (i.toNat*F.es)else none
  |.str,.string s,.int _ i=>if 0<=i then(s[i.toNat]?).map (λb=> .int .u8 b.toNat)else none
  |_,_,_=>none
def we(x:O)(y:Nat):Option Nat:=
 match x with
 |.int _ i=>if 0<=i/\i<=y then some i.toNat else none
 |_=>none
def eP(len cap:Nat)(lo hi F:Option O):Option (Nat×Nat×Nat):=
 match(match F with |some v=>we v cap |none=>some cap)with
 |none=>none
 |some m=>
  match(match hi,F with |some v,_=>we v m |none,none=>some len |none,some _=>none)with
  |none=>none
  |some h=>
   match(match lo with |some v=>we v h |none=>some 0)with
   |none=>none
   |some l=>some (l,h,m)
def so(m:M)(a:Addr):Bool:=match m.get a.block with |.cells _ _ none=>false |_=>true
def slice?(m:M)(t:TypeId)(x:O)(lo hi H:Option O):Option O:=
 match E.ty.get t with
 |none=>none
 |some F=>
  match F.d,x with
  |.str,.string s=>
   match H,eP s.size s.size lo hi none with
   |none,some (l,h,_)=>some (.string (s.extract l h))
   |_,_=>none
  |.slice _,.slice none 0 0=>
   match eP 0 0 lo hi H with
   |some _=>bif Nat.beq F.es 0 then none else some (.slice none 0 0)
   |none=>none
  |.slice _,.slice (some a) n c=>
   match eP n c lo hi H,m.get a.block with
   |some (l,h,k),.cells cs _ g=>
    bif Nat.beq F.es 0 || !(Nat.ble n c)then none
    else match g with
     |none=>some (.slice (some (bif Nat.beq k l then a else a.add (l*F.es))) (h-l) (k-l))
     |some k0=>
      bif Nat.beq k0 F.es then
       some (.slice (some (bif Nat.beq k l && !(H.isNone && Nat.beq (a.off+c*F.es) cs.length)then a else a.add (l*F.es))) (h-l) (k-l))
      else none
   |some (l,h,k),.ro _=>
    bif Nat.beq F.es 0 || !(Nat.ble n c)then none else some (.slice (some (bif Nat.beq k l then a else a.add (l*F.es))) (h-l) (k-l))
   |_,_=>none
  |.array n _,.pointer (some a)=>
   match eP n n lo hi H with
   |some (l,h,k)=>bif so m a ||Nat.beq F.es 0 then none else some (.slice (some (bif Nat.beq k l then a else a.add (l*F.es))) (h-l) (k-l))
   |none=>none
  |_,_=>none
def qS(m:M)(t:TypeId)(x:O):Option O:=
 match E.ty.get t with
 |none=>none
 |some F=>
  match F.d,x with
  |.str,.string s=>some (.int .i64 s.size)
  |.array n _,_=>some (.int .i64 n)
  |.slice _,.slice _ n _=>some (.int .i64 n)
  |.map _ _,.map none=>some (.int .i64 0)
  |.map _ _,.map (some r)=>match m.get r with |.map es _=>some (.int .i64 es.length) |_=>none
  |_,_=>none
def HX(f:Int->Int->Int)(k:IntKind)(x:Int):ν->Option O
 |[]=>some (.int k x)
 |.int _ y::rest=>HX f k (f x y) rest
 |_=>none
def eo(f:Int->Int->Int):ν->Option O
 |.int k x::rest=>HX f k x rest
 |_=>none
def first?(m:M)(s n:Nat)(x:O):Option (ν):=
 match x with
 |.slice (some a) _ _=>bif Nat.beq n 0 then some []else loadCells m a (n*s)
 |.slice none _ _=>some []
 |.string b=>some ((b.extract 0 n).data.toList.map λb=> .int .u8 b.toNat)
 |_=>none
def kC:O->Option Nat
 |.slice _ n _=>some n
 |.string s=>some s.size
 |_=>none
def oU(m:M)(e k:Nat)(base:Option Addr)(sl H F:Nat)(news:ν):Option (O×M):=
 match base with
 |none=>bif Nat.beq sl 0 && Nat.beq H 0 then some (.slice (some ⟨m.n,0,none⟩) F F,m.push (.cells news e (some k)))else none
 |some a=>
  match m.get a.block,(bif Nat.beq sl 0 then some []else loadCells m a (sl*k))with
  |.cells c te g,some iF=>
   bif g.isNone ||(g==some k && Nat.blt (a.off+H*k) c.length)then
    some (.slice (some ⟨m.n,0,none⟩) F F,m.push (.cells (iF++news) e (some k)))
   else bif g==some k && Nat.beq a.off 0 && a.spot.isNone && Nat.beq (sl*k) c.length && Nat.beq H sl && Nat.beq te e then
    some (.slice (some ⟨m.n,0,none⟩) F F,(m.set a.block .dead).push (.cells (iF++news) e (some k)))
   else none
  |_,_=>none
def iM(o:Option O)(n:Nat):Bool:=match o with |some z=>Nat.beq (cells z).length n |none=>false
def eD(m:M)(t u:TypeId)(s x:O):Option (O×M):=
 match E.ty.get t,E.ty.get u,s,kC x with
 |some F,some ui,.slice base sl H,some n=>
  match F.d,ui.d with
  |_,.int _=>none
  |.slice e,_=>
   match E.ty.get e,first? m F.es n x with
   |some ei,some news=>
    bif Nat.beq F.es 0 ||Nat.blt 65536 ei.bytes || !news.all one ||Nat.blt 268435456 (sl+n) || !Nat.beq news.length (n*F.es) || !iM ei.zero F.es then none
    else bif Nat.ble (sl+n) H then
     match base with
     |some a=>(bif Nat.beq n 0 then some m else storeCells m (a.add (sl*F.es)) news).map λm=>(.slice (some a) (sl+n) H,m)
     |none=>bif Nat.beq n 0 then some (.slice none sl H,m)else none
    else oU m e F.es base sl H (sl+n) news
   |_,_=>none
  |_,_=>none
 |_,_,_,_=>none
def CZ(m:M)(t:TypeId)(d x:O):Option (O×M):=
 match E.ty.get t,d,kC x with
 |some F,.slice base dl _,some xl=>
  match F.d,first? m F.es (min xl dl) x with
  |.slice _,some cs=>
   bif Nat.beq F.es 0 then none else
   match base with
   |some a=>(bif Nat.beq (min xl dl) 0 then some m else storeCells m a cs).map λm=>(.int .i64 (min xl dl:Nat),m)
   |none=>some (.int .i64 (min xl dl:Nat),m)
  |_,_=>none
 |_,_,_=>none
def tD(m:M)(t:TypeId)(x:O):Option (O×M):=
 match E.ty.get t,x with
 |some _,.slice none _ _=>some (.tuple #[],m)
 |some F,.slice (some a) n _=>
  bif Nat.beq n 0 then some (.tuple #[],m)else
  match F.d with
  |.slice e=>match gX E e with
   |some z=>(storeCells m a (eg (cells z) n)).map λm=>(.tuple #[],m)
   |none=>none
  |_=>none
 |_,_=>none
def scalar(t:TypeId):Bool:=match E.ty.get t with |some F=>(match F.d with |.bool |.int _ |.str=>true |_=>false) |none=>false
def keyed(H:TypeId)(k:O):Bool:=
 match E.ty.get H with
 |some F=>match F.d,k with
  |.bool,.bool _ |.int _,.int _ _ |.str,.string _=>true
  |.struct fs,.agg cs=>F.cmp.isSome && cs.toList.all bL && fs.all (λf=> !f.blank && Nat.blt f.off cs.toList.length && scalar E f.ty)
  |_,_=>false
 |none=>false
def findKey(F:TypeId)(k:O):List MapEntry->Nat->Option (Option (Nat×O))
 |[],_=>some none
 |e::es,i=>
  match eq? E F k e.key with
  |some true=>some (some (i,e.val))
  |some false=>findKey F k es (i+1)
  |none=>none
def eZ(m:M)(t:TypeId)(x k:O)(ok:Bool):Option O:=
 match E.ty.get t with
 |none=>none
 |some H=>
  match H.d with
  |.map F et=>
   match(match x with |.map none=>some [] |.map (some r)=>(match m.get r with |.map es _=>some es |_=>none) |_=>none)with
   |none=>none
   |some es=>
    bif keyed E F k then
     match findKey E F k es 0 with
     |some (some (_,v))=>some (bif ok then .tuple #[v,.bool true]else v)
     |some none=>(gX E et).map λz=>bif ok then .tuple #[z,.bool false]else z
     |none=>none
    else none
  |_=>none
def fx(m:M)(t:TypeId)(x k v:O):Option M:=
 match E.ty.get t,x with
 |some H,.map (some r)=>
  match H.d,m.get r with
  |.map F _,.map es clock=>
   bif keyed E F k then
    match findKey E F k es 0 with
    |some (some (i,_))=>some (m.set r (.map (es.modify i λe=>{e with key:=k,val:=v}) clock))
    |some none=>some (m.set r (.map (es++ [{key:=k,val:=v,born:=clock}]) (clock+1)))
    |none=>none
   else none
  |_,_=>none
 |_,_=>none
def jo(m:M)(t:TypeId)(x k:O):Option (O×M):=
 match E.ty.get t,x with
 |some H,.map (some r)=>
  match H.d,m.get r with
  |.map F et,.map es clock=>
   bif keyed E F k then
    match findKey E F k es 0 with
    |some (some (i,v))=>some (.tuple #[v,.int .i64 (((es[i]?).map (·.born)).getD 0)],m.set r (.map (es.modify i λe=>{e with key:=k}) clock))
    |some none=>(gX E et).map λz=>(.tuple #[z,.int .i64 clock],m.set r (.map (es++ [{key:=k,val:=z,born:=clock}]) (clock+1)))
    |none=>none
   else none
  |_,_=>none
 |_,_=>none
def tR(b:Int):List MapEntry->Nat->Option Nat
 |[],_=>none
 |e::es,i=>bif decide ((e.born:Int)=b)then some i else tR b es (i+1)
def ff(m:M)(x s v:O):Option M:=
 match x,s with
 |.map (some r),.int _ b=>
  match m.get r with
  |.map es clock=>match tR b es 0 with
   |some i=>some (m.set r (.map (es.modify i λe=>{e with val:=v}) clock))
   |none=>none
  |_=>none
 |_,_=>none
def bytesOf:ν->Option (List Int)
 |[]=>some []
 |.int .u8 n::r=>match bytesOf r with |some F=>some (n::F) |none=>none
 |_=>none
def JO(m:M)(src dst:TypeId)(x:O):Option O:=
 match E.ty.get src,E.ty.get dst with
 |some F,some H=>
  match F.d,H.d,x with
  |.slice e,.str,.slice b n _=>
   match E.ty.get e with
   |some te=>match te.d,b with
    |.int .u8,none=>some (.string .empty)
    |.int .u8,some a=>bif Nat.beq n 0 then none else match loadCells m a n with
     |some cs=>match bytesOf cs with
      |some ns=>some (.string (ns.foldl (λr n=>r.push (UInt8.ofNat n.toNat)) ByteArray.empty))
      |none=>none
     |none=>none
    |_,_=>none
   |none=>none
  |_,_,_=>none
 |_,_=>none
def Tx(m:M)(s d:TypeId)(x:O):Option O:=match SM E s d x with |some v=>some v |none=>JO E m s d x
end
end
variable{o ob:Ob}{T:Tr O}
section
structure Fr where
 T:Tr O
 m:M
 deriving Inhabited
def jh(T:Tr O)(t:Nat):O:=(T.get t).getD undef
def ev(T:Tr O):Operand->O
 |.tmp t=>jh T t
 |.const v=>v
 |.global g=> .pointer (some ⟨g,0,none⟩)
 |.func f=> .func (.func f) #[] #[]
abbrev aF:=Fn->ν->M->Option (O×M)
noncomputable section
variable (E:Env)
def aR(m:M)(b:Builtin)(ts:List TypeId)(args:ν):Option (O×M):=
 match b,ts,args with
 |.append,[t,u],[s,x]=>eD E m t u s x
 |.copy,t::_,[d,x]=>CZ E m t d x
 |.clear,[t],[x]=>tD E m t x
 |.len,[t],[x]=>(qS E m t x).map (·,m)
 |.min,_,xs=>(eo (λx y=>if y < x then y else x) xs).map (·,m)
 |.max,_,xs=>(eo (λx y=>if y >x then y else x) xs).map (·,m)
 |.cap,[t],[x]=>match E.ty.get t with
  |some F=>match F.d,x with
   |.slice _,.slice (some a) _ c=>bif so m a then none else some (.int .i64 c,m)
   |.slice _,.slice none _ c=>some (.int .i64 c,m)
   |_,_=>none
  |none=>none
 |_,_,_=>none
end
abbrev kT:=Env->aF->Tr O->M->Option (O×M)
def Fy(x:Operand):kT:=λ_ _ T m=>some (ev T x,m)
def sJ(c a b:Operand):kT:=λ_ _ T m=>match ev T c with |.bool t=>some (bif t then ev T a else ev T b,m) |_=>none
def wW(t:TypeId):kT:=λE _ _ m=>match gX E t with |some z=>some (newVar m t z) |none=>none
def QF(t:TypeId)(x:Operand):kT:=λ_ _ T m=>some (newVar m t (ev T x))
def uj(t:TypeId)(ps:Array (Nat×Operand)):kT:=λE _ T m=>match bz E t (ps.toList.map λp=>(p.1,ev T p.2))with |some v=>some (v,m) |none=>none
def qL(t:TypeId)(n:Nat)(ps:Array (Nat×Operand)):kT:=λE _ T m=>aQ E m t n (ps.toList.map λp=>(p.1,ev T p.2))
def vF(t:TypeId)(a:Operand):kT:=λE _ T m=>match ev T a with
 |.pointer (some a)=>(match loadVar E m t a with |some v=>some (v,m) |none=>none)
 |_=>none
def qK(t:TypeId)(a x:Operand):kT:=λE _ T m=>match ev T a with
 |.pointer (some a)=>(match storeVar E m t a (ev T x)with |some m=>some (undef,m) |none=>none)
 |_=>none
def iV(x:Operand):kT:=λ_ _ T m=>match ev T x with |.pointer (some a)=>some (.pointer (some a),m) |.func (.func f) a b=>some (.func (.func f) a b,m) |_=>none
def En(op:BinOp)(t:TypeId)(x y:Operand):kT:=λE _ T m=>match bE E op t (ev T x) (ev T y)with |some v=>some (v,m) |none=>none
def MY(op:UnOp)(x:Operand):kT:=λ_ _ T m=>match Dr op (ev T x)with |some v=>some (v,m) |none=>none
def Jj(s d:TypeId)(x:Operand):kT:=λE _ T m=>match Tx E m s d (ev T x)with |some v=>some (v,m) |none=>none
def jK(f:Fn)(a b:Array Operand):kT:=λ_ _ T m=>match f with
 |.func _=>some (.func f (a.toList.map (ev T)).toArray (b.toList.map (ev T)).toArray,m)
 |_=>none
def uf(r:Option Operand):kT:=λ_ _ _ m=>match r with |none=>some (.map (some m.n),m.push (.map [] 0)) |some _=>none
def zN(t:TypeId)(l c:Operand):kT:=λE _ T m=>fy E m t (ev T l) (ev T c)
def Fx(t:TypeId)(x:Operand)(lo hi F:Option Operand):kT:=λE _ T m=>match slice? E m t (ev T x) (lo.map (ev T)) (hi.map (ev T)) (F.map (ev T))with |some v=>some (v,m) |none=>none
def jR(s:TypeId)(x:Operand)(f:Nat):kT:=λE _ T m=>match az E s (ev T x) f with |some v=>some (v,m) |none=>none
def uh(t:TypeId)(x:Operand)(f:Nat):kT:=λE _ T m=>match F2 E t (ev T x) f with |some v=>some (v,m) |none=>none
def jQ(t:TypeId)(x i:Operand):kT:=λE _ T m=>match aD E t (ev T x) (ev T i)with |some v=>some (v,m) |none=>none
def ug(t:TypeId)(x i:Operand):kT:=λE _ T m=>match index? E t (ev T x) (ev T i)with |some v=>some (v,m) |none=>none
def Cf(t:TypeId)(x i:Operand)(ok:Bool):kT:=λE _ T m=>match eZ E m t (ev T x) (ev T i) ok with |some v=>some (v,m) |none=>none
def ib(t:TypeId)(x k y:Operand):kT:=λE _ T m=>match fx E m t (ev T x) (ev T k) (ev T y)with |some m=>some (undef,m) |none=>none
def vE(t:TypeId)(x k:Operand):kT:=λE _ T m=>jo E m t (ev T x) (ev T k)
def mZ(x s y:Operand):kT:=λ_ _ T m=>match ff m (ev T x) (ev T s) (ev T y)with |some m=>some (undef,m) |none=>none
def sK(x:Operand)(t:TypeId)(ok:Bool):kT:=λE _ T m=>match ev T x with
 |.nilIface=>bif ok then(match gX E t with |some z=>some (.tuple #[z,.bool false],m) |none=>none)else none
 |.iface F (.agg cs)=>bif ok && (Nat.beq F t && cs.toList.isEmpty)then(match E.ty.get t with
  |some H=>(match H.d with |.struct _=>some (.tuple #[.agg #[],.bool true],m) |_=>none)
  |none=>none)else none
 |_=>none
def lE(x:Operand)(i:Nat):kT:=λ_ _ T m=>match ev T x with |.tuple F=>(match F.toList[i]? with |some v=>some (v,m) |none=>none) |_=>none
def nV(c:Call):kT:=λE call T m=>
 match c.callee with
 |.builtin b=>aR E m b c.argTypes.toList (c.args.toList.map (ev T))
 |.value f=>match ev T f with
  |.func g first captured=>call g (first.toList++(c.args.toList.map (ev T)++captured.toList)) m
  |_=>none
 |_=>none
def dJ:Op->kT
 |.move x=>Fy x
 |.assign x=>Fy x
 |.pick c a b=>sJ c a b
 |.alloc t=>wW t
 |.box t x=>QF t x
 |.build t ps=>uj t ps
 |.buildSlice t n ps=>qL t n ps
 |.load t a=>vF t a
 |.store t a x=>qK t a x
 |.nilCheck x=>iV x
 |.binOp op t x y _=>En op t x y
 |.unOp op _ x=>MY op x
 |.convert s d x=>Jj s d x
 |.makeFunc f a b=>jK f a b
 |.makeMap _ r=>uf r
 |.makeSlice t l c=>zN t l c
 |.slice t x lo hi F=>Fx t x lo hi F
 |.fieldAddr s x f=>jR s x f
 |.field t x f=>uh t x f
 |.indexAddr t x i=>jQ t x i
 |.index t x i=>ug t x i
 |.lookup t x i ok=>Cf t x i ok
 |.mapUpdate t x k y=>ib t x k y
 |.insert t x k y=>ib t x k y
 |.extract x i=>lE x i
 |.call c=>nV c
 |.mapEntry t x k=>vE t x k
 |.entryStore _ x s y=>mZ x s y
 |.typeAssert x _ t ok=>sK x t ok
 |_=>λ_ _ _ _=>none
noncomputable section
variable (E:Env)
def fP:Op->Bool
 |.move _ |.assign _ |.pick .. |.build .. |.nilCheck _ |.binOp .. |.unOp .. |.makeFunc .. |.fieldAddr .. |.field .. |.indexAddr .. |.index .. |.extract ..=>true
 |_=>false
def cd(ops:Array Oper)(T:Tr O)(o:Oper):Bool:=
 match o.guard with
 |none=>true
 |some (j,want)=>match(ops.toList[j]?).bind (·.dst)with
  |some d=>match jh T d with
   |.bool b=>b==want
   |_=>false
  |none=>false
def put(T:Tr O)(dst:Option Tmp)(v:O):Tr O:=
 match dst with
 |some d=>T.set d v
 |none=>T
def Cd(call:aF)(ops:Array Oper)(l:List Oper):Fr->Option Fr:=
 List.rec (motive:=λ_=>Fr->Option Fr) (λfr=>some fr)
  (λo _ F fr=>
   bif cd ops fr.T o then
    match dJ o.op E call fr.T fr.m with
    |some (v,m)=>F {T:=put fr.T o.dst v,m:=m}
    |none=>none
   else F {fr with T:=put fr.T o.dst undef}) l
theorem Hl(call:aF)(ops:Array Oper)(fr:Fr):Cd E call ops [] fr=some fr:=rfl
theorem nw(call:aF)(ops:Array Oper)(o:Oper)(rest:List Oper)(fr:Fr):Cd E call ops (o::rest) fr=
  bif cd ops fr.T o then
   match dJ o.op E call fr.T fr.m with
   |some (v,m)=>Cd E call ops rest {T:=put fr.T o.dst v,m:=m}
   |none=>none
  else Cd E call ops rest {fr with T:=put fr.T o.dst undef}:=rfl
def gC(ops:Array Oper)(j:Nat):Bool:=
 let b:=Region.before ops
 ops.toList.zipIdx.all λ(o,i)=>i==j ||fP o.op ||(b.getD j 0).testBit i ||(b.getD i 0).testBit j
def qO:Op->Bool
 |.call c=>(match c.callee with |.builtin .min=>true |.builtin .max=>true |_=>false)
 |_=>false
def lenOf:Op->Option Nat
 |.call c=>(match c.callee with |.builtin .len=>(match c.args.toList with |[.tmp t]=>some t |_=>none) |_=>none)
 |_=>none
def qF(ops:Array Oper)(j b:Nat)(T:Tr O):Bool:=
 let F:=Region.before ops
 let same:=λi t=>ops.toList.zipIdx.all λ(q,k)=> !(Nat.ble i k && Nat.blt k j && q.dst==some t)
 ops.toList.zipIdx.all λ(o,i)=>i==j ||fP o.op ||(F.getD j 0).testBit i ||(F.getD i 0).testBit j ||
  (Nat.blt i j && (match o.op with
   |.alloc _ |.box _ _=>true
   |.load _ (.tmp t)=>same i t && (match o.guard with
     |none=>true
     |some (g,_)=>match(ops.toList[g]?).bind (·.dst)with |some d=>same i d |none=>true) &&
    (!(cd ops T o) ||match jh T t with |.pointer (some a)=> !(a.block==b) |_=>false)
   |_=>qO o.op ||(match lenOf o.op with |some t=>same i t && (match jh T t with |.map _=>false |_=>true) |none=>false)))
def vn(m:M)(a:Addr):Option Nat:=match m.get a.block with |.cells [_,.slice (some r) _ _] _ _=>some r.block |_=>none
def iN(m:M)(T:Tr O):Op->Option Nat
 |.store _ a _=>match ev T a with |.pointer (some a)=>some a.block |_=>none
 |.call c=>match c.callee,c.args.toList with
  |.value f,[x]=>match ev T f,ev T x with
   |.func (.func g) first captured,.pointer (some a)=>bif Nat.beq g Ds && first.isEmpty && captured.isEmpty then vn m a else none
   |_,_=>none
  |_,_=>none
 |_=>none
def Dz(ops:Array Oper)(j:Nat)(m:M)(T:Tr O)(o:Op):Bool:=match iN m T o with |some b=>qF ops j b T |none=>false
def qk(call:aF)(ops:Array Oper)(l:List Oper):Nat->Fr->Option Fr:=
 List.rec (motive:=λ_=>Nat->Fr->Option Fr) (λ_ fr=>some fr)
  (λo _ F j fr=>
   bif cd ops fr.T o then
    match dJ o.op E call fr.T {fr.m with low:=fr.m.n}with
    |some (v,m)=>
     bif Nat.ble fr.m.n m.low ||(gC ops j ||Dz ops j fr.m fr.T o.op)then
      F (j+1) {T:=put fr.T o.dst v,m:={m with low:=min fr.m.low m.low}}
     else none
    |none=>none
   else F (j+1) {fr with T:=put fr.T o.dst undef}) l
theorem EK(call:aF)(ops:Array Oper)(j:Nat)(fr:Fr):qk E call ops [] j fr=some fr:=rfl
theorem lK(call:aF)(ops:Array Oper)(o:Oper)(rest:List Oper)(j:Nat)(fr:Fr):qk E call ops (o::rest) j fr=
  bif cd ops fr.T o then
   match dJ o.op E call fr.T {fr.m with low:=fr.m.n}with
   |some (v,m)=>
    bif Nat.ble fr.m.n m.low ||(gC ops j ||Dz ops j fr.m fr.T o.op)then
     qk E call ops rest (j+1) {T:=put fr.T o.dst v,m:={m with low:=min fr.m.low m.low}}
    else none
   |none=>none
  else qk E call ops rest (j+1) {fr with T:=put fr.T o.dst undef}:=rfl
def jS(body:Fr->Option (Ex×Fr)):Nat->Fr->Option (Ex×Fr)
 |0,_=>none
 |n+1,fr=>
  match body fr with
  |some (.normal,fr)=>jS body n fr
  |r=>r
def bF(call:aF)(n:Nat):Code->Fr->Option (Ex×Fr)
 |.skip,fr |.label _,fr=>some (.normal,fr)
 |.region _ ops d,fr=>(bif d then qk E call ops ops.toList 0 fr else Cd E call ops ops.toList fr).map (Ex.normal,·)
 |.seq a b,fr=>
  match bF call n a fr with
  |some (.normal,fr)=>bF call n b fr
  |r=>r
 |.cond c x y,fr=>match ev fr.T c with
  |.bool t=>bif t then bF call n x fr else bF call n y fr
  |_=>none
 |.block id c,fr=>
  match bF call n c fr with
  |some (.exit F,fr)=>bif Nat.beq F id then some (.normal,fr)else some (.exit F,fr)
  |r=>r
 |.loop c,fr=>jS (bF call n c) n fr
 |.scope c,fr=>bF call n c fr
 |.rangeFunc g ps assign body,fr=>
  match ev fr.T g with
  |.func (.func h) first captured=>
   match call (.func h) (first.toList++(.func (.yield fr.m.n) #[] #[]::captured.toList)) (fr.m.push (.loop ⟨fr.T,ps,assign,body,.ready,none,E.G⟩))with
   |some (_,m)=>
    match m.get fr.m.n with
    |.loop r=>match r.st with
     |.busy=>none
     |_=>some (r.Aq.getD .normal,{fr with m:=m.set fr.m.n (.loop {r with st:=.exhausted})})
    |_=>none
   |none=>none
  |_=>none
 |.exit id,fr=>some (.exit id,fr)
 |.ret,fr=>some (.ret,fr)
 |_,_=>none
def nq(T:Tr O)(m:M):ResultVar->Option O
 |.tmp t=>some (jh T t)
 |.cell a t=>match jh T a with |.pointer (some a)=>loadVar E m t a |_=>none
def iw(T:Tr O)(m:M):List ResultVar->Option (ν)
 |[]=>some []
 |r::rs=>match nq E T m r,iw T m rs with
  |some v,some F=>some (v::F)
  |_,_=>none
def result?(fn:Func)(T:Tr O)(m:M):Option O:=
 match iw E T m fn.results.toList with
 |some [v]=>some v
 |some F=>some (.tuple F.toArray)
 |none=>none
def enter:ν->Nat->Tr O
 |[],_=> .e
 |v::F,i=>(enter F (i+1)).set i v
def yG(T:Tr O):List (Tmp×O)->Tr O
 |[]=>T
 |(t,v)::l=>yG (T.set t v) l
def yN(exec:Code->Fr->Option (Ex×Fr))(G l:Nat)(args:ν)(m:M):Option (O×M):=
 match m.get l with
 |.loop r=>
  bif Nat.beq args.length r.ps.size && Nat.beq r.G G then
   match exec r.assign {T:=yG r.T (r.ps.toList.zip args),m:={m with low:=m.n}}with
   |some (.normal,fr)=>
    match fr.m.get l with
    |.loop H=>match H.st with
     |.ready=>
      match exec r.body {fr with m:=fr.m.set l (.loop {H with st:=.busy})}with
      |some (e,fr)=>
       match fr.m.get l with
       |.loop F=>match e with
        |.normal=>some (.bool true,{fr.m.set l (.loop {F with st:=.ready,Aq:=none})with low:=min m.low (fr.m.set l (.loop {F with st:=.ready,Aq:=none})).low})
        |e=>some (.bool false,{fr.m.set l (.loop {F with st:=.done,Aq:=some e})with low:=min m.low (fr.m.set l (.loop {F with st:=.done,Aq:=some e})).low})
       |_=>none
      |none=>none
     |_=>none
    |_=>none
   |_=>none
  else none
 |_=>none
def Fg:Code->Option (List Code×(Nat×Oper×Oper)×Code)
 |.seq (.region id ops false) b=>
  match ops.toList with
  |[m,d]=>match d.op with
   |.defer _=>some ([],(id,m,d),b)
   |_=>(Fg b).map λr=>(.region id ops false::r.1,r.2)
  |_=>(Fg b).map λr=>(.region id ops false::r.1,r.2)
 |.seq a b=>(Fg b).map λr=>(a::r.1,r.2)
 |_=>none
def nd(f:Func):LO:=match f.body.bind Fg with
 |some (pre,(id,m,d),post)=>⟨f,pre,id,m,d,post⟩
 |none=>⟨f,[],0,default,default,.skip⟩
def Hz(f:Func):Wa:=match f.body with
 |some (.seq (.region id ops false) r)=>⟨f,id,ops,r⟩
 |_=>⟨f,0, #[],.skip⟩
def mN(ex:Code->Fr->Option (Ex×Fr)):List Code->Fr->Option (Ex×Fr)
 |[],fr=>some (.normal,fr)
 |c::cs,fr=>match ex c fr with
  |some (.normal,fr)=>mN ex cs fr
  |r=>r
def kn:List Oper->Tr O->Option (Tr O)
 |[],T=>some T
 |o::os,T=>match o.guard,o.op with
  |none,.call c=>match c.callee with
   |.builtin .recover=>bif c.args.toList.isEmpty then kn os (put T o.dst .nilIface)else none
   |_=>none
  |none,.assign x=>kn os (put T o.dst (ev T x))
  |none,.move x=>kn os (put T o.dst (ev T x))
  |_,_=>none
def Gf(ex:Code->Fr->Option (Ex×Fr))(g:Nat)(args:ν)(m:M):Option M:=
 match E.cl.get g with
 |some c=>
  bif Nat.ble args.length c.fn.ntmps && (c.fn.results.toList.isEmpty && fL c.rest)then
   match kn c.ops.toList (enter args 0)with
   |some T=>match ex c.rest {T:=T,m:={m with low:=m.n}}with
    |some (.exit _,_) |none=>none
    |some (_,fr)=>some {fr.m with low:=min m.low fr.m.low}
   |none=>none
  else none
 |none=>none
def DI(fn:Func)(m:M)(fr:Fr):Option (O×M):=
 match result? E fn fr.T fr.m with
 |none=>none
 |some v=>bif aZ v && Nat.ble m.n fr.m.low then some (v,m)else some (v,{fr.m with low:=min m.low fr.m.low})
def rh(ex:Code->Fr->Option (Ex×Fr))(d:LO)(args:ν)(m:M):Option (O×M):=
 bif Nat.ble args.length d.fn.ntmps then
  match mN ex d.pre {T:=enter args 0,m:={m with low:=m.n}}with
  |some (.ret,fr)=>DI E d.fn m fr
  |some (.normal,fr)=>
   match d.mf.guard,d.mf.dst,d.mf.op,d.de.guard,d.de.op with
   |none,some H,.makeFunc (.func g) fi ca,none,.defer c=>
    match c.callee with
    |.value (.tmp t)=>
     bif Nat.beq t H && (c.args.toList.isEmpty && fi.toList.isEmpty)then
      match ex d.post {T:=put (put fr.T (some H) (.func (.func g) #[] (ca.toList.map (ev fr.T)).toArray)) d.de.dst undef,m:=fr.m}with
      |some (.exit _,_) |none=>none
      |some (_,F)=>match Gf E ex g (ca.toList.map (ev fr.T)) F.m with
       |some m3=>DI E d.fn m {F with m:=m3}
       |none=>none
     else none
    |_=>none
   |_,_,_,_,_=>none
  |_=>none
 else none
def bT(X:aF):Nat->aF
 |0,_,_,_=>none
 |n+1,.func f,args,m=>
  match X (.func f) args m with
  |some r=>some r
  |none=>
  match E.fn.get f with
  |none=>match E.df.get f with
   |some d=>rh E (bF E (bT X n) n) d args m
   |none=>none
  |some fn=>
   match fn.body with
   |none=>none
   |some body=>
    bif Nat.ble args.length fn.ntmps then
     match bF E (bT X n) n body {T:=enter args 0,m:={m with low:=m.n}}with
     |some (.exit _,_) |none=>none
     |some (_,fr)=>
      match result? E fn fr.T fr.m with
      |none=>none
      |some v=>bif aZ v && Nat.ble m.n fr.m.low then some (v,m)else some (v,{fr.m with low:=min m.low fr.m.low})
    else none
 |n+1,.yield l,args,m=>yN (bF E (bT X n) n) E.G l args m
 |_+1,_,_,_=>none
end
end
variable{call:aF}
theorem Tr.get_mem{α:Type}{x:α}:∀(t:Tr α) (i a b:Nat),t.get i=some x->(a*i+b,x)∈t.wD a b
 |.e,_,_,_,h=>by simp[Tr.CK]at h
 |.n v l r,0,a,b,h=>by subst h;unfold Tr.wD;simp
 |.n v l r,i+1,a,b,h=>by simp only[Tr.sW,Tr.my]at h;unfold Tr.wD;cases F:Nat.beq (i%2) 0 with|true=>rw[F]at h;have hm:i%2=0:=L6 F;have:=Tr.get_mem l (i/2) (2*a) (a+b) h;have e:2*a*(i/2)+(a+b)=a*(i+1)+b:=(by have H:i=2*(i/2):=Z;grind);grind|false=>rw[F]at h;have hm:i%2≠0:=S1 F;have:=Tr.get_mem r (i/2) (2*a) (2*a+b) h;have e:2*a*(i/2)+(2*a+b)=a*(i+1)+b:=(by have H:i=2*(i/2)+1:=Z;grind);grind
def Tr.Af{α:Type}{f:Nat->Option α}(t:Tr α)(h:(t.wD 1 0).map (λp=>f p.1)=(t.wD 1 0).map (λp=>some p.2)){i:Nat}{x:α}(hi:t.get i=some x):f i=some x:=by have hm:=Tr.get_mem t i 1 0 hi;have:=List.map_inj_left.1 h _ hm;grind
theorem Tr.vR{α:Type}(x:α):∀(f i j:Nat),i<=f->(Tr.single x f i).get j=if j=i then some x else none
 |0,i,j,h=>by obtain rfl:i=0:=Z;unfold Tr.single;(cases j with|zero=>rfl|succ j=>simp only[Tr.my];cases Nat.beq (j%2) 0 <;>simp[Tr.CK])
 |f+1,0,j,h=>by unfold Tr.single;(cases j with|zero=>rfl|succ j=>simp only[Tr.my];cases Nat.beq (j%2) 0 <;>simp[Tr.CK])
 |f+1,i+1,j,h=>by unfold Tr.single;cases H:Nat.beq (i%2) 0 with|true=>have hm:i%2=0:=L6 H;simp only[gc];(cases j with|zero=>simp[Tr.sW]|succ j=>simp only[Tr.my];cases F:Nat.beq (j%2) 0 with|true=>have hj:j%2=0:=L6 F;rw[Tr.vR x f (i/2) (j/2) Z];grind|false=>simp only[I2,Tr.CK];grind)|false=>have hm:i%2≠0:=S1 H;simp only[I2];cases j with|zero=>simp[Tr.sW]|succ j=>simp only[Tr.my];cases F:Nat.beq (j%2) 0 with|true=>simp only[gc,Tr.CK];grind|false=>have hj:j%2≠0:=S1 F;rw[Tr.vR x f (i/2) (j/2) Z];grind
theorem Tr.cF{α:Type}(x:α):∀(t:Tr α) (i j:Nat),(t.set i x).get j=if j=i then some x else t.get j
 |.e,i,j=>by simp only[Tr.P1,Tr.BC,Tr.BD];rw[Tr.vR x i i j (R8 _)];simp[Tr.CK]
 |.n v l r,0,j=>by simp only[Tr.P1,Tr.BC,Tr.BD];(cases j with|zero=>rfl|succ j=>simp[Tr.my])
 |.n v l r,i+1,j=>by simp only[Tr.P1,Tr.BC,Tr.BD];cases H:Nat.beq (i%2) 0 with|true=>have hm:i%2=0:=L6 H;simp only[gc];(cases j with|zero=>simp[Tr.sW]|succ j=>simp only[Tr.my];cases F:Nat.beq (j%2) 0 with|true=>have hj:j%2=0:=L6 F;rw[Tr.cF x l (i/2) (j/2)];grind|false=>grind)|false=>have hm:i%2≠0:=S1 H;simp only[I2];cases j with|zero=>simp[Tr.sW]|succ j=>simp only[Tr.my];cases F:Nat.beq (j%2) 0 with|true=>grind|false=>have hj:j%2≠0:=S1 F;rw[Tr.cF x r (i/2) (j/2)];grind
def Tr.KF{α:Type}{p:Nat->α->Prop}(t:Tr α){l:List (Nat×α)}(h:t.wD 1 0=l)(F:∀x∈l,p x.1 x.2){i:Nat}{x:α}(hi:t.get i=some x):p i x:=by have hm:=Tr.get_mem t i 1 0 hi;grind
section
structure BI where
 dL:Nat
 gr:Option (Nat×Nat×Nat)
abbrev Sg:=Nat->Option BI
inductive bw (σ:Sg):O->O->Prop where
 |flat (v:O) (h:bL v=true):bw σ v v
 |ptr (a:Addr) (i:BI) (h:σ a.block=some i) (hs:a.spot=none):bw σ (.pointer (some a)) (.pointer (some ⟨i.dL,a.off,none⟩))
 |slice (a:Addr) (i:BI) (n c:Nat) (h:σ a.block=some i) (hs:a.spot=none) (hg:i.gr=none):bw σ (.slice (some a) n c) (.slice (some ⟨i.dL,a.off,none⟩) n c)
 |jG (a:Addr) (i:BI) (n c c' k sz N:Nat) (h:σ a.block=some i) (hs:a.spot=none) (hg:i.gr=some (k,sz,N)) (hc:c'=c\/(c<=c'/\a.off+c*k=sz/\a.off+c'*k=N)):bw σ (.slice (some a) n c) (.slice (some ⟨i.dL,a.off,none⟩) n c')
 |empty (a a':Addr) (i:BI) (c' k sz N:Nat) (h:σ a.block=some i) (hg:i.gr=some (k,sz,N)) (ho:a.off=sz):bw σ (.slice (some a) 0 0) (.slice (some a') 0 c')
 |map (r:Nat) (i:BI) (h:σ r=some i):bw σ (.map (some r)) (.map (some i.dL))
 |func (f:FuncId) (a b a' b':Array O) (ha:a.size=a'.size) (hb:b.size=b'.size) (h1:∀(j:Nat) u u',a[j]?=some u->a'[j]?=some u'->bw σ u u') (h2:∀(j:Nat) u u',b[j]?=some u->b'[j]?=some u'->bw σ u u'):bw σ (.func (.func f) a b) (.func (.func f) a' b')
 |yield (l:Nat) (i:BI) (h:σ l=some i):bw σ (.func (.yield l) #[] #[]) (.func (.yield i.dL) #[] #[])
 |agg (a a':Array O) (ha:a.size=a'.size) (h1:∀(j:Nat) u u',a[j]?=some u->a'[j]?=some u'->bw σ u u'):bw σ (.agg a) (.agg a')
 |tuple (a a':Array O) (ha:a.size=a'.size) (h1:∀(j:Nat) u u',a[j]?=some u->a'[j]?=some u'->bw σ u u'):bw σ (.tuple a) (.tuple a')
def bK(σ:Sg)(l F:ν):Prop:=l.length=F.length/\∀(j:Nat) u H,l[j]?=some u->F[j]?=some H->bw σ u H
def Sg.le(σ τ:Sg):Prop:=∀b i,σ b=some i->τ b=some i
def bw.mono{σ τ:Sg}(hle:σ.le τ){v v':O}(h:bw σ v v'):bw τ v v':=by induction h with|flat v h=>exact .flat v h|ptr a i h hs=>exact .ptr a i (hle _ _ h) hs|slice a i n c h hs hg=>exact .slice a i n c (hle _ _ h) hs hg|jG a i n c c' k sz N h hs hg hc=>exact .jG a i n c c' k sz N (hle _ _ h) hs hg hc|empty a F i c' k sz N h hg ho=>exact .empty a F i c' k sz N (hle _ _ h) hg ho|map r i h=>exact .map r i (hle _ _ h)|func f a b F b' ha hb _ _ i1 i2=>exact .func f a b F b' ha hb (λj u H h h'=>i1 j u H h h') (λj u H h h'=>i2 j u H h h')|yield l i h=>exact .yield l i (hle _ _ h)|agg a F ha _ i1=>exact .agg a F ha (λj u H h h'=>i1 j u H h h')|tuple a F ha _ i1=>exact .tuple a F ha (λj u H h h'=>i1 j u H h h')
def bK.mono{σ τ:Sg}(hle:σ.le τ){l F:ν}(h:bK σ l F):bK τ l F:=⟨h.1,λj u H a b=>(h.2 j u H a b).mono hle⟩
def bK.nil{σ:Sg}:bK σ [] []:=⟨rfl,J⟩
def bK.cons{σ:Sg}{v:O}{l:ν}(h:bw σ v v')(H:bK σ l F):bK σ (v::l) (v'::F):=
 ⟨by simp[H.1],λj u u' a b=>by cases j with|zero=>simp at a b;subst a;subst b;exact h|succ j=>exact H.2 j u u' J J⟩
def bK.head{σ:Sg}{v:O}{l:ν}(h:bK σ (v::l) (v'::F)):bw σ v v':=h.2 0 v v' rfl rfl
def bK.tail{σ:Sg}{v:O}{l:ν}(h:bK σ (v::l) (v'::F)):bK σ l F:=
 ⟨by simpa using h.1,λj u H a b=>h.2 (j+1) u H J J⟩
theorem bK.cases{σ:Sg}{v:O}{l x:ν}(h:bK σ (v::l) x):∃v' F,x=v'::F/\bw σ v v'/\bK σ l F:=by cases x with|nil=>exact absurd h.1 co|cons v' F=>exact⟨v',F,rfl,h.head,h.tail⟩
def bK.nil_eq{σ:Sg}{x:ν}(h:bK σ [] x):x=[]:=RJ h.1.symm
def bK.append{σ:Sg}{a b:ν}(h:bK σ a F)(k:bK σ b H):bK σ (a++b) (F++H):=
 ⟨by simp[h.1,k.1],λj u u' x y=>by by_cases hj:j<a.length;rw[Xs hj]at x;rw[Xs (by rw[<-h.1];exact hj)]at y;exact h.2 j u u' x y;rw[OV Z]at x;rw[OV (by rw[<-h.1];omega)]at y;rw[<-h.1]at y;exact k.2 _ u u' x y⟩
def bK.take{σ:Sg}{a:ν}(h:bK σ a F)(n:Nat):bK σ (a.take n) (F.take n):=
 ⟨by simp[h.1],λj u H x y=>by simp only[Rz]at x y;by_cases hj:j<n;rw[UG hj]at x y;exact h.2 j u H x y;grind⟩
def bK.drop{σ:Sg}{a:ν}(h:bK σ a F)(n:Nat):bK σ (a.drop n) (F.drop n):=
 ⟨by simp[h.1],λj u H x y=>by simp only[Sa]at x y;exact h.2 _ u H x y⟩
theorem bK.get{σ:Sg}{a:ν}(h:bK σ a H){j:Nat}{u:O}(hj:a[j]?=some u):∃u',H[j]?=some u'/\bw σ u u':=by have F:j<H.length:=(by rw[<-h.1];exact(Nr.1 hj).1);exact⟨H[j],QC F,h.2 j u _ hj (QC F)⟩
def bK.of_flat{σ:Sg}{l:ν}(h:l.all bL):bK σ l l:=
 ⟨rfl,λj u F a b=>by rw[a]at b;cases b;exact .flat u (SB.1 h u (QP a))⟩
def bK.agg{σ:Sg}{l:ν}(h:bK σ l F):bw σ (.agg l.toArray) (.agg F.toArray):=
 .agg _ _ (by simpa using h.1) (λj u H a b=>h.2 j u H J J)
def bK.tuple{σ:Sg}{l:ν}(h:bK σ l F):bw σ (.tuple l.toArray) (.tuple F.toArray):=
 .tuple _ _ (by simpa using h.1) (λj u H a b=>h.2 j u H J J)
def bw.mn{σ:Sg}{v:O}(h:ep v):bw σ v v:=by cases v with|agg cs=>have:=bK.agg (σ:=σ) (bK.of_flat (l:=cs.toList) h);simp_all|_=>exact .flat _ h
theorem bw.undef{σ:Sg}:bw σ undef undef:=.tuple _ _ rfl J
theorem bw.cells{σ:Sg}{v v':O}(h:bw σ v v'):bK σ (cells v) v'.cells.toList:=by cases h with|agg a F H h1=>exact⟨by simpa[D.cells,Value.cells]using H,λj u u' x y=>h1 j u u' (by simpa[D.cells]using x) (by simpa[Value.cells]using y)⟩|flat v hv=>(cases v with|agg cs=>simp[bL]at hv|_=>exact bK.cons (.flat _ hv) bK.nil)|ptr a i h hs=>exact bK.cons (.ptr a i h hs) bK.nil|slice a i n c h hs hg=>exact bK.cons (.slice a i n c h hs hg) bK.nil|jG a i n c c' k sz N h hs hg hc=>exact bK.cons (.jG a i n c c' k sz N h hs hg hc) bK.nil|empty a F i c' k sz N h hg ho=>exact bK.cons (.empty a F i c' k sz N h hg ho) bK.nil|map r i h=>exact bK.cons (.map r i h) bK.nil|func f a b F b' H hb h1 h2=>exact bK.cons (.func f a b F b' H hb h1 h2) bK.nil|yield l i h=>exact bK.cons (.yield l i h) bK.nil|tuple a F H h1=>exact bK.cons (.tuple a F H h1) bK.nil
theorem bw.one{σ:Sg}{v v':O}(h:bw σ v v')(F:one v):v'.oneCell':=by cases h with|flat v H=>(cases v <;>first|rfl|simp[D.one]at F)|agg=>simp[D.one]at F|tuple=>simp[D.one]at F|_=>rfl
def bK.iy{σ:Sg}{l:ν}(h:bK σ l H)(h1:l.all one):∀u∈H,u.oneCell':=by intro u hu;have⟨j,hj⟩:=Px.1 hu;have F:j<l.length:=(by rw[h.1];exact(Nr.1 hj).1);exact(h.2 j _ u (QC F) hj).one (SB.1 h1 _ (List.getElem_mem F))
def bw.bJ{σ:Sg}{v:O}(h:bw σ v v')(F:bL v):v'=v:=by cases h with|flat=>rfl|func f a b H b' ha hb h1 h2=>simp[bL]at F;grind|ptr=>simp[bL]at F|slice=>simp[bL]at F|jG=>simp[bL]at F|empty=>simp[bL]at F|map=>simp[bL]at F|yield=>simp[bL]at F|agg=>simp[bL]at F|tuple=>simp[bL]at F
def GrOK(i:BI)(len size:Nat):Option Nat->Prop
 |none=>i.gr=none/\size=len
 |some k=>i.gr=some (k,len,size)/\0 < k/\0 < len
def zk:Ex->Code
 |.normal=> .skip
 |.exit id=> .exit id
 |.ret=> .ret
def Holds(σ:Sg)(i:BI)(w:World):Ob->Prop
 |.dead=>True
 |.cells c e g=>∃c':Array O,w.heap[i.dL]?=some (.cells c' e (0,0))/\c.length<=c'.size/\bK σ c (c'.toList.take c.length)/\GrOK i c.length c'.size g
 |.map es clock=>i.gr=none/\∃H:Array MapEntry,w.heap[i.dL]?=some (.map H clock)/\es.length=H.size/\
   ∀(j:Nat) e e',es[j]?=some e->H[j]?=some e'->e'.key=e.key/\e'.born=e.born/\ep e.key=true/\bw σ e.val e'.val
 |.ro c=>i.gr=none/\∃(c':Array O) (e':TypeId) (fz:Nat×Nat),w.heap[i.dL]?=some (.cells c' e' fz)/\c.length<=c'.size/\∀(j:Nat) u u',c[j]?=some u->c'[j]?=some u'->one u=true->bw σ u u'
 |.loop r=>i.gr=none/\∃(F:Loop) (nt:Nat),w.heap[i.dL]?=some (.loop F)/\F.state=r.st/\F.pending=r.Aq.map zk/\F.params=r.ps/\F.assign=r.assign/\F.body=r.body/\
   F.tmps.size=nt/\(∀t,t < nt->bw σ ((r.T.get t).getD undef) (F.tmps.getD t undef))/\dq nt r.G r.assign=true/\dq nt r.G r.body=true/\(∀p∈r.ps.toList,p < nt)/\r.Aq≠some .normal
structure eW(P:Program)(σ:Sg)(m:M)(w:World):Prop where
 vd:∀b i,σ b=some i->b < m.n
 obj:∀b i,σ b=some i->Holds σ i w (m.get b)
 lt:∀b i,σ b=some i->i.dL < w.heap.size
 inj:∀b b' i i',σ b=some i->σ b'=some i'->m.get b≠.dead->m.get b'≠.dead->i.dL=i'.dL->b=b'
 mI:∀g,g < P.globals.size->σ g=some ⟨g,none⟩
structure Ev(P:Program)(σ:Sg)(m:M)(w:World)(σ':Sg)(m':M)(w':World):Prop where
 ext:σ.le σ'
 rN:eW P σ' m' w'
 low:m'.low<=m.low
 Og:m.n<=m'.n
 hle:w.heap.size<=w'.heap.size
 new:∀b i,σ' b=some i->σ b=none->m.n<=b/\(w.heap.size<=i.dL\/∃b0 i0,σ b0=some i0/\i0.dL=i.dL/\m'.low<=b0)
 abs:∀b,b < m'.low->b < m.n->m'.get b=m.get b
 heap:∀B,B < w.heap.size->(∀b i,σ b=some i->i.dL=B->b < m'.low)->w'.heap[B]?=w.heap[B]?
 os:w'.os=w.os
 tape:w'.tape=w.tape
 output:w'.output=w.output
variable{P:Program}{σ σ' τ:Sg}{m m' m2:M}{w w' w2:World}
def Ev.refl(h:eW P σ m w):Ev P σ m w σ m w:=⟨λ_ _ h=>h,h,R8 _,R8 _,R8 _,λb i h F=>J,λ_ _ _=>rfl,λ_ _ _=>rfl,rfl,rfl,rfl⟩
def Ev.trans(h:Ev P σ m w σ' m' w')(k:Ev P σ' m' w' τ m2 w2):Ev P σ m w τ m2 w2:=by refine⟨λb i e=>k.ext b i (h.ext b i e),k.rN,Xp k.low h.low,Xp h.Og k.Og,Xp h.hle k.hle,?_,?_,?_,k.os.trans h.os,k.tape.trans h.tape,k.output.trans h.output⟩;intro b i F H;have hl:=k.low;(cases hm:σ' b with|some i1=>have e:=k.ext b i1 hm;rw[F]at e;cases e;have⟨h1,h2⟩:=h.new b i hm H;grind|none=>have⟨h1,h2⟩:=k.new b i F hm;have:=h.Og;refine⟨Z,?_⟩;rcases h2 with h2|⟨b0,i0,x,y,z⟩;have:=h.hle;exact .inl Z;cases h0:σ b0 with|some i1=>have e:=h.ext b0 i1 h0;grind|none=>have⟨_,h3⟩:=h.new b0 i0 x h0;grind);intro b F H;have hl:=k.low;have:=h.Og;rw[k.abs b F Z,h.abs b Z H];intro B hB hp;have hl:=k.low;have:=h.hle;rw[k.heap B Z ?_,h.heap B hB J];intro b i x y;cases hs:σ b with|some i1=>have e:=h.ext b i1 hs;grind|none=>have⟨_,h3⟩:=h.new b i x hs;grind
end
variable{i:BI}
section
def kN{a:Nat}:Nat.blt a b=decide (a<b):=by cases h:Nat.blt a b with|true=>simp_all|false=>have F:Nat.ble (a+1) b=false:=h;have:¬(a+1<=b):=λhle=>(by rw[S0 hle]at F;cases F);grind
def M.ij(m:M)(b:Nat):m.get b=if b<m.n then(m.st.get b).getD .dead else .dead:=by unfold M.get;simp_all
def M.kG(m:M)(o:Ob)(b:Nat):(m.push o).get b=if b=m.n then o else m.get b:=by rw[M.ij,M.ij];simp only[M.push,Tr.cF];grind
def M.cF(m:M)(b:Nat)(o:Ob)(c:Nat)(F:b<m.n):(m.set b o).get c=if c=b then o else m.get c:=by rw[M.ij,M.ij];simp only[M.set,Tr.cF];grind
def M.oh{m:M}(h:m.get b≠.dead):b<m.n:=by rw[M.ij]at h;grind
variable{P:Program}{σ σ' τ:Sg}{m m' m2:M}{w w' w2:World}
def Holds.aX(h:Holds σ i w ob)(hle:σ.le τ)(hw:w'.heap[i.dL]?=w.heap[i.dL]?):Holds τ i w' ob:=by cases ob with|dead=>trivial|cells c e g=>have⟨c',F,H,h3,h4⟩:=h;exact⟨c',hw.trans F,H,h3.mono hle,h4⟩|map es clock=>have⟨hg,b0,F,H,h3⟩:=h;refine⟨hg,b0,hw.trans F,H,λj e e' x y=>?_⟩;have⟨a,b,c,d⟩:=h3 j e e' x y;exact⟨a,b,c,d.mono hle⟩|loop r=>have⟨hg,r',nt,F,H,h3,h4,h5,h6,h7,h8,h9⟩:=h;exact⟨hg,r',nt,hw.trans F,H,h3,h4,h5,h6,h7,λt ht=>(h8 t ht).mono hle,h9⟩|ro c=>have⟨hg,c',e',fz,F,H,h3⟩:=h;exact⟨hg,c',e',fz,hw.trans F,H,λj u u' x y z=>(h3 j u u' x y z).mono hle⟩
def Sg.add(σ:Sg)(b:Nat)(i:BI):Sg:=λc=>if c=b then some i else σ c
def Sg.add_same(b:Nat)(i:BI):(σ.add b i) b=some i:=by simp[Sg.add]
def Sg.zb(h:σ b=none):σ.le (σ.add b i):=by intro c j F;unfold Sg.add;grind
def eW.ny(h:eW P σ m w):σ m.n=none:=by cases F:σ m.n with|none=>rfl|some i=>have:=h.vd _ _ F;omega
def Ev.uq{o:Obj}(h:eW P σ m w)
  (hh:Holds (σ.add m.n ⟨w.heap.size,gr⟩) ⟨w.heap.size,gr⟩ (w.alloc o) ob):Ev P σ m w (σ.add m.n ⟨w.heap.size,gr⟩) (m.push ob) (w.alloc o):=by have hn:=h.ny;have hle:=Sg.zb (i:=⟨w.heap.size,gr⟩) hn;have hold:∀B,B<w.heap.size->(w.alloc o).heap[B]?=w.heap[B]?:=λB hB=>heap_alloc_old w o hB;have h0:(m.push ob).n=m.n+1:=rfl;have i0:(w.alloc o).heap.size=w.heap.size+1:=co;have F:∀b i,(σ.add m.n ⟨w.heap.size,gr⟩) b=some i->(b=m.n/\i=⟨w.heap.size,gr⟩)\/(b≠m.n/\σ b=some i):=(by intro b i H;unfold Sg.add at H;grind);refine⟨hle,⟨?_,?_,?_,?_,?_⟩,R8 _,Z,Z,?_,?_,λB hB _=>hold B hB,rfl,rfl,rfl⟩;intro b i H;rcases F b i H with⟨rfl,_⟩|⟨_,H⟩;omega;have:=h.vd b i H;omega;intro b i H;rw[M.kG];rcases F b i H with⟨rfl,rfl⟩|⟨d0,H⟩;grind;rw[ND d0];exact(h.obj b i H).aX hle (hold _ (h.lt b i H));intro b i H;rcases F b i H with⟨_,rfl⟩|⟨_,H⟩;grind;have:=h.lt b i H;omega;intro b b' i i' H b0 hd e0 he;rw[M.kG]at hd e0;rcases F b i H with⟨rfl,rfl⟩|⟨d0,H⟩ <;>rcases F b' i' b0 with⟨rfl,rfl⟩|⟨g0,b0⟩;rfl;have:=h.lt b' i' b0;dsimp only at he;omega;have:=h.lt b i H;dsimp only at he;omega;rw[ND d0]at hd;rw[ND g0]at e0;exact h.inj b b' i i' H b0 hd e0 he;intro g hg;exact hle g _ (h.mI g hg);grind;intro b _ H;rw[M.kG,ND Z]
def Ev.write(h:eW P σ m w)(hb:σ b=some i)(hd:m.get b≠.dead)(hh:Holds σ i w' ob)
  (hw:∀B,B≠i.dL->w'.heap[B]?=w.heap[B]?) (hs:w'.heap.size=w.heap.size) (ho:w'.os=w.os) (ht:w'.tape=w.tape) (hu:w'.output=w.output):
  Ev P σ m w σ (m.set b ob) w':=by have H:=M.oh hd;have h0:(m.set b ob).low=min m.low b:=rfl;refine⟨λ_ _ x=>x,⟨h.vd,?_,λc j F=>(by rw[hs];exact h.lt c j F),?_,h.mI⟩,Z,R8 _,Z,λc j F hn=>J,?_,?_,ho,ht,hu⟩;intro c j F;rw[M.cF _ _ _ _ H];by_cases b0:c=b;grind;rw[ND b0];by_cases d0:m.get c=.dead;rw[d0];trivial;exact(h.obj c j F).aX (λ_ _ x=>x) (hw _ (λe=>b0 (h.inj c b j i F hb d0 hd e)));intro c c' j j' F g0 hl e0 he;rw[M.cF _ _ _ _ H]at hl e0;have live:∀x,(if x=b then ob else m.get x)≠.dead->m.get x≠.dead:=(by grind);exact h.inj c c' j j' F g0 (live _ hl) (live _ e0) he;intro c F i0;rw[M.cF _ _ _ _ H,ND Z];grind
def Ev.Qe(h:eW P σ m w)(hb:σ b=some i)(hd:m.get b≠.dead)
  (hh:Holds (σ.add m.n ⟨i.dL,gr⟩) ⟨i.dL,gr⟩ w' ob)
  (hw:∀B,B≠i.dL->w'.heap[B]?=w.heap[B]?) (hs:w'.heap.size=w.heap.size) (ho:w'.os=w.os) (ht:w'.tape=w.tape) (hu:w'.output=w.output):
  Ev P σ m w (σ.add m.n ⟨i.dL,gr⟩) ((m.set b .dead).push ob) w':=by have k0:=M.oh hd;have hn:=h.ny;have hle:=Sg.zb (i:=⟨i.dL,gr⟩) hn;have l0:(m.set b .dead).n=m.n:=rfl;have o0:((m.set b .dead).push ob).n=m.n+1:=rfl;have n0:((m.set b .dead).push ob).low=min m.low b:=rfl;have g0:∀c,((m.set b .dead).push ob).get c=if c=m.n then ob else if c=b then .dead else m.get c:=(by intro c;rw[M.kG,l0,M.cF _ _ _ _ k0]);have F:∀c j,(σ.add m.n ⟨i.dL,gr⟩) c=some j->(c=m.n/\j=⟨i.dL,gr⟩)\/(c≠m.n/\σ c=some j):=(by intro c j hc;unfold Sg.add at hc;grind);refine⟨hle,⟨?_,?_,?_,?_,?_⟩,Z,Z,Z,?_,?_,?_,ho,ht,hu⟩;intro c j hc;rcases F c j hc with⟨rfl,_⟩|⟨_,hc⟩;omega;have:=h.vd c j hc;omega;intro c j hc;rw[g0];rcases F c j hc with⟨rfl,rfl⟩|⟨d0,hc⟩;grind;rw[ND d0];by_cases H:c=b;rw[UG H];trivial;rw[ND H];by_cases i0:m.get c=.dead;rw[i0];trivial;exact(h.obj c j hc).aX hle (hw _ (λe=>H (h.inj c b j i hc hb i0 hd e)));intro c j hc;rcases F c j hc with⟨_,rfl⟩|⟨_,hc⟩;have:=h.lt b i hb;rw[hs];exact this;rw[hs];exact h.lt c j hc;intro c c' j j' hc e0 hl b0 he;rw[g0]at hl b0;rcases F c j hc with⟨rfl,rfl⟩|⟨d0,hc⟩ <;>rcases F c' j' e0 with⟨rfl,rfl⟩|⟨h0,e0⟩;rfl;rw[ND h0]at b0;by_cases H:c'=b;grind;rw[ND H]at b0;exact absurd (h.inj b c' i j' hb e0 hd b0 he).symm H;rw[ND d0]at hl;by_cases H:c=b;grind;rw[ND H]at hl;exact absurd (h.inj c b j i hc hb hl hd he) H;rw[ND d0]at hl;rw[ND h0]at b0;by_cases H:c=b;grind;by_cases j0:c'=b;grind;rw[ND H]at hl;rw[ND j0]at b0;exact h.inj c c' j j' hc e0 hl b0 he;intro g hg;exact hle g _ (h.mI g hg);grind;grind;grind
def eW.of_heap(h:eW P σ m w)(he:w'.heap=w.heap):eW P σ m w':=⟨h.vd,λb i F=>(h.obj b i F).aX (λ_ _ x=>x) (by rw[he]),λb i F=>(by rw[he];exact h.lt b i F),h.inj,h.mI⟩
def Ev.of_heap(h:eW P σ m w)(he:w'.heap=w.heap)(F:w'.os=w.os)(H:w'.tape=w.tape)(hu:w'.output=w.output):Ev P σ m w σ m w':=⟨λ_ _ x=>x,h.of_heap he,R8 _,R8 _,J,λb i x y=>J,λ_ _ _=>rfl,λ_ _ _=>(by rw[he]),F,H,hu⟩
end
section
section
variable {E:Env} {P:Program}
structure TIF(P:Program)(t:TypeId)(ti:TI)(i:TypeInfo)(u:TypeDesc):Prop where
 info:P.info? t=some i
 gU:P.underlying t=some u
 d:ti.d=jM P u
 size:ti.size=i.size
 bytes:ti.bytes=i.bytes
 zero:ti.zero=i.zero
 es:ti.es=CS P u
 cmp:ti.cmp=LB P t u
def Env.OK.oI(hE:E.OK P){t:TypeId}{ti:TI}(h:E.ty.get t=some ti):∃i u,TIF P t ti i u:=by have h:=hE.ty t ti h;unfold XC at h;cases hi:P.info? t with|none=>rw[hi]at h;simp at h|some i=>cases hu:P.underlying t with|none=>rw[hi,hu]at h;simp at h|some u=>rw[hi,hu]at h;simp only[Option.bind_eq_bind,RM,DS]at h;subst h;exact⟨i,u,hi,hu,rfl,rfl,rfl,rfl,rfl,rfl⟩
def bw.gI{σ:Sg}{v:O}(h:aZ v):bw σ v v:=by cases v with|tuple F=>refine .tuple _ _ rfl λj u H a b=>?_;rw[a]at b;cases b;exact .mn (SB.1 h u J)|_=>exact .mn h
def Env.OK.flat(hE:E.OK P){t:TypeId}{ti:TI}{z:O}(h:E.ty.get t=some ti)(H:ti.zero=some z):aZ z:=by have F:=hE.IA;unfold Env.IA at F;simp only[G4]at F;have:=SB.1 F.1 _ (Tr.get_mem E.ty t 1 0 h);grind
def Env.OK.fld(hE:E.OK P){t:TypeId}{ti:TI}{fs:List Fd}{f:Fd}(h:E.ty.get t=some ti)(hd:ti.d=.struct fs)(hf:f∈fs):∃fi,E.ty.get f.ty=some fi/\fi.size=f.size:=by have H:=hE.IA;unfold Env.IA at H;simp only[G4]at H;have:=SB.1 H.1 _ (Tr.get_mem E.ty t 1 0 h);simp only[G4,hd]at this;have F:=SB.1 this.2 f hf;cases hg:E.ty.get f.ty with|none=>rw[hg]at F;simp at F|some fi=>rw[hg]at F;exact⟨fi,rfl,by simpa using F⟩
def Env.OK.code(hE:E.OK P){f:FuncId}{fn:Func}(h:E.fn.get f=some fn):nc P.globals.size fn:=by have F:=hE.IA;unfold Env.IA at F;simp only[G4]at F;have:=SB.1 F.2.1 _ (Tr.get_mem E.fn f 1 0 h);rw[hE.G]at this;grind
def Env.OK.WE(hE:E.OK P){f:FuncId}{d:LO}(h:E.df.get f=some d):nc P.globals.size d.fn:=by have F:=hE.IA;unfold Env.IA at F;simp only[G4]at F;have:=SB.1 F.2.2.1 _ (Tr.get_mem E.df f 1 0 h);rw[hE.G]at this;grind
def Env.OK.WG(hE:E.OK P){f:FuncId}{d:Wa}(h:E.cl.get f=some d):nc P.globals.size d.fn:=by have F:=hE.IA;unfold Env.IA at F;simp only[G4]at F;have:=SB.1 F.2.2.2 _ (Tr.get_mem E.cl f 1 0 h);rw[hE.G]at this;grind
def uz{u:TypeDesc}(h:jM P u=.bool):u=.bool:=by cases u <;>simp[jM]at h⊢
def oe{u:TypeDesc}{k:IntKind}(h:jM P u=.int k):u=.int k:=by cases u <;>simp[jM]at h⊢;exact h
def kB{u:TypeDesc}(h:jM P u=.str):u=.string:=by cases u <;>simp[jM]at h⊢
def dX{u:TypeDesc}(h:jM P u=.slice e):u=.slice e:=by cases u <;>simp[jM]at h⊢;exact h
def lG{u:TypeDesc}(h:jM P u=.array n e):u=.array n e:=by cases u <;>simp[jM]at h⊢;exact h
def od{u:TypeDesc}{k:Nat}(h:jM P u=.map k e):u=.map k e:=by cases u <;>simp[jM]at h⊢;exact h
def yZ{u:TypeDesc}(h:jM P u=.func):∃a b c,u=.func a b c:=by cases u <;>simp[jM]at h⊢
def xC(P:Program)(f:Field):Fd:=⟨f.type,f.offset,((P.info? f.type).map (·.size)).getD 0,f.name== "_" ||(P.info? f.type).isNone⟩
def Hy{u:TypeDesc}(h:jM P u=.ptr e):u=.pointer e:=by cases u <;>simp[jM]at h⊢;exact h
def Ck{u:TypeDesc}{b:Bool}(h:jM P u=.iface b):∃ms:Array (String×TypeId),u=.interface ms/\ms.isEmpty=b:=by cases u <;>simp[jM]at h⊢;exact h
def iX{u:TypeDesc}{F:List Fd}(h:jM P u=.struct F):∃gs:Array Field,u=.struct gs/\F=gs.toList.map (xC P):=by cases u <;>simp[jM]at h;exact⟨_,rfl,h.symm⟩
def xB(u:TypeDesc)(w:World)(t:TypeId)(h:P.underlying t=some u):(isAgg t).run P w=.ok (jM P u).agg w:=by unfold isAgg;rw[UD,NF h,Rr];cases u <;>rfl
def run_typeInfo{i:TypeInfo}(h:P.info? t=some i)(w:World):(typeInfo t).run P w=.ok i w:=by simp[typeInfo,program,Sem.run,h]
def run_sizeOf{i:TypeInfo}(h:P.info? t=some i)(w:World):(sizeOf t).run P w=.ok i.size w:=by unfold sizeOf;rw[UD,run_typeInfo h];rfl
def eC{i:TypeInfo}{z:O}(h:P.info? t=some i)(F:i.zero=some z)(w:World):(zeroValue t).run P w=.ok z w:=by unfold zeroValue;rw[UD,run_typeInfo h,Rr];simp[F]
variable {σ:Sg} {m m':M} {w:World}
def eW.cells(h:eW P σ m w){b:Nat}{i:BI}(F:σ b=some i){c:ν}{e:TypeId}{g:Option Nat}(H:m.get b=.cells c e g):
  ∃c':Array O,w.heap[i.dL]?=some (.cells c' e (0,0))/\c.length<=c'.size/\bK σ c (c'.toList.take c.length)/\GrOK i c.length c'.size g:=by have:=h.obj b i F;rw[H]at this;exact this
def eW.ro(h:eW P σ m w){b:Nat}{i:BI}(H:σ b=some i){c:ν}(hg:m.get b=.ro c):
  ∃(c':Array O) (e':TypeId) (fz:Nat×Nat),w.heap[i.dL]?=some (.cells c' e' fz)/\c.length<=c'.size/\∀(j:Nat) u F,c[j]?=some u->c'[j]?=some F->one u->bw σ u F:=by have:=h.obj b i H;rw[hg]at this;exact this.2
def eQ(b o n:Nat):(⟨b,o,none⟩:Addr).add n=⟨b,o+n,none⟩:=by unfold Addr.add;split <;>simp_all
theorem jD(hs:eW P σ m w){a:Addr}{i:BI}(ha:σ a.block=some i){n:Nat}{cs:ν}(h:loadCells m a n=some cs):
  ∃H:ν,(Go.loadCells ⟨i.dL,a.off,none⟩ n).run P w=.ok H.toArray w/\bK σ cs H/\cs.length=n/\a.spot=none:=by unfold loadCells at h;split at h;rename_i c e g hg;(cases F:(a.spot.isNone && Nat.ble (a.off+n) c.length)with|false=>rw[F]at h;simp at h|true=>rw[F]at h;simp only[gc,DS]at h;subst h;simp only[G4]at F;have hle:=Jg F.2;have⟨c',h1,h2,h3,_⟩:=hs.cells ha hg;have hlen:((c.drop a.off).take n).length=n:=J;refine⟨((c'.toList.take c.length).drop a.off).take n,?_,(h3.drop _).take _,hlen,dg⟩;have:=run_loadCells_list (P:=P) w ⟨i.dL,a.off,none⟩ (((c'.toList.take c.length).drop a.off).take n) (λj v hj=>by rw[eQ];have b0:j<n:=(by grind);simp only[World.cell?,h1];grind);grind);rename_i c hg;(cases F:(a.spot.isNone && Nat.ble (a.off+n) c.length && ((c.drop a.off).take n).all one)with|false=>rw[F]at h;simp at h|true=>rw[F]at h;simp only[gc,DS]at h;subst h;simp only[G4]at F;have hle:=Jg F.1.2;have⟨c',e',fz,h1,h2,h3⟩:=hs.ro ha hg;have hlen:((c.drop a.off).take n).length=n:=J;have hr:bK σ ((c.drop a.off).take n) ((c'.toList.drop a.off).take n):=⟨J,λj u u' x y=>by grind⟩;refine⟨(c'.toList.drop a.off).take n,?_,hr,hlen,dg⟩;have:=run_loadCells_list (P:=P) w ⟨i.dL,a.off,none⟩ ((c'.toList.drop a.off).take n) (λj v hj=>by rw[eQ];have b0:j<n:=(by grind);simp only[World.cell?,h1];grind);grind);cases h
theorem Gg(hs:eW P σ m w){a:Addr}{i:BI}(ha:σ a.block=some i){v:O}(h:cellAt m a=some v):
  ∃v',w.cell? ⟨i.dL,a.off,none⟩=some v'/\bw σ v v'/\a.spot=none:=by unfold cellAt at h;split at h;rename_i c e g hg;by_cases b0:a.spot.isNone=true;rw[UG b0]at h;have⟨c',h1,h2,h3,_⟩:=hs.cells ha hg;have⟨u',hu,hr⟩:=h3.get h;have d0:=(Nr.1 h).1;rw[XM d0]at hu;exact⟨u',by simp only[World.cell?,h1];simpa using hu,hr,dg⟩;grind;rename_i c hg;by_cases b0:a.spot.isNone=true;rw[UG b0]at h;have⟨c',e',fz,h1,h2,h3⟩:=hs.ro ha hg;(cases hx:c[a.off]? with|none=>rw[hx]at h;cases h|some u=>rw[hx]at h;dsimp only at h;cases F:one u with|false=>rw[F]at h;cases h|true=>rw[F]at h;simp only[gc,DS]at h;subst h;have d0:=(Nr.1 hx).1;have H:a.off<c'.size:=Z;exact⟨c'[a.off],by simp only[World.cell?,h1];simp[H],h3 _ _ _ hx (P3 H) F,dg⟩);grind;cases h
theorem py(hE:E.OK P)(hs:eW P σ m w){t:TypeId}{a:Addr}{i:BI}(ha:σ a.block=some i){v:O}(h:loadVar E m t a=some v):
  ∃v',(Go.loadVar t ⟨i.dL,a.off,none⟩).run P w=.ok v' w/\bw σ v v'/\a.spot=none:=by unfold loadVar at h;split at h;rename_i ti H;have⟨inf,u,f⟩:=hE.oI H;unfold Go.loadVar;rw[UD,xB u w t f.gU,Rr,<-f.d];(cases F:ti.d.agg with|true=>rw[F]at h;simp only[gc,R7]at h;obtain⟨cs,b0,rfl⟩:=h;have⟨d0,h1,h2,_,h4⟩:=jD hs ha b0;refine⟨.agg d0.toArray,?_,h2.agg,h4⟩;simp only[R3,UD,run_sizeOf f.info,Rr];rw[<-f.size,h1];rfl|false=>rw[F]at h;simp only[I2]at h;have⟨v',h1,h2,h3⟩:=Gg hs ha h;simp_all);cases h
def IV{σ:Sg}{c c':ν}{o:Nat}(hl:c.length<=c'.length)(h:bK σ c (c'.take c.length))(H:bK σ vs F)(ho:o+vs.length<=c.length):
  bK σ (c.take o++(vs++c.drop (o+vs.length))) ((c'.take o++F++c'.drop (o+F.length)).take c.length):=by have e:(c'.take o++F++c'.drop (o+F.length)).take c.length=(c'.take c.length).take o++(F++(c'.take c.length).drop (o+F.length)):=(by have b0:=H.1;rw[NZ,List.take_append,List.take_append,zm,ZO];have h1:min o c'.length=o:=Z;have h2:List.take c.length (List.take o c')=List.take o c':=J;rw[h1,MM (l:=F) Z,zm];congr 1;grind;congr 1;rw[List.take_drop];grind);rw[e,<-H.1];exact(h.take o).append (H.append (h.drop _))
theorem jj(hs:eW P σ m w){a:Addr}{i:BI}(ha:σ a.block=some i){vs F:ν}(hv:bK σ vs F)(h:storeCells m a vs=some m'):
  ∃w',(Go.storeCells ⟨i.dL,a.off,none⟩ F).run P w=.ok () w'/\Ev P σ m w σ m' w'/\a.spot=none/\∀B,B≠i.dL->w'.heap[B]?=w.heap[B]?:=by unfold storeCells at h;split at h;rename_i c e g hg;(cases hc:(a.spot.isNone && Nat.ble (a.off+vs.length) c.length && vs.all one)with|false=>rw[hc]at h;simp at h|true=>rw[hc]at h;simp only[gc,DS]at h;subst h;simp only[G4]at hc;have hle:=Jg hc.1.2;have⟨c',h1,h2,h3,h4⟩:=hs.cells ha hg;have b0:=hv.iy hc.2;have H:=run_storeCells_at (P:=P) i.dL a.off e F 0 c' w h1 (by rw[<-hv.1];omega) b0;simp only[OX]at H;have d0:∀B,B≠i.dL->(w.setRow i.dL (c'.toList.take a.off++F++c'.toList.drop (a.off+F.length)).toArray).heap[B]?=w.heap[B]?:=(by intro B hB;simp only[World.setRow,VS];grind);refine⟨_,H,?_,dg,d0⟩;have hlen:(c'.toList.take a.off++F++c'.toList.drop (a.off+F.length)).length=c'.size:=(by have:=hv.1;grind);refine Ev.write hs ha J ?_ ?_ ?_ rfl rfl rfl;have e0:(c.take a.off++(vs++c.drop (a.off+vs.length))).length=c.length:=J;refine⟨_,setRow_heap w i.dL c' _ e _ h1,?_,?_,?_⟩;grind;rw[e0];exact IV J h3 hv Z;grind;grind;simp_all);cases h
theorem sg(hE:E.OK P)(hs:eW P σ m w){t:TypeId}{a:Addr}{i:BI}(ha:σ a.block=some i){v v':O}(hv:bw σ v v')(h:storeVar E m t a v=some m'):
  ∃w',(Go.storeVar t ⟨i.dL,a.off,none⟩ v').run P w=.ok () w'/\Ev P σ m w σ m' w'/\a.spot=none/\∀B,B≠i.dL->w'.heap[B]?=w.heap[B]?:=by unfold storeVar at h;split at h;rename_i ti H;have⟨inf,u,f⟩:=hE.oI H;have hc:=hv.cells;(cases F:Nat.beq (cells v).length ti.size with|false=>rw[F]at h;simp at h|true=>rw[F]at h;simp only[gc]at h;have he:=L6 F;have⟨w',h1,h2,h3⟩:=jj hs ha hc h;refine⟨w',?_,h2,h3⟩;unfold Go.storeVar;rw[UD,run_sizeOf f.info,Rr];have hl:v'.cells.size=inf.size:=(by rw[<-f.size,<-he,hc.1];simp);grind);cases h
end
end
section
variable{E:Env}{P:Program}{w:World}
theorem je:∀{F:List Kd} {xs ys:ν} {b:Bool},cM F xs ys=some b->xs.length=F.length/\ys.length=F.length
 |[],[],[],_,_=>⟨rfl,rfl⟩
 |[],[],_::_,_,h=>by simp[cM]at h
 |[],_::_,_,_,h=>by simp[cM]at h
 |_::_,[],_,_,h=>by simp[cM]at h
 |_::_,_::_,[],_,h=>by simp[cM]at h
 |k::F,a::x,c::y,b,h=>by unfold cM at h;split at h;rename_i H;have⟨e1,e2⟩:=je H;grind;cases h
theorem om:∀{F H:List Kd} {xs ys:ν} {b:Bool},cM (F++H) xs ys=some b->
  ∃b1 b2,cM F (xs.take F.length) (ys.take F.length)=some b1/\cM H (xs.drop F.length) (ys.drop F.length)=some b2/\b=(b1 && b2)
 |[],_,_,_,b,h=>⟨true,b,by simp[cM],J,co⟩
 |k::F,H,[],_,_,h=>by simp[cM]at h
 |k::F,H,_::_,[],_,h=>by simp[cM]at h
 |k::F,H,a::x,c::y,b,h=>by simp only[Nw,cM]at h;split at h;rename_i b0 r h0 h1;have⟨c1,c2,e1,e2,e3⟩:=om h1;simp only[DS]at h;exact⟨b0 && c1,c2,by simp[cM,h0,e1],J,J⟩;cases h
def valOf(u:TypeDesc)(cs:ν):O:=
 match u with
 |.struct _ |.array _ _=> .agg cs.toArray
 |_=>cs.headD undef
def LM:TypeDesc->Nat->Prop
 |.struct _,_=>True
 |.array _ _,_=>True
 |_,n=>n=1
theorem ve(F:List Kd):∀n:Nat,(re F n).length=n*F.length
 |0=>by simp[re]
 |n+1=>by unfold re;rw[I8,ve F n,IM];omega
theorem wK{i:TypeInfo}{u:TypeDesc}(hi:P.info? t=some i)(hu:P.underlying t=some u)(cs:ν)(off:Nat)(h:off+i.size<=cs.length)
  (h1:LM u i.size):(Go.part t cs.toArray off).run P w=.ok (valOf u ((cs.drop off).take i.size)) w:=by
 have F:cs.toArray.extract off (off+i.size)=((cs.drop off).take i.size).toArray:=(by grind);have b0:=xB (P:=P) u w t hu;unfold Go.part;rw[UD,b0,Rr]
 have basic:(jM P u).agg=false->i.size=1->valOf u ((cs.drop off).take i.size)=cs[off]?.getD undef->
   (if(jM P u).agg=true then do let n<-sizeOf t;pure (Value.agg (cs.toArray.extract off (off+n)))else match cs.toArray[off]? with |some v=>pure v |none=>stuck "part: no such cell" :Sem O).run P w=.ok (valOf u ((cs.drop off).take i.size)) w:=by
  intro ha hs hv
  have H:off < cs.length:=Z
  simp_all
 have head:i.size=1->((cs.drop off).take i.size).headD undef=cs[off]?.getD undef:=(by intro hs;have H:off < cs.length:=Z;rw[hs,Mr H,QC H];rfl)
 cases u with
 |struct fs=>
  have:(jM P (.struct fs)).agg:=rfl
  simp only[this,R3,UD,run_sizeOf hi,Rr,RB,F,valOf]
 |array n e=>
  have:(jM P (.array n e)).agg:=rfl
  simp only[this,R3,UD,run_sizeOf hi,Rr,RB,F,valOf]
 |_=>exact basic rfl h1 (head h1)
def F5{d:Nat}{k:Kd}{u:TypeDesc}(hu:P.underlying t=some u)(F:(u=.bool/\k=.b)\/((∃q,u=.int q)/\k=.i)\/(u=.string/\k=.s)){x y:O}{b:Bool}
  (h:Lu k x y=some b):(Op.equalIn (d+1) t x y).run P w=.ok b w:=by rcases F with⟨rfl,rfl⟩|⟨⟨q,rfl⟩,rfl⟩|⟨rfl,rfl⟩;cases x <;>cases y <;>simp[Lu]at h;subst h;simp[Op.equalIn,NF hu];cases x <;>cases y <;>simp[Lu]at h;obtain⟨rfl,rfl⟩:=h;simp[Op.equalIn,NF hu];cases x <;>cases y <;>simp[Lu]at h;subst h;simp[Op.equalIn,NF hu]
def vt{r:Option (List Kd)}{F:List Kd}(h:sized P t r=some F):∃i,P.info? t=some i/\r=some F/\F.length=i.size:=by unfold sized at h;grind
theorem CM(d:Nat)(xs ys:ν)
  (ih:∀(t:TypeId) (H:List Kd) (u:TypeDesc) (x y:ν) (b:Bool),oz P d t=some H->P.underlying t=some u->cM H x y=some b->∀K,d<=K->(Op.equalIn K t (valOf u x) (valOf u y)).run P w=.ok b w)
  (K:Nat) (hK:d<=K):∀(fs:List Field) (off:Nat) (H:List Kd) (b:Bool),kinds (oz P d) fs off=some H->cM H (xs.drop off) (ys.drop off)=some b->
   off+H.length=xs.length->off+H.length=ys.length->(Op.eqFields K xs.toArray ys.toArray fs).run P w=.ok b w
 |[],off,H,b,h,he,_,_=>by simp only[kinds,DS]at h;subst h;have:=(je he);have e1:xs.drop off=[]:=RJ J;have e2:ys.drop off=[]:=RJ J;rw[e1,e2]at he;simp only[cM,DS]at he;subst he;simp[Op.eqFields]
 |f::fs,off,H,b,h,he,hx,hy=>by unfold kinds at h;by_cases hn:f.name= "_";grind;rw[ND hn]at h;by_cases ho:f.offset=off;rw[UG ho]at h;split at h;rename_i k1 b0;split at h;rename_i r hr;(cases h;obtain⟨b1,b2,e1,e2,rfl⟩:=om he;cases d with|zero=>simp[oz]at b0|succ d=>have d0:=b0;unfold oz at b0;have⟨i,hi,F,hlen⟩:=vt b0;cases hu:P.underlying f.type with|none=>rw[hu]at F;simp at F|some u=>simp only[I8]at hx hy;have h1:LM u i.size:=(by rw[hu]at F;cases u <;>simp at F <;>first |trivial |(subst F;exact hlen.symm));have p1:=wK (w:=w) hi hu xs f.offset Z h1;have p2:=wK (w:=w) hi hu ys f.offset Z h1;have q:=ih f.type k1 u _ _ b1 d0 hu (by rw[hlen]at e1;exact e1) K hK;simp only[Xa]at e2;unfold Op.eqFields;rw[UG hn];simp only[UD,p1,p2,Rr];rw[ho,q];have rest:=CM (d+1) xs ys ih K hK fs (off+k1.length) r b2 hr e2 Z Z;cases b1;simp;simp[rest]);cases h;cases h;grind
theorem Ey(d:Nat)(xs ys:ν)(e:TypeId)(i:TypeInfo)(hi:P.info? e=some i)(u:TypeDesc)(hu:P.underlying e=some u)(F:List Kd)(H:oz P d e=some F)(hl:F.length=i.size) (h1:LM u i.size) (ih:∀(t:TypeId) (ks:List Kd) (u:TypeDesc) (x y:ν) (b:Bool),oz P d t=some ks->P.underlying t=some u->cM ks x y=some b->∀K,d<=K->(Op.equalIn K t (valOf u x) (valOf u y)).run P w=.ok b w)
  (K:Nat) (hK:d<=K):∀(n j:Nat) (b:Bool),cM (re F n) (xs.drop (j*i.size)) (ys.drop (j*i.size))=some b->(j+n)*i.size=xs.length->(j+n)*i.size=ys.length->(Op.eqItems K e i.size xs.toArray ys.toArray (List.range' j n)).run P w=.ok b w
 |0,j,b,he,hx,hy=>by simp only[OX]at hx hy;rw[hx,List.drop_length,<-hx,hy,List.drop_length]at he;simp only[re,cM,DS]at he;subst he;simp[Op.eqItems]
 |n+1,j,b,he,hx,hy=>by unfold re at he;obtain⟨b1,b2,e1,e2,rfl⟩:=om he;have hmul:(j+(n+1))*i.size=j*i.size+i.size+n*i.size:=(by grind);have p1:=wK (w:=w) hi hu xs (j*i.size) Z h1;have p2:=wK (w:=w) hi hu ys (j*i.size) Z h1;have q:=ih e F u _ _ b1 H hu (by rw[hl]at e1;exact e1) K hK;rw[Xa,Xa,hl]at e2;have hj:j*i.size+i.size=(j+1)*i.size:=J;rw[hj]at e2;have rest:=Ey d xs ys e i hi u hu F H hl h1 ih K hK n (j+1) b2 e2 J J;rw[NQ];unfold Op.eqItems;simp only[UD,p1,p2,Rr,q];cases b1;simp;grind
theorem Ge:∀(d:Nat) (t:TypeId) (ks:List Kd) (u:TypeDesc) (xs ys:ν) (b:Bool),oz P d t=some ks->P.underlying t=some u->cM ks xs ys=some b->
  ∀K,d<=K->(Op.equalIn K t (valOf u xs) (valOf u ys)).run P w=.ok b w
 |0,_,_,_,_,_,_,h,_,_,_,_=>by simp[oz]at h
 |d+1,t,ks,u,xs,ys,b,h,hu,he,K,hK=>by obtain⟨K,rfl⟩:∃K',K=K'+1:=⟨K-1,Z⟩;unfold oz at h;have⟨i,hi,F,hlen⟩:=vt h;rw[hu]at F;have one:∀k,ks=[k]->∃x y,xs=[x]/\ys=[y]/\Lu k x y=some b:=(by intro k hk;subst hk;have:=je he;match xs,ys,this,he with|[x],[y],_,he=>refine⟨x,y,rfl,rfl,?_⟩;simp only[cM]at he;grind);cases u with|bool=>simp only[DS]at F;obtain⟨x,y,rfl,rfl,hk⟩:=one _ F.symm;exact F5 hu (.inl ⟨rfl,rfl⟩) hk|int q=>simp only[DS]at F;obtain⟨x,y,rfl,rfl,hk⟩:=one _ F.symm;exact F5 hu (.inr (.inl ⟨⟨q,rfl⟩,rfl⟩)) hk|string=>simp only[DS]at F;obtain⟨x,y,rfl,rfl,hk⟩:=one _ F.symm;exact F5 hu (.inr (.inr ⟨rfl,rfl⟩)) hk|struct fs=>simp only at F;by_cases i0:P.stoodInHeld t=true;grind;rw[ND i0]at F;have j0:P.fieldsOf t=fs:=(by unfold Program.fieldsOf;rw[hu]);have k0:=je he;have:=run_equalIn_struct (P:=P) w K t xs.toArray ys.toArray J J;rw[j0]at this;show(Op.equalIn (K+1) t (.agg xs.toArray) (.agg ys.toArray)).run P w=_;rw[this];exact CM d xs ys (λt ks u x y b=>Ge d t ks u x y b) K Z fs.toList 0 ks b F J Z Z|array n e=>simp only at F;split at F;rename_i k1 d0;by_cases hn:n*k1.length<=64;rw[UG hn]at F;(cases F;have k0:=je he;cases d with|zero=>simp[oz]at d0|succ d=>have h0:=d0;unfold oz at d0;have⟨ie,e0,b0,H⟩:=vt d0;cases g0:P.underlying e with|none=>rw[g0]at b0;simp at b0|some ue=>have h1:LM ue ie.size:=(by rw[g0]at b0;cases ue <;>simp at b0 <;>first|trivial|(subst b0;exact H.symm));have n0:(re k1 n).length=n*ie.size:=(by rw[<-H];exact ve k1 n);have l0:P.cellsOf e=ie.size:=(by unfold Program.cellsOf;rw[e0];rfl);have:=run_equalIn_array (P:=P) w K xs.toArray ys.toArray hu e0;rw[l0]at this;show(Op.equalIn (K+1) t (.agg xs.toArray) (.agg ys.toArray)).run P w=_;rw[this,WY];exact Ey (d+1) xs ys e ie e0 ue g0 k1 h0 H h1 (λt ks u x y b=>Ge (d+1) t ks u x y b) K Z n 0 b J J J);grind;cases F|_=>simp at F
end
section
variable{E:Env}{P:Program}{σ:Sg}{m m':M}{w:World}
def bw.int{k:IntKind}{n:Int}(h:bw σ (.int k n) v'):v'=.int k n:=h.bJ rfl
def bw.bool{b:Bool}(h:bw σ (.bool b) v'):v'=.bool b:=h.bJ rfl
def bw.string{s:ByteArray}(h:bw σ (.string s) v'):v'=.string s:=h.bJ rfl
def bw.fW(h:bw σ (.pointer (some a)) v'):∃i,σ a.block=some i/\a.spot=none/\v'=Ω i.dL a.off:=by cases h with|flat _ h=>simp[bL]at h|ptr _ i h F=>exact⟨i,h,F,rfl⟩
theorem bw.ee(h:bw σ (.slice (some a) n c) v'):∃(i:BI) (H:Addr) (c':Nat),σ a.block=some i/\v'=.slice (some H) n c'/\
  ((a.spot=none/\H=⟨i.dL,a.off,none⟩/\((i.gr=none/\c'=c)\/∃k sz N,i.gr=some (k,sz,N)/\(c'=c\/(c<=c'/\a.off+c*k=sz/\a.off+c'*k=N))))\/(n=0/\c=0/\∃k sz N,i.gr=some (k,sz,N)/\a.off=sz)):=by cases h with|flat _ h=>simp[bL]at h|slice _ i _ _ h hs F=>exact⟨i,_,_,h,rfl,.inl ⟨hs,rfl,.inl ⟨F,rfl⟩⟩⟩|jG _ i _ _ c' k sz N h hs F hc=>exact⟨i,_,_,h,rfl,.inl ⟨hs,rfl,.inr ⟨k,sz,N,F,hc⟩⟩⟩|empty _ H i c' k sz N h F ho=>exact⟨i,H,c',h,rfl,.inr ⟨rfl,rfl,k,sz,N,F,ho⟩⟩
def bw.iC(h:bw σ (.slice none n c) v'):n=0/\c=0/\v'=Z9:=by cases h with|flat _ h=>unfold bL at h;grind
def bw.qP{r:Nat}(h:bw σ (.map (some r)) v'):∃i,σ r=some i/\v'=.map (some i.dL):=by cases h with|flat _ h=>simp[bL]at h|map _ i h=>exact⟨i,h,rfl⟩
def bw.yF{b:Option Addr}(h:bw σ (.slice b n c) v'):∃F c',v'=.slice F n c'/\F.isNone=b.isNone:=by cases b with|none=>obtain⟨rfl,rfl,rfl⟩:=h.iC;exact⟨_,_,rfl,rfl⟩|some a=>obtain⟨_,H,c',_,rfl,_⟩:=h.ee;exact⟨_,_,rfl,rfl⟩
def bw.UI{b:Option Nat}(h:bw σ (.map b) v'):∃F,v'=.map F/\F.isNone=b.isNone:=by cases b with|none=>exact⟨_,h.bJ rfl,rfl⟩|some r=>cases h with|flat _ h=>simp[bL]at h|map _ i h=>exact⟨_,rfl,rfl⟩
def bw.Kx{b:Option Addr}(h:bw σ (.pointer b) v'):∃F,v'=.pointer F/\F.isNone=b.isNone:=by cases b with|none=>exact⟨_,h.bJ rfl,rfl⟩|some r=>obtain⟨_,_,_,rfl⟩:=h.fW;exact⟨_,rfl,rfl⟩
def bw.map_nil(h:bw σ (.map none) v'):v'=.map none:=h.bJ rfl
def bw.nj{a:Array O}(h:bw σ (.agg a) v'):∃F:Array O,v'=.agg F/\bK σ a.toList F.toList:=by cases h with|flat _ h=>simp[bL]at h|agg _ F ha H=>exact⟨F,rfl,J,λj u u' x y=>H j u u' J J⟩
def bw.yz{a:Array O}(h:bw σ (.tuple a) v'):∃F:Array O,v'=.tuple F/\bK σ a.toList F.toList:=by cases h with|flat _ h=>simp[bL]at h|tuple _ F ha H=>exact⟨F,rfl,J,λj u u' x y=>H j u u' J J⟩
def bw.CL{f:FuncId}{a b:Array O}(h:bw σ (.func (.func f) a b) v'):∃F H:Array O,v'=.func (.func f) F H/\bK σ a.toList F.toList/\bK σ b.toList H.toList:=by cases h with|flat _ h=>simp[bL]at h;obtain⟨rfl,rfl⟩:=h;exact⟨_,_,rfl,bK.nil,bK.nil⟩|func _ _ _ F H ha hb h1 h2=>exact⟨F,H,rfl,⟨J,λj u u' x y=>h1 j u u' J J⟩,⟨J,λj u u' x y=>h2 j u u' J J⟩⟩
def SE{k:Kd}{y x' y':O}{b:Bool}(h:Lu k x y=some b)(F:bw σ x x')(H:bw σ y y'):x'=x/\y'=y:=by unfold Lu at h;split at h;exact⟨F.bool,H.bool⟩;exact⟨F.int,H.int⟩;exact⟨F.string,H.string⟩;cases h
theorem xY:∀{ks:List Kd} {x y F H:ν} {b:Bool},cM ks x y=some b->bK σ x F->bK σ y H->F=x/\H=y
 |[],[],[],_,_,_,_,hx,hy=>⟨hx.nil_eq,hy.nil_eq⟩
 |[],[],_::_,_,_,_,h,_,_=>by simp[cM]at h
 |[],_::_,_,_,_,_,h,_,_=>by simp[cM]at h
 |_::_,[],_,_,_,_,h,_,_=>by simp[cM]at h
 |_::_,_::_,[],_,_,_,h,_,_=>by simp[cM]at h
 |k::ks,a::x,c::y,F,H,b,h,hx,hy=>by obtain⟨a',x1,rfl,ha,b0⟩:=hx.cases;obtain⟨c',y1,rfl,hc,d0⟩:=hy.cases;unfold cM at h;split at h;rename_i h1 h2;have⟨q1,q2⟩:=SE h1 ha hc;have⟨q3,q4⟩:=xY h2 b0 d0;grind;cases h
def JG(hE:E.OK P){t:TypeId}{x y x' y':O}{b:Bool}(h:eq? E t x y=some b)(H:bw σ x x')(hy:bw σ y y'){d:Nat}(F:12<=d+1):
  (Op.equalIn (d+1) t x' y').run P w=.ok b w:=by unfold eq? at h;split at h;cases h;rename_i ti e0;have⟨inf,u,f⟩:=hE.oI e0;rw[f.d]at h;have d0:∀(xs ys:Array O) (ks:List Kd),x=.agg xs->y=.agg ys->ti.cmp=some ks->cM ks xs.toList ys.toList=some b->(∀cs,valOf u cs=.agg cs.toArray)->(Op.equalIn (d+1) t x' y').run P w=.ok b w:=(by intro xs ys ks e1 e2 b0 he hv;subst e1;subst e2;obtain⟨a',rfl,ha⟩:=H.nj;obtain⟨c',rfl,hc⟩:=hy.nj;have⟨q1,q2⟩:=xY he ha hc;have g0:oz P 12 t=some ks:=(by rw[f.cmp]at b0;unfold LB at b0;grind);have:=Ge (w:=w) 12 t ks u _ _ b g0 f.gU he (d+1) F;simp_all);split at h;rename_i F;cases h;rw[H.bool,hy.bool];simp[Op.equalIn,NF (f.gU.trans (by rw[uz F]))];rename_i F;split at h;rename_i hk;subst hk;cases h;rw[H.int,hy.int];simp[Op.equalIn,NF (f.gU.trans (by rw[oe F]))];cases h;rename_i F;cases h;rw[H.string,hy.string];simp[Op.equalIn,NF (f.gU.trans (by rw[kB F]))];rename_i F;obtain⟨gs,rfl,_⟩:=iX F;split at h;rename_i ks b0;exact d0 _ _ ks rfl rfl b0 h (λ_=>rfl);cases h;rename_i F;obtain rfl:=lG F;split at h;rename_i ks b0;exact d0 _ _ ks rfl rfl b0 h (λ_=>rfl);cases h;rename_i F;cases h;obtain⟨rfl,rfl,rfl⟩:=H.iC;have hu:=f.gU.trans (by rw[dX F]);obtain⟨b',c',rfl,hb⟩:=hy.yF;rw[<-hb];simp[Op.equalIn,NF hu];rename_i F;cases h;obtain⟨rfl,rfl,rfl⟩:=hy.iC;obtain⟨_,a',c',_,rfl,_⟩:=H.ee;have hu:=f.gU.trans (by rw[dX F]);simp[Op.equalIn,NF hu];rename_i F;cases h;rw[H.map_nil];have hu:=f.gU.trans (by rw[od F]);obtain⟨b',rfl,hb⟩:=hy.UI;rw[<-hb];simp[Op.equalIn,NF hu];rename_i F;cases h;rw[hy.map_nil];obtain⟨_,_,rfl⟩:=H.qP;have hu:=f.gU.trans (by rw[od F]);simp[Op.equalIn,NF hu];rename_i F;cases h;obtain⟨a,c,e,rfl⟩:=yZ F;rw[H.bJ rfl,hy.bJ rfl];simp[Op.equalIn,NF f.gU];rename_i F;cases h;obtain⟨a,c,e,rfl⟩:=yZ F;rw[H.bJ rfl];cases hy <;>simp[Op.equalIn,NF f.gU];rename_i F;cases h;obtain⟨a,c,e,rfl⟩:=yZ F;rw[hy.bJ rfl];cases H <;>simp[Op.equalIn,NF f.gU];rename_i F;cases h;have hu:=f.gU.trans (by rw[Hy F]);rw[H.bJ rfl];obtain⟨b',rfl,hb⟩:=hy.Kx;rw[<-hb];simp[Op.equalIn,NF hu];rename_i F;cases h;have hu:=f.gU.trans (by rw[Hy F]);rw[hy.bJ rfl];obtain⟨_,_,_,rfl⟩:=H.fW;simp[Op.equalIn,NF hu];rename_i F;cases h;obtain⟨ms,rfl,_⟩:=Ck F;rw[H.bJ rfl,hy.bJ rfl];simp[Op.equalIn,NF f.gU];cases h
def tA(hE:E.OK P){t:TypeId}{x y F H:O}{b:Bool}(h:eq? E t x y=some b)(hx:bw σ x F)(hy:bw σ y H):(Op.equal t F H).run P w=.ok b w:=
 JG hE h hx hy (d:=9999) Z
def zT(hE:E.OK P){t:TypeId}{x y x' y':O}{b:Bool}(h:eq? E t x y=some b)(F:bw σ x x')(hy:bw σ y y')(op:BinOp)(xo yo:Operand):(eqGuard op t xo yo x' y').run P w=.ok () w:=by unfold eq? at h;split at h;cases h;rename_i ti b0;have⟨inf,u,f⟩:=hE.oI b0;have calm:∀ks,ti.cmp=some ks->P.eqGuardType P.depth t=false:=(by intro ks H;rw[f.cmp]at H;unfold LB at H;grind);split at h;rw[F.bool];rw[eqGuard_at_bool];rfl;rw[F.int];rw[eqGuard_at_int];rfl;rw[F.string];rw[eqGuard_at_string];rfl;split at h;rename_i ks H;obtain⟨a',rfl,ha⟩:=F.nj;obtain⟨c',rfl,hc⟩:=hy.nj;exact run_eqGuard_agg w op t xo yo a' c' (calm ks H);cases h;split at h;rename_i ks H;obtain⟨a',rfl,ha⟩:=F.nj;obtain⟨c',rfl,hc⟩:=hy.nj;exact run_eqGuard_agg w op t xo yo a' c' (calm ks H);cases h;obtain⟨rfl,rfl,rfl⟩:=F.iC;rw[eqGuard_at_slice];rfl;obtain⟨_,a',c',_,rfl,_⟩:=F.ee;rw[eqGuard_at_slice];rfl;rw[F.map_nil,eqGuard_at_map];rfl;obtain⟨_,_,rfl⟩:=F.qP;rw[eqGuard_at_map];rfl;rw[F.bJ rfl,eqGuard_at_nilFunc];rfl;rw[F.bJ rfl,eqGuard_at_nilFunc];rfl;cases F <;>(rw[eqGuard_at_func];rfl);rw[F.bJ rfl];obtain⟨b',rfl,_⟩:=hy.Kx;unfold eqGuard;split <;>rfl;obtain⟨_,_,_,rfl⟩:=F.fW;unfold eqGuard;split <;>rfl;rename_i hd;rw[f.d]at hd;obtain⟨ms,rfl,he⟩:=Ck hd;rw[F.bJ rfl,hy.bJ rfl];have hg:(Op.eqGuardIn (9999+1) t .nilIface .nilIface).run P w=.ok false w:=(by unfold Op.eqGuardIn;rw[UD,NF f.gU];simp_all);have hg:(Op.eqGuardIn Op.maxDepth t .nilIface .nilIface).run P w=.ok false w:=hg;generalize hG:Op.eqGuardIn Op.maxDepth t .nilIface .nilIface=G at hg;have key:(do if<-G then unsupported (.noEntry "binop/eql: two nil values of an interface type with methods, neither of them the literal nil"):Sem Unit).run P w=.ok () w:=(by simp_all);unfold eqGuard;simp_all;cases h
end
section
variable{E:Env}{P:Program}{σ:Sg}{m m':M}{w:World}
def pA:O->Bool
 |.int _ _ |.float _ _ |.complex _ _ _ |.string _=>false
 |_=>true
theorem bw.pA{F:O}(h:bw σ x F):pA F=pA x:=by cases h <;>rfl
def H3{y:O}{b:Bool}(h:eq? E t x y=some b)(hi:∀k a k' b,x=.int k a->y=.int k' b->False)(H:∀a b,x=.string a->y=.string b->False):pA x:=by unfold eq? at h;cases F:E.ty.get t with|none=>rw[F]at h;simp at h|some ti=>rw[F]at h;have⟨d,_,_,_,_,_⟩:=ti;cases x with|int k a=>(cases d <;>cases y <;>first|(simp at h;done)|exact(hi _ _ _ _ rfl rfl).elim)|string a=>(cases d <;>cases y <;>first|(simp at h;done)|exact(H _ _ rfl rfl).elim)|float k a=>cases d <;>simp at h|complex k a b=>cases d <;>simp at h|_=>rfl
def De{y:O}(h:pA x):binOp .eql t x y=(do pure (.bool (<-Op.equal t x y))):=by cases x <;>simp[pA]at h <;>cases y <;>rfl
def aek{y:O}(h:pA x):binOp .neq t x y=(do pure (.bool (!(<-Op.equal t x y)))):=by cases x <;>simp[pA]at h <;>cases y <;>rfl
def acE{op:BinOp}{k:IntKind}{a b:Int}{v:O}(h:kQ op k a b=some v):(binOp op t (.int k a) (.int k b)).run P w=.ok v w/\bL v:=by unfold kQ at h;cases op <;>simp only[DS,reduceCtorEq]at h;(case quo=>split at h;cases h;cases h;rename_i F;exact⟨by simp[binOp,Op.intDiv,F],rfl⟩);(case rem=>split at h;cases h;cases h;rename_i F;exact⟨by simp[binOp,Op.intDiv,F],rfl⟩);all_goals subst h;exact⟨by simp[binOp,Op.intArith,Op.intBits,Op.intCmp],rfl⟩
def J1{op:BinOp}{a b:ByteArray}{v:O}(h:J2 op a b=some v):(binOp op t (.string a) (.string b)).run P w=.ok v w/\bL v:=by unfold J2 at h;cases op <;>simp only[DS,reduceCtorEq]at h;(case add=>split at h;cases h;cases h;rename_i F;exact⟨by simp only[binOp,Op.stringOp,ND F];rfl,rfl⟩);all_goals subst h;exact⟨by simp[binOp,Op.stringOp],rfl⟩
theorem EW(hE:E.OK P){op:BinOp}{t:TypeId}{x y x' y' v:O}(h:bE E op t x y=some v)(H:bw σ x x')(hy:bw σ y y')(xo yo:Operand):
  (eqGuard op t xo yo x' y' >>=λ_=>binOp op t x' y').run P w=.ok v w/\bL v:=by unfold bE at h;split at h;rw[H.int,hy.int];split at h;cases h;cases h;rename_i hb;exact⟨by rw[eqGuard_shl];simp[binOp,Op.shift,hb],rfl⟩;rw[H.int,hy.int];split at h;cases h;cases h;rename_i hb;exact⟨by rw[eqGuard_shr];simp[binOp,Op.shift,hb],rfl⟩;rw[H.int,hy.int];split at h;rename_i hk;subst hk;have⟨h1,h2⟩:=acE (P:=P) (w:=w) (t:=t) h;exact⟨by rw[eqGuard_at_int];simpa using h1,h2⟩;cases h;rw[H.string,hy.string];have⟨h1,h2⟩:=J1 (P:=P) (w:=w) (t:=t) h;exact⟨by rw[eqGuard_at_string];simpa using h1,h2⟩;rename_i hi hs;(cases F:eq? E t x y with|none=>rw[F]at h;simp at h|some b=>rw[F]at h;simp only[F4,DS]at h;subst h;have hh:=H3 F (λk a k' b e1 e2=>hi _ _ _ _ e1 e2) (λa b e1 e2=>hs _ _ e1 e2);have hg:=zT (w:=w) hE F H hy .eql xo yo;have he:=tA (w:=w) hE F H hy;refine⟨?_,rfl⟩;rw[De (by rw[H.pA];exact hh),UD,hg,Rr,UD,he];rfl);rename_i hi hs;(cases F:eq? E t x y with|none=>rw[F]at h;simp at h|some b=>rw[F]at h;simp only[F4,DS]at h;subst h;have hh:=H3 F (λk a k' b e1 e2=>hi _ _ _ _ e1 e2) (λa b e1 e2=>hs _ _ e1 e2);have hg:=zT (w:=w) hE F H hy .neq xo yo;have he:=tA (w:=w) hE F H hy;refine⟨?_,rfl⟩;rw[aek (by rw[H.pA];exact hh),UD,hg,Rr,UD,he];rfl);cases h
def GN{op:UnOp}{F v:O}(h:Dr op x=some v)(H:bw σ x F):(Op.unary op F).run P w=.ok v w/\bL v:=by unfold Dr at h;split at h;cases h;rw[H.int];exact⟨by simp[Op.unary,Op.intArith],rfl⟩;cases h;rw[H.bool];exact⟨by simp[Op.unary],rfl⟩;cases h
def JN(hE:E.OK P){s d:TypeId}{x x' v:O}(h:SM E s d x=some v)(hx:bw σ x x'):(convert s d x').run P w=.ok v w/\bL v:=by unfold SM at h;split at h;rename_i si ti k n hs ht;have⟨_,us,fs⟩:=hE.oI hs;have⟨_,ut,F⟩:=hE.oI ht;split at h;rename_i H;cases h;rw[F.d]at H;rw[hx.int];have hu:=F.gU.trans (by rw[oe H]);refine⟨?_,rfl⟩;simp[convert,NF fs.gU,NF hu,Conv.intToInt];cases h;rename_i si ti b hs ht;have⟨_,us,fs⟩:=hE.oI hs;have⟨_,ut,F⟩:=hE.oI ht;split at h;rename_i H;cases h;rw[F.d]at H;rw[hx.string];have hu:=F.gU.trans (by rw[kB H]);refine⟨?_,rfl⟩;simp[convert,NF fs.gU,NF hu];cases h;cases h
theorem BX(hE:E.OK P){t:TypeId}{cs F:ν}{off:Nat}{v:O}(h:part E t cs off=some v)(hc:bK σ cs F):
  ∃v',(Go.part t F.toArray off).run P w=.ok v' w/\bw σ v v':=by unfold part at h;split at h;rename_i H e0;have⟨i,u,f⟩:=hE.oI e0;have b0:=xB (P:=P) u w t f.gU;rw[<-f.d]at b0;unfold Go.part;rw[UD,b0,Rr];(cases ha:H.d.agg with|true=>rw[ha]at h;simp only[gc]at h;(cases hb:Nat.ble (off+H.size) cs.length with|false=>rw[hb]at h;simp at h|true=>rw[hb]at h;simp only[gc,DS]at h;subst h;refine⟨.agg ((F.drop off).take H.size).toArray,?_,((hc.drop off).take H.size).agg⟩;have d0:F.toArray.extract off (off+i.size)=((F.drop off).take H.size).toArray:=(by apply Qd;rw[Array.toList_extract,List.extract_eq_take_drop,f.size];grind);simp only[R3,UD,run_sizeOf f.info,Rr,RB,d0])|false=>rw[ha]at h;simp only[I2]at h;have⟨u',hu,hr⟩:=hc.get h;simp_all);cases h
def zV(hE:E.OK P){t:TypeId}{x x' v:O}{n:Nat}(h:F2 E t x n=some v)(hx:bw σ x x'):∃v',(Instr.field t x' n).run P w=.ok v' w/\bw σ v v':=by unfold F2 at h;split at h;rename_i ti cs H;have⟨i,u,f⟩:=hE.oI H;split at h;rename_i fs hd;rw[f.d]at hd;obtain⟨gs,rfl,rfl⟩:=iX hd;split at h;rename_i fd F;simp only[Uo,R7]at F;obtain⟨g,hg,rfl⟩:=F;obtain⟨d0,rfl,hc⟩:=hx.nj;have⟨v',h1,h2⟩:=BX (w:=w) hE h hc;refine⟨v',?_,h2⟩;have b0:gs[n]?=some g:=J;simp only[Instr.field,UD,NF f.gU,Rr,b0,asAgg,RB];simpa[xC]using h1;cases h;cases h;cases h
def rH(hE:E.OK P){t:TypeId}{x x' v:O}{n:Nat}(h:az E t x n=some v)(hx:bw σ x x'):∃v',(Instr.fieldAt t x' n).run P w=.ok v' w/\bw σ v v':=by unfold az at h;split at h;rename_i ti a d0;have⟨i,u,f⟩:=hE.oI d0;split at h;rename_i fs hd;rw[f.d]at hd;obtain⟨gs,rfl,rfl⟩:=iX hd;split at h;rename_i fd F;simp only[Uo,R7]at F;obtain⟨g,hg,rfl⟩:=F;obtain⟨bi,hb,H,rfl⟩:=hx.fW;(cases hz:Nat.beq (xC P g).size 0 with|true=>rw[hz]at h;simp at h|false=>rw[hz]at h;simp only[I2,DS]at h;subst h;have b0:=S1 hz;cases hi:P.info? g.type with|none=>simp[xC,hi]at b0|some gi=>have e0:gi.size≠0:=(by simpa[xC,hi]using b0);have g0:gs[n]?=some g:=J;have⟨bl,o,sp⟩:=a;simp only at H hb;subst H;refine⟨Ω bi.dL (o+g.offset),?_,?_⟩;simp only[Instr.fieldAt,UD,NF f.gU,Rr,g0,Instr.sureAddr,RB,fieldPlace,run_sizeOf hi,ND e0,eQ];have:((xC P g).off)=g.offset:=rfl;rw[this,eQ];exact .ptr ⟨bl,o+g.offset,none⟩ bi hb rfl);cases h;cases h;cases h
def tz{u:TypeDesc}(hu:CS P u=0->False)(he:u=.slice e\/∃n,u=.array n e):∃F,P.info? e=some F/\CS P u=F.size:=by rcases he with rfl|⟨n,rfl⟩;(cases hi:P.info? e with|none=>simp[CS,hi]at hu|some F=>exact⟨F,rfl,by simp[CS,hi]⟩);cases hi:P.info? e with|none=>simp[CS,hi]at hu|some F=>exact⟨F,rfl,by simp[CS,hi]⟩
def rF(hE:E.OK P){t:TypeId}{x x' y y' v:O}(h:aD E t x y=some v)(hx:bw σ x x')(hy:bw σ y y'):∃v',(Instr.indexAt t x' y').run P w=.ok v' w/\bw σ v v':=by unfold aD at h;split at h;cases h;rename_i ti e0;have⟨i,u,f⟩:=hE.oI e0;split at h;rename_i e a n c k j hd;rw[f.d]at hd;obtain rfl:=dX hd;split at h;rename_i hc;(cases h;obtain⟨ei,F,H⟩:=tz (P:=P) (u:=.slice e) (by rw[<-f.es];omega) (.inl rfl);rw[hy.int];obtain⟨bi,a',c',hb,rfl,b0⟩:=hx.ee;rcases b0 with⟨d0,rfl,_⟩|⟨rfl,rfl,_⟩);have⟨bl,o,sp⟩:=a;subst d0;refine⟨Ω bi.dL (o+j.toNat*ei.size),?_,?_⟩;have h2:0<=j/\j<(n:Int):=⟨hc.1,hc.2.1⟩;simp only[Instr.indexAt,UD,asIntOf,RB,Rr,NF f.gU,UG h2,run_sizeOf F,eQ];rw[f.es,H,eQ];exact .ptr ⟨bl,o+j.toNat*ei.size,none⟩ bi hb rfl;grind;cases h;rename_i n e a k j hd;rw[f.d]at hd;obtain rfl:=lG hd;split at h;rename_i hc;cases h;obtain⟨ei,F,H⟩:=tz (P:=P) (u:=.array n e) (by rw[<-f.es];omega) (.inr ⟨n,rfl⟩);rw[hy.int];obtain⟨bi,hb,d0,rfl⟩:=hx.fW;have⟨bl,o,sp⟩:=a;subst d0;refine⟨Ω bi.dL (o+j.toNat*ei.size),?_,?_⟩;have h2:0<=j/\j<(n:Int):=⟨hc.1,hc.2.1⟩;simp only[Instr.indexAt,UD,asIntOf,RB,Rr,NF f.gU,Instr.sureAddr,UG h2,run_sizeOf F,eQ];rw[f.es,H,eQ];exact .ptr ⟨bl,o+j.toNat*ei.size,none⟩ bi hb rfl;cases h;cases h
def zR(hE:E.OK P){t:TypeId}{x x' y y' v:O}(h:index? E t x y=some v)(hx:bw σ x x')(hy:bw σ y y'):∃v',(Instr.index t x' y').run P w=.ok v' w/\bw σ v v':=by unfold index? at h;split at h;cases h;rename_i ti H;have⟨i,u,f⟩:=hE.oI H;split at h;rename_i n e cs k j F;rw[f.d]at F;obtain rfl:=lG F;split at h;rename_i hc;rw[hy.int];obtain⟨e0,rfl,b0⟩:=hx.nj;have⟨v',h1,h2⟩:=BX (w:=w) hE h b0;refine⟨v',?_,h2⟩;have hp:=h;unfold part at hp;split at hp;rename_i ei d0;have⟨ie,ue,fe⟩:=hE.oI d0;have g0:ti.es=ie.size:=(by rw[f.es];simp[CS,fe.info]);have h3:(0:Int)<=j/\j<(n:Int):=hc;simp only[Instr.index,UD,asIntOf,RB,Rr,NF f.gU,UG h3,run_sizeOf fe.info];simp_all;cases hp;cases h;rename_i s k j F;rw[f.d]at F;obtain rfl:=kB F;split at h;rename_i hc;simp only[R7]at h;obtain⟨b,hb,rfl⟩:=h;rw[hy.int,hx.string];refine⟨.int .u8 b.toNat,?_,.flat _ rfl⟩;simp only[Instr.index,UD,asIntOf,RB,Rr,NF f.gU,UG hc,hb];cases h;cases h
end
section
def DW(P:Program)(σ:Sg)(m:M)(w:World)(s:Sem O)(v:O)(m':M):Prop:=
 ∃σ' w' F,s.run P w=.ok F w'/\bw σ' v F/\Ev P σ m w σ' m' w'
variable{E:Env}{P:Program}{σ:Sg}{m m':M}{w:World}
def DW.pure(F:eW P σ m w){s:Sem O}{v v':O}(h:s.run P w=.ok v' w)(H:bw σ v v'):DW P σ m w s v m:=⟨σ,w,v',h,H,Ev.refl F⟩
def XX(len size:Nat):Option Nat->Option (Nat×Nat×Nat)
 |none=>none
 |some k=>some (k,len,size)
def KL(F:eW P σ m w){c:ν}{c':Array O}{e:TypeId}{g:Option Nat}(H:c.length<=c'.size)(h:bK σ c (c'.toList.take c.length))
  (hg:GrOK ⟨w.heap.size,XX c.length c'.size g⟩ c.length c'.size g):
  Ev P σ m w (σ.add m.n ⟨w.heap.size,XX c.length c'.size g⟩) (m.push (.cells c e g)) (w.alloc (.cells c' e)):=by refine Ev.uq F ⟨c',?_,H,h.mono (Sg.zb F.ny),hg⟩;exact heap_alloc_new w _
def um(F:eW P σ m w){c:ν}{c':Array O}{e:TypeId}(h:bK σ c c'.toList):
  Ev P σ m w (σ.add m.n ⟨w.heap.size,none⟩) (m.push (.cells c e none)) (w.alloc (.cells c' e)):=by have H:c.length=c'.size:=(by simpa using h.1);refine KL (g:=none) F Z ?_ ⟨rfl,H.symm⟩;rw[MM J];exact h
def N1(F:eW P σ m w){t:TypeId}{v v':O}(H:bw σ v v'):DW P σ m w (Instr.box t v') (newVar m t v).1 (newVar m t v).2:=by refine⟨_,_,Ω w.heap.size 0,?_,?_,um F H.cells (e:=t)⟩;simp[Instr.box,Go.newVar,newRow];exact .ptr ⟨m.n,0,none⟩ _ (Sg.add_same _ _) rfl
def Ae(hE:E.OK P)(hs:eW P σ m w){t:TypeId}{z:O}(F:gX E t=some z):DW P σ m w (Instr.alloc t true (.tuple #[])) (newVar m t z).1 (newVar m t z).2:=by unfold gX at F;cases H:E.ty.get t with|none=>rw[H]at F;simp at F|some ti=>rw[H]at F;have⟨i,u,f⟩:=hE.oI H;have hr:=eC (w:=w) f.info (by rw[<-f.zero];exact F);refine⟨_,_,Ω w.heap.size 0,?_,?_,um hs (bw.gI (hE.flat H F)).cells (e:=t)⟩;simp[Instr.alloc,hr,Go.newVar,newRow];exact .ptr ⟨m.n,0,none⟩ _ (Sg.add_same _ _) rfl
theorem xQ(off:Nat):∀(l:ν) (k:Nat) (cs:Array O),off+k+l.length<=cs.size->(l.zipIdx k).foldl (λcs p=>cs.setIfInBounds (off+p.2) p.1) cs=(cs.toList.take (off+k)++(l++cs.toList.drop (off+k+l.length))).toArray
 |[],k,cs,_=>co
 |v::l,k,cs,h=>by simp only[Rq]at h;simp only[List.zipIdx_cons,G6];rw[xQ off l (k+1) (cs.setIfInBounds (off+k) v) J];have e:=list_seg_step cs.toList (off+k) v l J;simp only[Array.toList_setIfInBounds,Rq];grind
theorem qW{place place':Nat->Option (Nat×Nat)}(hp:∀i o,place i=some o->place' i=some o){T:Operand->O}{A:Operand->O}:
  ∀(ps:List (Nat×Operand)) (cs:ν) (F:Array O) (out:ν),(∀p∈ps,bw σ (T p.2) (A p.2))->bK σ cs F.toList->
   fill place cs (ps.map λp=>(p.1,T p.2))=some out->∃H:Array O,Instr.fill place' F (ps.map λp=>(p.1,A p.2))=some H/\bK σ out H.toList
 |[],cs,F,out,_,hc,h=>by simp only[T5,fill,DS]at h;subst h;exact⟨F,rfl,hc⟩
 |p::ps,cs,F,out,hv,hc,h=>by simp only[UM,fill]at h;split at h;cases h;rename_i off size ho;have hx:=hv p Mq;have b0:=hx.cells;cases hb:(Nat.beq (cells (T p.2)).length size && Nat.ble (off+size) cs.length)with|false=>rw[hb]at h;simp at h|true=>rw[hb]at h;simp only[gc]at h;simp only[G4]at hb;have h1:=L6 hb.1;have h2:=Jg hb.2;have e0:=b0.1;have g0:=hc.1;simp only[MT]at e0 g0;have d0:=xQ off (A p.2).cells.toList 0 F J;simp only[OX]at d0;have h0:((A p.2).cells.zipIdx.foldl (λcs (x:O×Nat)=>cs.setIfInBounds (off+x.2) x.1) F)=(F.toList.take off++((A p.2).cells.toList++F.toList.drop (off+(A p.2).cells.toList.length))).toArray:=(by rw[<-d0,<-PE];simp);have i0:bK σ (cs.take off++(cells (T p.2)++cs.drop (off+size))) (F.toList.take off++((A p.2).cells.toList++F.toList.drop (off+(A p.2).cells.toList.length))):=(by have:(A p.2).cells.toList.length=size:=J;rw[this];exact(hc.take off).append (b0.append (hc.drop _)));obtain⟨H,e1,e2⟩:=qW hp ps _ (F.toList.take off++((A p.2).cells.toList++F.toList.drop (off+(A p.2).cells.toList.length))).toArray out (λq hq=>hv q (DJ _ hq)) J h;refine⟨H,?_,e2⟩;simp only[UM,Instr.fill,hp _ _ ho];grind
theorem zY(hE:E.OK P){T A:Operand->O}{t:TypeId}{ps:Array (Nat×Operand)}{v:O}(hv:∀p∈ps.toList,bw σ (T p.2) (A p.2))
  (h:bz E t (ps.toList.map λp=>(p.1,T p.2))=some v):∃v',(Instr.build t (ps.map λp=>(p.1,A p.2))).run P w=.ok v' w/\bw σ v v':=by unfold bz at h;split at h;cases h;rename_i ti d0;have⟨i,u,f⟩:=hE.oI d0;split at h;rename_i z fs hz hd;have F:=hE.flat d0 hz;have h0:=hd;rw[f.d]at hd;obtain⟨gs,rfl,rfl⟩:=iX hd;simp only[R7]at h;obtain⟨cs,e0,rfl⟩:=h;have hr:=eC (w:=w) f.info (by rw[<-f.zero];exact hz);have H:(gs.mapM (m:=Sem) λf=>do pure (f.offset,<-sizeOf f.type)).run P w=.ok (gs.map λg=>(g.offset,(xC P g).size)) w:=(by have key:∀(l:List Field),(∀g∈l,∃gi,P.info? g.type=some gi)->(l.mapM (m:=Sem) λf=>do pure (f.offset,<-sizeOf f.type)).run P w=.ok (l.map λg=>(g.offset,(xC P g).size)) w:=(by intro l;induction l with|nil=>intro _;rfl|cons g l ih=>intro hl;have⟨gi,g0⟩:=hl g Mq;have h2:=ih (λg hg=>hl g (DJ _ hg));rw[List.mapM_cons];simp only[UD,run_sizeOf g0,Rr,RB,h2,UM];simp[xC,g0]);have:=key gs.toList (λg hg=>by have⟨fi,h1,_⟩:=hE.fld d0 h0 (US (f:=xC P) hg);have⟨gi,gu,gf⟩:=hE.oI h1;exact⟨gi,gf.info⟩);rw[R2,Sem.run_map,this];simp only[Rr];congr 1;grind);obtain⟨b0,e1,e2⟩:=qW (σ:=σ) (place':=((gs.map λg=>(g.offset,(xC P g).size))[·]?)) (by intro j o ho;simp only[Uo,Option.map_map,R7]at ho;obtain⟨g,hg,rfl⟩:=ho;have:gs[j]?=some g:=J;simp[this,xC]) ps.toList (cells z) z.cells cs hv (bw.gI F).cells e0;refine⟨.agg b0,?_,?_⟩;simp only[Instr.build,UD,hr,Rr,NF f.gU,H];simp_all;have:=e2.agg;simpa using this;rename_i z n e hz hd;have F:=hE.flat d0 hz;rw[f.d]at hd;obtain rfl:=lG hd;(cases hb:Nat.beq ti.es 0 with|true=>rw[hb]at h;simp at h|false=>rw[hb]at h;have i0:=S1 hb;simp only[I2,R7]at h;obtain⟨cs,e0,rfl⟩:=h;have hr:=eC (w:=w) f.info (by rw[<-f.zero];exact hz);obtain⟨ei,j0,k0⟩:=tz (P:=P) (u:=.array n e) (by rw[<-f.es];exact i0) (.inr ⟨n,rfl⟩);obtain⟨b0,e1,e2⟩:=qW (σ:=σ) (place':=λj=>some (j*ei.size,ei.size)) (by intro j o ho;rw[f.es,k0]at ho;exact ho) ps.toList (cells z) z.cells cs hv (bw.gI F).cells e0;refine⟨.agg b0,?_,?_⟩;simp only[Instr.build,UD,hr,Rr,NF f.gU,run_sizeOf j0];simp_all;have:=e2.agg;simpa using this);cases h
end
section
variable{E:Env}{P:Program}{σ:Sg}{m m':M}{w:World}
theorem qw(z:ν):∀n:Nat,(eg z n).length=n*z.length
 |0=>by simp[eg]
 |n+1=>by unfold eg;rw[I8,qw z n,IM];omega
theorem D1(z:ν):∀(n i:Nat),i<n*z.length->(eg z n)[i]?=z[i%z.length]?
 |0,i,h=>J
 |n+1,i,h=>by unfold eg;by_cases hi:i<z.length;rw[Xs hi,VD hi];rw[OV Z,D1 z n _ J];congr 1;rw[<-Nat.mod_eq_sub_mod Z]
theorem tM{z F:ν}(h:bK σ z F):∀n:Nat,bK σ (eg z n) (eg F n)
 |0=>bK.nil
 |n+1=>h.append (tM h n)
def sx(z:Array O)(n:Nat):((Array.range (n*z.size)).map λi=>z[i%z.size]!)=(eg z.toList n).toArray:=by apply Qd;apply Xx;intro i;simp only[Array.toList_map,Uo,Array.toList_range];by_cases hi:i<n*z.size;rw[List.getElem?_range hi,D1 z.toList n i J];have F:0<z.size:=(by grind);have hm:i%z.size<z.size:=T7 _ F;grind;rw[JQ J,JQ (by rw[qw];simpa using hi)];rfl
theorem range_zero':Array.range 0= #[]:=rfl
theorem zq(hE:E.OK P)(hs:eW P σ m w){T A:Operand->O}{t:TypeId}{n:Nat}{ps:Array (Nat×Operand)}{v:O}(hv:∀p∈ps.toList,bw σ (T p.2) (A p.2))
  (h:aQ E m t n (ps.toList.map λp=>(p.1,T p.2))=some (v,m')):DW P σ m w (Instr.buildSlice t n (ps.map λp=>(p.1,A p.2))) v m':=by unfold aQ at h;split at h;cases h;rename_i ti g0;have⟨i,u,f⟩:=hE.oI g0;split at h;rename_i e hd;rw[f.d]at hd;obtain rfl:=dX hd;split at h;(cases h;rename_i z hz;unfold gX at hz;cases he:E.ty.get e with|none=>rw[he]at hz;simp at hz|some ei=>rw[he]at hz;have⟨H,ue,fe⟩:=hE.oI he;have k0:ti.es=H.size:=(by rw[f.es];simp[CS,fe.info]);cases hb:(Nat.beq (cells z).length ti.es && Nat.ble (n*ti.es) 1048576)with|false=>rw[hb]at h;simp at h|true=>rw[hb]at h;simp only[gc,R7,Ax]at h;obtain⟨cs,i0,rfl,rfl⟩:=h;simp only[G4]at hb;have h1:=L6 hb.1;have h2:=Jg hb.2;have e0:=(bw.gI (σ:=σ) (hE.flat he hz)).cells;have j0:z.cells.size=H.size:=(by have:=e0.1;simp at this;omega);have hr:=eC (w:=w) fe.info (by rw[<-fe.zero];exact hz);obtain⟨b0,e1,e2⟩:=qW (σ:=σ) (place':=λj=>some (j*H.size,H.size)) (by grind) ps.toList (eg (cells z) n) (eg z.cells.toList n).toArray cs hv (by simpa using tM e0 n) i0;refine⟨_,_,Hr w.heap.size 0 n n,?_,?_,um hs e2 (e:=e)⟩;have d0:Instr.fill (λi=>some (i*H.size,H.size)) ((Array.range (n*H.size)).map (z.cells[·%z.cells.size]!)) (ps.map λp=>(p.1,A p.2)).toList=some b0:=(by have:=sx z.cells n;simp_all);by_cases h0:n*H.size=0;have l0:(eg z.cells.toList n).toArray= #[]:=(by apply Qd;exact RJ (by rw[qw];simp only[MT];rw[j0];exact h0));have F:Instr.fill (λi=>some (i*H.size,H.size)) ((Array.range (n*H.size)).map ((#[]:Array O)[·%(#[]:Array O).size]!)) (ps.map λp=>(p.1,A p.2)).toList=some b0:=(by grind);simp only[Instr.buildSlice,UD,NF f.gU,Rr,run_sizeOf fe.info,UU];simp only[RB,Rr,h0,R3];rw[h0]at F;rw[F];simp[newRow];simp only[Instr.buildSlice,UD,NF f.gU,Rr,run_sizeOf fe.info,UU];rw[ND J];simp only[RB,Rr,h0,if_false,hr];rw[d0];simp[newRow];exact .slice ⟨m.n,0,none⟩ _ n n (Sg.add_same _ _) rfl rfl);cases h
def Ar(hE:E.OK P)(hs:eW P σ m w){t:TypeId}{l l' c c' v:O}(hl:bw σ l l')(hc:bw σ c c')(h:fy E m t l c=some (v,m')):
  DW P σ m w (Instr.makeSlice t l' c') v m':=by
 unfold fy at h;split at h;·cases h
 rename_i ti g0;have⟨i,u,f⟩:=hE.oI g0;split at h
 ·rename_i e k l k' c hd;rw[f.d]at hd;obtain rfl:=dX hd;split at h;·cases h
  rename_i ei he;have⟨H,ue,fe⟩:=hE.oI he;split at h;·cases h
  rename_i z hz;split at h
  ·rename_i F;have⟨h1,h2,h3,h4,h5⟩:=F;cases h;rw[hl.int,hc.int];have b0:=(bw.gI (σ:=σ) (hE.flat he hz)).cells;have d0:z.cells.size=H.size:=by have:=b0.1;have:=fe.size;simp at*;omega
   have hr:=eC (w:=w) fe.info (by rw[<-fe.zero];exact hz);have hb:(H.bytes:Int)*c<=68719476736:=by
    have:(H.bytes:Int)<=65536:=by have:=fe.bytes;omega
    calc (H.bytes:Int)*c<=65536*1048576:=Int.mul_le_mul this h3 Z Z
     _=68719476736:=ce
   have i0:IntKind.i64.wrap l=l:=by rw[IntKind.wrap_i64];omega
   have j0:IntKind.i64.wrap c=c:=by rw[IntKind.wrap_i64];omega
   refine⟨_,_,Hr w.heap.size 0 l.toNat c.toNat,?_,?_,um hs (c':=(eg z.cells.toList c.toNat).toArray) (by simpa using tM b0 c.toNat) (e:=e)⟩
   ·have e0:=sx z.cells c.toNat;rw[d0]at e0;simp only[Instr.makeSlice,UD,NF f.gU,Rr,asInt,asIntOf,RB,run_typeInfo fe.info,i0,j0,UU];have ht:¬((decide (c<0) ||decide ((H.bytes:Int)*c >2 ^ 48))\/l<0\/l >c):=by
     grind
    rw[ND J];simp only[Rr,run_askRoom,run_sizeOf fe.info];by_cases h0:c.toNat*H.size=0
    ·have k0:(eg z.cells.toList c.toNat).toArray= #[]:=by
      grind
     rw[k0];simp[h0,newRow,range_zero']
    simp only[ND h0,hr,Rr];rw[d0,e0];simp[newRow]
   exact .slice ⟨m.n,0,none⟩ _ _ _ (Sg.add_same _ _) rfl rfl
  cases h
 cases h
end
section
variable{E:Env}{P:Program}{σ:Sg}{m m':M}{w:World}
def mC{H:O}{y:Nat}(h:we x y=some n)(hx:bw σ x H)(F:Nat)(hy:y<=F)(c:BoundsCode):(Instr.sliceBound H F c).run P w=.ok n w/\n<=y:=by unfold we at h;split at h;rename_i k i;split at h;rename_i hc;cases h;rw[hx.int];refine⟨?_,Z⟩;have h2:0<=i/\i<=(F:Int):=Z;simp only[Instr.sliceBound,UD,asIntOf,RB,Rr,UG h2];cases h;cases h
def Dl(σ:Sg)(x F:Option O):Prop:=match x,F with
 |none,none=>True
 |some v,some H=>bw σ v H
 |_,_=>False
theorem ik{len cap:Nat}{lo hi mx H b0 mx':Option O}{l k:Nat}(e:eP len cap lo hi mx=some (l,h,k))(h1:Dl σ lo H)(h2:Dl σ hi b0)(h3:Dl σ mx mx')
  (d0:len<=cap) (b:Bool) (F:Nat) (hc:cap<=F):
  (Instr.sliceBounds b len F H b0 mx').run P w=.ok (l,h,if mx.isNone then F else k) w/\l<=h/\h<=k/\k<=cap/\(mx=none->k=cap):=by unfold eP at e;split at e;cases e;rename_i m hm;split at e;cases e;rename_i h' hh;split at e;cases e;rename_i l' hl;cases e;cases mx with|some vm=>(cases mx' with|none=>exact h3.elim|some j0=>have⟨r1,r2⟩:=mC (P:=P) (w:=w) hm h3 F hc (if b then .slice3Acap else .slice3Alen);cases hi with|none=>simp at hh|some vh=>cases b0 with|none=>exact h2.elim|some e0=>obtain⟨s1,s2⟩:=mC (P:=P) (w:=w) hh h2 k (R8 _) .slice3B;cases lo with|none=>(cases H with|some _=>exact h1.elim|none=>simp only[DS]at hl;subst hl;refine⟨?_,Z,s2,r2,co⟩;simp only[Instr.sliceBounds,UD,r1,s1,RB,Rr];rfl)|some vl=>cases H with|none=>exact h1.elim|some g0=>obtain⟨t1,t2⟩:=mC (P:=P) (w:=w) hl h1 h (R8 _) .slice3C;refine⟨?_,t2,s2,r2,co⟩;simp[Instr.sliceBounds,UD,r1,s1,t1])|none=>cases mx' with|some _=>exact h3.elim|none=>simp only[DS]at hm;subst hm;have h0:(match b0 with|some v=>Instr.sliceBound v F (if b then .sliceAcap else .sliceAlen)|none=>pure len:Sem Nat).run P w=.ok h w/\h<=cap:=(by cases hi with|none=>(cases b0 with|some _=>exact h2.elim|none=>simp only[DS]at hh;subst hh;exact⟨rfl,d0⟩)|some vh=>cases b0 with|none=>exact h2.elim|some e0=>exact mC (P:=P) (w:=w) hh h2 F hc _);have i0:(match H with|some v=>Instr.sliceBound v h .sliceB|none=>pure 0:Sem Nat).run P w=.ok l w/\l<=h:=(by cases lo with|none=>(cases H with|some _=>exact h1.elim|none=>simp only[DS]at hl;subst hl;exact⟨rfl,Z⟩)|some vl=>cases H with|none=>exact h1.elim|some g0=>exact mC (P:=P) (w:=w) hl h1 h (R8 _) _);refine⟨?_,i0.2,h0.2,R8 _,λ_=>rfl⟩;simp only[Instr.sliceBounds,UD,RB,Rr];cases b0 <;>cases H <;>simp_all
def bs(F:a.spot=none)(n:Nat):a.add n=⟨a.block,a.off+n,none⟩:=by have⟨b,o,s⟩:=a;subst F;rw[eQ]
def tJ(a:Addr)(n:Nat):(a.add n).block=a.block/\(a.add n).off=a.off+n:=by unfold Addr.add;grind
def ir{e:TypeId}{F:TypeInfo}{a:Option Addr}{l k:Nat}{lo hi H:Option O}(hu:P.underlying t=some (.slice e))(he:P.info? e=some F)
  (hb:(Instr.sliceBounds true n c lo hi H).run P w=.ok (l,h,k) w):(Instr.sliceAt t (.slice a n c) lo hi H).run P w=.ok (.slice (if k=l then a else a.map (·.add (l*F.size))) (h-l) (k-l)) w:=by simp only[Instr.sliceAt,Instr.slice,UD,NF hu,Rr,hb,run_sizeOf he,RB]
theorem aaN(hE:E.OK P)(hs:eW P σ m w){t:TypeId}{x x' v:O}{lo hi mx n0 o0 mx':Option O}(h:slice? E m t x lo hi mx=some v)(hx:bw σ x x')(h1:Dl σ lo n0)(h2:Dl σ hi o0)(h3:Dl σ mx mx'):
  ∃v',(Instr.sliceAt t x' n0 o0 mx').run P w=.ok v' w/\bw σ v v':=by
 unfold slice? at h;split at h;·cases h
 rename_i ti Q0;have⟨i,u,f⟩:=hE.oI Q0;split at h
 ·rename_i s hd;rw[f.d]at hd;obtain rfl:=kB hd;rw[hx.string];split at h;rename_i l hh _ hb;(cases h;cases mx' with|some _=>exact h3.elim|none=>obtain⟨r,_⟩:=ik (P:=P) (w:=w) hb h1 h2 (mx':=none) trivial (R8 _) false s.size (R8 _);refine⟨.string (s.extract l hh),?_,.flat _ rfl⟩;simp[Instr.sliceAt,Instr.slice,NF f.gU,r]);cases h
 ·rename_i e hd;rw[f.d]at hd;obtain rfl:=dX hd;rw[hx.bJ rfl];split at h;rename_i p hb;have⟨l,hh,k⟩:=p;(cases hz:Nat.beq ti.es 0 with|true=>rw[hz]at h;simp at h|false=>rw[hz]at h;simp only[I2,DS]at h;subst h;obtain⟨ei,g0,p0⟩:=tz (P:=P) (u:=.slice e) (by rw[<-f.es];exact S1 hz) (.inl rfl);obtain⟨r,q1,q2,q3,_⟩:=ik (P:=P) (w:=w) hb h1 h2 h3 (R8 _) true 0 (R8 _);obtain rfl:k=0:=Z;obtain rfl:hh=0:=Z;obtain rfl:l=0:=Z;have r':(Instr.sliceBounds true 0 0 n0 o0 mx').run P w=.ok (0,0,0) w:=(by simpa using r);refine⟨Z9,?_,.flat _ rfl⟩;rw[ir f.gU g0 r'];rfl);cases h
 ·rename_i e a n c hd;rw[f.d]at hd;obtain rfl:=dX hd;split at h
  ·rename_i l hh k cs te g hb hg;cases hz:(Nat.beq ti.es 0 || !(Nat.ble n c))with
   |true=>rw[hz]at h;simp at h
   |false=>
    rw[hz]at h;simp only[UP,HO]at hz;have q0:=Jg hz.2;have r0:=S1 hz.1;obtain⟨ei,g0,p0⟩:=tz (P:=P) (u:=.slice e) (by rw[<-f.es];exact r0) (.inl rfl);have j0:ti.es=ei.size:=by rw[f.es,p0]
    simp only[I2]at h;obtain⟨bi,a',c',b0,rfl,i0⟩:=hx.ee;have⟨row,j1,hlen,_,y0⟩:=hs.cells b0 hg;cases g with
    |none=>
     have⟨H,l1⟩:=y0;simp only[DS]at h;subst h;rcases i0 with⟨d0,rfl,s0⟩|⟨_,_,k0,sz,N,A0,_⟩
     ·rcases s0 with⟨_,rfl⟩|⟨k0,sz,N,A0,_⟩
      ·obtain⟨r,q1,q2,q3,q4⟩:=ik (P:=P) (w:=w) hb h1 h2 h3 q0 true c' (R8 _);have r':(Instr.sliceBounds true n c' n0 o0 mx').run P w=.ok (l,hh,k) w:=by
        rw[r];cases mx with
        |none=>simp[q4 rfl]
        |some _=>simp
       refine⟨_,ir f.gU g0 r',?_⟩;by_cases F:k=l;·subst F;simp only[Nk,gc,R3];exact .slice a bi _ _ b0 d0 H
       have:Nat.beq k l=false:=by
        cases hq:Nat.beq k l with
        |true=>exact absurd (L6 hq) F
        |false=>rfl
       rw[this,ND F];simp only[I2,F4,eQ,bs d0];rw[j0];exact .slice ⟨a.block,a.off+l*ei.size,none⟩ bi _ _ b0 rfl H
      ·grind
     ·grind
    |some k0=>
     have⟨H,A0,o1⟩:=y0;dsimp only at h;cases hq:Nat.beq k0 ti.es with
     |false=>rw[hq]at h;simp at h
     |true=>
      rw[hq]at h;have O0:=L6 hq;simp only[gc,DS]at h;subst h
      have hD:∀A:Addr,(if k=l/\¬(mx=none/\a.off+c*ti.es=cs.length)then a else a.add (l*ti.es))=A->
        (bif Nat.beq k l && !(mx.isNone && Nat.beq (a.off+c*ti.es) cs.length)then a else a.add (l*ti.es))=A:=by
       rintro A rfl;by_cases c1:k=l
       ·by_cases c2:mx=none;·simp_all
        ·cases mx with
         |none=>exact absurd rfl c2
         |some _=>simp[c1]
       ·have:Nat.beq k l=false:=by
         cases a1:Nat.beq k l with
         |true=>exact absurd (L6 a1) c1
         |false=>rfl
        simp[c1,this]
      rw[hD _ rfl];rcases i0 with⟨d0,rfl,s0⟩|⟨rfl,rfl,k1,sz,N,u0,p1⟩
      ·rcases s0 with⟨r1,_⟩|⟨k1,sz,N,u0,d1⟩;·grind
       rw[H]at u0;obtain⟨rfl,rfl,rfl⟩:=u0;have P0:c<=c':=by
        grind
       have⟨r,q1,q2,q3,q4⟩:=ik (P:=P) (w:=w) hb h1 h2 h3 q0 true c' P0;refine⟨_,ir f.gU g0 r,?_⟩;have g1:mx=none\/∃y,mx=some y:=by cases mx <;>simp
       rcases g1 with rfl|⟨y,rfl⟩
       ·obtain rfl:=q4 rfl;simp only[OM,R3,true_and];by_cases l0:a.off+k*ti.es=cs.length
        ·rw[ND (by simp[l0])];by_cases F:k=l
         ·subst F;obtain rfl:hh=k:=Z
          simp only[Xd];have⟨b1,b2⟩:=tJ a (hh*ti.es);by_cases B0:c'=hh;·rw[UG B0];exact .empty _ _ bi _ k0 _ _ (by rw[b1];exact b0) H (by rw[b2];exact l0)
          rw[ND B0];exact .empty _ _ bi _ k0 _ _ (by rw[b1];exact b0) H (by rw[b2];exact l0)
         rw[ND Z,bs d0,<-j0];simp only[F4,eQ];refine .jG ⟨a.block,a.off+l*ti.es,none⟩ bi _ _ _ k0 _ _ b0 rfl H ?_;rcases d1 with rfl|⟨e0,e1,e2⟩;·exact .inl rfl
         refine .inr ⟨Z,?_,?_⟩;·dsimp only;rw[<-O0,OD,Nat.add_assoc,Rt (MO _ Z)];exact e1
         dsimp only;rw[<-O0,OD,Nat.add_assoc,Rt (MO _ Z)];exact e2
        have B0:c'=k:=by
         grind
        subst B0;simp only[l0,not_false_eq_true,and_true];by_cases F:c'=l;·rw[UG F,UG F];exact .jG a bi _ _ _ k0 _ _ b0 d0 H (.inl rfl)
        rw[ND F,ND F,bs d0,<-j0];simp only[F4,eQ];exact .jG ⟨a.block,a.off+l*ti.es,none⟩ bi _ _ _ k0 _ _ b0 rfl H (.inl rfl)
       simp only[HZ,Bool.false_eq_true,if_false,reduceCtorEq,false_and,not_false_eq_true,and_true];by_cases F:k=l;·rw[UG F,UG F];exact .jG a bi _ _ _ k0 _ _ b0 d0 H (.inl rfl)
       rw[ND F,ND F,bs d0,<-j0];simp only[F4,eQ];exact .jG ⟨a.block,a.off+l*ti.es,none⟩ bi _ _ _ k0 _ _ b0 rfl H (.inl rfl)
      rw[H]at u0;obtain⟨rfl,rfl,rfl⟩:=u0;obtain⟨r,q1,q2,q3,q4⟩:=ik (P:=P) (w:=w) hb h1 h2 h3 q0 true c' (Vw _);obtain rfl:k=0:=Z
      obtain rfl:hh=0:=Z
      obtain rfl:l=0:=Z
      refine⟨_,ir f.gU g0 r,?_⟩;have⟨b1,b2⟩:=tJ a (0*ti.es);have hA:σ (if 0=0/\¬(mx=none/\a.off+0*ti.es=cs.length)then a else a.add (0*ti.es)).block=some bi/\(if 0=0/\¬(mx=none/\a.off+0*ti.es=cs.length)then a else a.add (0*ti.es)).off=cs.length:=by
       grind
      have hR:∃a2,(if(if mx.isNone then c' else 0)=0 then some a' else(some a').map (·.add (0*ei.size)))=some a2:=by
       grind
      have⟨a2,i1⟩:=hR;rw[i1];exact .empty _ _ bi _ k0 _ _ hA.1 H hA.2
  ·rename_i l hh k cs hb hg;cases hz:(Nat.beq ti.es 0 || !(Nat.ble n c))with
   |true=>rw[hz]at h;simp at h
   |false=>
    rw[hz]at h;simp only[UP,HO]at hz;have q0:=Jg hz.2;have r0:=S1 hz.1;obtain⟨ei,g0,p0⟩:=tz (P:=P) (u:=.slice e) (by rw[<-f.es];exact r0) (.inl rfl);have j0:ti.es=ei.size:=by rw[f.es,p0]
    simp only[I2,DS]at h;subst h;obtain⟨bi,a',c',b0,rfl,i0⟩:=hx.ee;have H:bi.gr=none:=by have:=hs.obj _ _ b0;rw[hg]at this;exact this.1
    rcases i0 with⟨d0,rfl,s0⟩|⟨_,_,k0,sz,N,A0,_⟩
    ·rcases s0 with⟨_,rfl⟩|⟨k0,sz,N,A0,_⟩
     ·obtain⟨r,q1,q2,q3,q4⟩:=ik (P:=P) (w:=w) hb h1 h2 h3 q0 true c' (R8 _);have r':(Instr.sliceBounds true n c' n0 o0 mx').run P w=.ok (l,hh,k) w:=by
       rw[r];cases mx with
       |none=>simp[q4 rfl]
       |some _=>simp
      refine⟨_,ir f.gU g0 r',?_⟩;by_cases F:k=l;·subst F;simp only[Nk,gc,R3];exact .slice a bi _ _ b0 d0 H
      have:Nat.beq k l=false:=by
       cases hq:Nat.beq k l with
       |true=>exact absurd (L6 hq) F
       |false=>rfl
      rw[this,ND F];simp only[I2,F4,eQ,bs d0];rw[j0];exact .slice ⟨a.block,a.off+l*ei.size,none⟩ bi _ _ b0 rfl H
     ·grind
    ·grind
  cases h
 ·rename_i n e a hd;rw[f.d]at hd;obtain rfl:=lG hd;split at h;rename_i l hh k hb;(cases hz:(so m a ||Nat.beq ti.es 0)with|true=>rw[hz]at h;simp at h|false=>rw[hz]at h;simp only[I2,DS]at h;subst h;simp only[UP]at hz;obtain⟨ei,g0,p0⟩:=tz (P:=P) (u:=.array n e) (by rw[<-f.es];exact S1 hz.2) (.inr ⟨n,rfl⟩);have j0:ti.es=ei.size:=(by rw[f.es,p0]);obtain⟨bi,b0,d0,rfl⟩:=hx.fW;have H:bi.gr=none:=(by have h0:=hz.1;unfold so at h0;split at h0;rename_i cs te hg;have⟨_,_,_,_,y0⟩:=hs.cells b0 hg;exact y0.1;cases h0);obtain⟨r,q1,q2,q3,q4⟩:=ik (P:=P) (w:=w) hb h1 h2 h3 (R8 _) false n (R8 _);have r':(Instr.sliceBounds false n n n0 o0 mx').run P w=.ok (l,hh,k) w:=(by rw[r];cases mx with|none=>simp[q4 rfl]|some _=>simp);refine⟨.slice (some (if k=l then⟨bi.dL,a.off,none⟩else(⟨bi.dL,a.off,none⟩:Addr).add (l*ei.size))) (hh-l) (k-l),by simp only[Instr.sliceAt,UD,NF f.gU,Rr,Instr.sureAddr,RB,r',run_sizeOf g0],?_⟩;by_cases F:k=l;subst F;simp only[Nk,gc,R3];exact .slice a bi _ _ b0 d0 H;have:Nat.beq k l=false:=(by cases hq:Nat.beq k l with|true=>exact absurd (L6 hq) F|false=>rfl);rw[this,ND F];simp only[I2,eQ,bs d0];rw[j0];exact .slice ⟨a.block,a.off+l*ei.size,none⟩ bi _ _ b0 rfl H);cases h
 cases h
end
section
variable{E:Env}{P:Program}{σ:Sg}{m m':M}{w:World}
def jL{a:Nat}(h:a≠b):Nat.beq a b=false:=by cases F:Nat.beq a b with|true=>exact absurd (L6 F) h|false=>rfl
def bK.QM{l:ν}(h:∀v∈l,bL v):bK σ l l:=⟨rfl,λj u F a b=>by rw[a]at b;cases b;exact .flat _ (h u (QP a))⟩
def sZ(hs:eW P σ m w){s n:Nat}{x x':O}{cs:ν}(h:first? m s n x=some cs)(hx:bw σ x x')(hn:∀l,kC x=some l->n<=l):
  ∃F:ν,(Builtin.firstCells s n x').run P w=.ok F.toArray w/\bK σ cs F:=by unfold first? at h;split at h;rename_i a len cap;obtain⟨bi,a',c',b0,rfl,H⟩:=hx.ee;by_cases h0:n=0;subst h0;simp only[Nk,gc,DS]at h;subst h;refine⟨[],?_,bK.nil⟩;have:=run_loadCells_list (P:=P) w a' [] co;simpa[Builtin.firstCells]using this;rw[jL h0]at h;simp only[I2]at h;rcases H with⟨d0,rfl,_⟩|⟨rfl,_,_⟩;have⟨F,h1,h2,_,_⟩:=jD hs b0 h;exact⟨F,by simpa[Builtin.firstCells]using h1,h2⟩;have:=hn 0 rfl;omega;cases h;obtain⟨_,_,rfl⟩:=hx.iC;exact⟨[],by simp[Builtin.firstCells],bK.nil⟩;rename_i b;cases h;rw[hx.string];refine⟨((b.extract 0 n).data.toList.map λb=> .int .u8 b.toNat),?_,bK.QM ?_⟩;simp only[Builtin.firstCells,RB];congr 1;grind;intro v hv;obtain⟨b,_,rfl⟩:=Ja.1 hv;rfl;cases h
def xG{F:O}(h:kC x=some n)(H:bw σ x F):(Builtin.lenOf F).run P w=.ok n w:=by unfold kC at h;split at h;cases h;obtain⟨b',c',rfl,_⟩:=H.yF;rfl;cases h;rw[H.string];rfl;cases h
theorem km{u e:TypeId}{i:TypeInfo}{uu:TypeDesc}(ht:P.underlying t=some (.slice e))(hi:P.info? e=some i)(hu:P.underlying u=some uu)(b0:∀k,uu≠.int k)
  {base:Option Addr} {sl H n:Nat} {x:O} {new:ν} {w':World} (hl:(Builtin.lenOf x).run P w=.ok n w) (hf:(Builtin.firstCells i.size n x).run P w=.ok new.toArray w) (hle:sl+n<=H)
  (F:(match base with|some a=>Go.storeCells (a.add (sl*i.size)) new|none=>pure ()).run P w=.ok () w'):
  (Builtin.append_ #[t,u] ty #[.slice base sl H,x]).run P w=.ok (.slice base (sl+n) H) w':=by cases base with|none=>simp only[RB]at F;cases F;simp[Builtin.append_,NF ht,NF hu,run_sizeOf hi,hl,hf,hle]|some a=>simp only at F;simp[Builtin.append_,NF ht,NF hu,run_sizeOf hi,hl,hf,hle,F]
def BK{u e:TypeId}{i:TypeInfo}{uu:TypeDesc}{z:O}(ht:P.underlying t=some (.slice e))(hi:P.info? e=some i)(hu:P.underlying u=some uu)(g0:∀k,uu≠.int k)
  (hz:i.zero=some z) {base:Option Addr} {sl F n:Nat} {x:O} {iF new:ν} (hl:(Builtin.lenOf x).run P w=.ok n w) (ho:(Builtin.firstCells i.size sl (.slice base sl F)).run P w.drew=.ok iF.toArray w.drew)
  (hf:(Builtin.firstCells i.size n x).run P w.drew=.ok new.toArray w.drew) (d0:F<sl+n) (hb:i.bytes<=65536) (hn:sl+n<=268435456):
  ∃N,sl+n<=N/\(Builtin.append_ #[t,u] ty #[.slice base sl F,x]).run P w=.ok (Hr w.heap.size 0 (sl+n) N) (w.drew.alloc (.cells (iF++new++(Builtin.zeroCells z.cells (N-(sl+n))).toList).toArray e)):=by
 refine⟨grownCap w (sl+n) F e,grownCap_ge _ _ _ _,?_⟩;have h1:¬(sl+n<=F):=Z
 have e0:=growslice_fits (bytes:=i.bytes) d0 (by
  calc (sl+n)*i.bytes<=268435456*65536:=UQ hn hb
   _<=_:=by decide)
 have H:¬(281474976710656<Builtin.nextslicecap (sl+n) F*i.bytes):=Z
 have b0:¬(9223372036854775807<((sl:Int)+(n:Int))):=Z
 simp[Builtin.append_,NF ht,NF hu,sizeOf,typeInfo,zeroValue,hi,hz,hl,h1,H,b0,Question.forced,hf,ho,newRow,grownCap];congr 2;grind
def EB(hs:eW P σ m w){iF news F new' rest:ν}{e k sl n N:Nat}(h1:bK σ iF F)(h2:bK σ news new')(l1:iF.length=sl*k)(l2:news.length=n*k)(hk:0<k)(hn:0<sl+n)
  (hN:sl+n<=N) (lr:rest.length=(N-(sl+n))*k):
  Ev P σ m w (σ.add m.n ⟨w.heap.size,some (k,(sl+n)*k,N*k)⟩) (m.push (.cells (iF++news) e (some k))) (w.drew.alloc (.cells (F++new'++rest).toArray e))/\
  bw (σ.add m.n ⟨w.heap.size,some (k,(sl+n)*k,N*k)⟩) (Hr m.n 0 (sl+n) (sl+n)) (Hr w.heap.size 0 (sl+n) N):=by have hlen:(iF++news).length=(sl+n)*k:=J;have H:(F++new').length=(sl+n)*k:=(by rw[<-hlen,(h1.append h2).1]);have d0:((F++new'++rest).toArray).size=N*k:=(by rw[Nt,I8,H,lr,<-IM];grind);have g0:0<(sl+n)*k:=Nat.mul_pos hn hk;have hle:(sl+n)*k<=N*k:=MO _ hN;have e0:eW P σ m w.drew:=hs.of_heap rfl;have b0:=KL (g:=some k) (e:=e) (c:=iF++news) (c':=(F++new'++rest).toArray) e0 J (by rw[hlen,<-H];simp only[MU];exact h1.append h2) (by refine⟨?_,hk,J⟩;rfl);have he:XX (iF++news).length ((F++new'++rest).toArray).size (some k)=some (k,(sl+n)*k,N*k):=(by rw[hlen,d0];rfl);rw[he]at b0;refine⟨(Ev.of_heap hs rfl rfl rfl rfl:Ev P σ m w σ m w.drew).trans b0,?_⟩;exact .jG ⟨m.n,0,none⟩ ⟨w.heap.size,_⟩ _ _ _ k ((sl+n)*k) (N*k) (Sg.add_same _ _) rfl rfl (.inr ⟨hN,co,co⟩)
theorem Gs(hE:E.OK P)(hs:eW P σ m w){t u ty:TypeId}{s x s' x' v:O}(h:eD E m t u s x=some (v,m'))(hx:bw σ s s')(hy:bw σ x x'):
  DW P σ m w (Builtin.append_ #[t,u] ty #[s',x']) v m':=by
 unfold eD at h;split at h
 ·rename_i H ui base sl sc n j2 k2 K1;have⟨i,ut,f⟩:=hE.oI j2;have⟨iu,uu,fu⟩:=hE.oI k2;split at h;·cases h
  ·rename_i e hd l2;rw[f.d]at hd;obtain rfl:=dX hd;have i0:∀k,uu≠.int k:=(by rintro k rfl;exact l2 k fu.d);split at h
   ·rename_i ei news L1 o2;have⟨ie,ue,fe⟩:=hE.oI L1;have j0:H.es=ie.size:=(by rw[f.es];simp[CS,fe.info])
    cases hb:(Nat.beq H.es 0 ||Nat.blt 65536 ei.bytes || !news.all one ||Nat.blt 268435456 (sl+n) || !Nat.beq news.length (n*H.es) || !iM ei.zero H.es)with
    |true=>rw[hb]at h;simp at h
    |false=>
     rw[hb]at h;simp only[I2]at h;simp only[UP,HO]at hb;have⟨⟨⟨⟨⟨b1,b2⟩,b3⟩,b4⟩,b5⟩,b6⟩:=hb;have T2:=S1 b1;have u2:ie.bytes<=65536:=by rw[kN]at b2;have:=fe.bytes;simp at b2;omega
     have v1:sl+n<=268435456:=by rw[kN]at b4;simp at b4;omega
     have s0:=L6 b5;obtain⟨z,hz,v2⟩:∃z,ie.zero=some z/\z.cells.size=ie.size:=by
      cases d1:ei.zero with
      |none=>rw[d1]at b6;simp[iM]at b6
      |some z=>rw[d1]at b6;have:=L6 b6;have y2:=(bw.gI (σ:=σ) (hE.flat L1 d1)).cells.1;refine⟨z,by rw[<-fe.zero];exact d1,?_⟩;simp only[MT]at y2;omega
     have u0:=λw=>xG (P:=P) (w:=w) K1 hy;have d0:=λ(w:World) (hs:eW P σ m w)=>sZ (P:=P) hs o2 hy (λl hl=>by rw[K1]at hl;cases hl;exact R8 _);rw[j0]at d0 s0;cases l0:Nat.ble (sl+n) sc with
     |true=>
      rw[l0]at h;have hle:=Jg l0;simp only[gc]at h;have⟨F,p0,n0⟩:=d0 w hs;cases base with
      |none=>
       obtain⟨rfl,rfl,rfl⟩:=hx.iC;simp only at h;obtain rfl:n=0:=Z
       simp only[Nk,gc,DS,Ax]at h;obtain⟨rfl,rfl⟩:=h;refine DW.pure hs (km f.gU fe.info fu.gU i0 (base:=none) (u0 w) p0 (R8 _) rfl) (.flat _ rfl)
      |some a=>
       obtain⟨bi,a',c',o0,rfl,g0⟩:=hx.ee;by_cases h0:n=0
       ·subst h0;simp only[Nk,gc,F4,DS,Ax]at h;obtain⟨rfl,rfl⟩:=h;have O1:F=[]:=by have:=n0.1;rw[s0]at this;simpa using this.symm
        subst O1;have y0:sl+0<=c':=by rcases g0 with⟨_,_,⟨_,rfl⟩|⟨k,sz,N,hk,rfl|⟨e0,e1,e2⟩⟩⟩|⟨rfl,_⟩ <;>omega
        refine DW.pure hs (km f.gU fe.info fu.gU i0 (base:=some a') (u0 w) p0 y0 rfl) hx
       rw[jL h0]at h;simp only[I2,R7,Ax]at h;obtain⟨m2,A0,rfl,rfl⟩:=h;rcases g0 with⟨i1,rfl,r0⟩|⟨rfl,rfl,_⟩
       ·have y0:sl+n<=c':=by rcases r0 with⟨_,rfl⟩|⟨k,sz,N,hk,rfl|⟨e0,e1,e2⟩⟩ <;>omega
        rw[bs i1,j0]at A0;have⟨w',z2,A2,_⟩:=jj (a:=⟨a.block,a.off+sl*ie.size,none⟩) hs o0 n0 A0;refine⟨σ,w',_,km f.gU fe.info fu.gU i0 (base:=some ⟨bi.dL,a.off,none⟩) (u0 w) p0 y0 (by simp only[eQ];exact z2),?_,A2⟩;rcases r0 with⟨hg,rfl⟩|⟨k,sz,N,hk,hc⟩;·exact .slice a bi _ _ o0 i1 hg
        exact .jG a bi _ _ _ k sz N o0 i1 hk hc
       omega
     |false=>
      rw[l0]at h;have B2:sc<sl+n:=by
       rcases UL sc (sl+n)with hh|hh;·exact hh
       rw[S0 hh]at l0;cases l0
      simp only[I2]at h;have y1:0<H.es:=Z
      have fresh:∀(m1:M) (q0:Option Addr) (c':Nat) (iF b0:ν),Ev P σ m w σ m1 w->m1.n=m.n->
        (Builtin.firstCells ie.size sl (.slice q0 sl c')).run P w.drew=.ok b0.toArray w.drew->bK σ iF b0->iF.length=sl*H.es->c'<sl+n->
        s'=.slice q0 sl c'->v=Hr m.n 0 (sl+n) (sl+n)->m'=m1.push (.cells (iF++news) e (some H.es))->DW P σ m w (Builtin.append_ #[t,u] ty #[s',x']) v m':=by
       rintro m1 q0 c' iF b0 he G2 ho j1 B0 hc rfl rfl rfl;obtain⟨F,p0,n0⟩:=d0 w.drew (hs.of_heap rfl);have⟨N,hN,O0⟩:=BK (ty:=ty) f.gU fe.info fu.gU i0 hz (u0 w) ho p0 hc u2 v1;obtain⟨g1,g2⟩:=EB (e:=e) (rest:=(Builtin.zeroCells z.cells (N-(sl+n))).toList) he.rN j1 n0 B0 (by rw[s0,j0]) y1 Z hN (by rw[MT,size_zeroCells,v2,j0]);refine⟨_,_,_,O0,?_,he.trans g1⟩;rw[G2]at g2⊢;exact g2
      unfold oU at h;split at h
      ·cases hq:(Nat.beq sl 0 && Nat.beq sc 0)with
       |false=>rw[hq]at h;simp at h
       |true=>rw[hq]at h;simp only[gc,DS,Ax]at h;simp only[G4]at hq;obtain rfl:=L6 hq.1;obtain rfl:=L6 hq.2;obtain⟨rfl,rfl⟩:=h;refine fresh m none 0 [] [] (Ev.refl hs) rfl (by simp[Builtin.firstCells]) bK.nil co B2 (hx.bJ rfl) rfl rfl
      rename_i a;have⟨bi,a',c',o0,k1,g0⟩:=hx.ee;split at h
      ·rename_i cs te g iF hg hold;have⟨row,o1,hlen,L2,A1⟩:=hs.cells o0 hg;have M2:∀w1,eW P σ m w1->∃b0,(Builtin.firstCells ie.size sl (.slice (some a') sl c')).run P w1=.ok (b0:ν).toArray w1/\bK σ iF b0:=by intro w1 h1;have P0:first? m H.es sl (.slice (some a) sl sc)=some iF:=hold;have:=sZ (P:=P) h1 P0 hx (λl hl=>by cases hl;exact R8 _);rw[k1,j0]at this;exact this
       have B0:iF.length=sl*H.es:=by
        by_cases h0:sl=0;·subst h0;simp only[Nk,gc,DS]at hold;subst hold;simp
        rw[jL h0]at hold;simp only[I2]at hold;have⟨_,_,_,hl,_⟩:=jD hs o0 hold;exact hl
       obtain⟨b0,p1,j1⟩:=M2 w.drew (hs.of_heap rfl);cases hq:(g.isNone ||(g==some H.es && Nat.blt (a.off+sc*H.es) cs.length))with
       |true=>
        rw[hq]at h;simp only[gc,DS,Ax]at h;obtain⟨rfl,rfl⟩:=h;refine fresh m (some a') c' iF b0 (Ev.refl hs) rfl p1 j1 B0 ?_ k1 rfl rfl;cases g with
        |none=>
         have B1:=A1.1;grind
        |some k0=>
         have⟨Q0,Q1,T1⟩:=A1;simp only[HZ,NG,G4,beq_iff_eq,DS]at hq;obtain⟨rfl,hq⟩:=hq;rw[kN]at hq;grind
       |false=>
        rw[hq]at h;simp only[I2]at h;cases l1:(g==some H.es && Nat.beq a.off 0 && a.spot.isNone && Nat.beq (sl*H.es) cs.length && Nat.beq sc sl && Nat.beq te e)with
        |false=>rw[l1]at h;simp at h
        |true=>
         rw[l1]at h;simp only[gc,DS,Ax]at h;obtain⟨rfl,rfl⟩:=h;simp only[G4]at l1;have⟨⟨⟨⟨⟨q1,q2⟩,q3⟩,q4⟩,q5⟩,q6⟩:=l1;obtain rfl:=L6 q6;have q1:g=some H.es:=by simpa using q1
         subst q1;have q2:=L6 q2;have q4:=L6 q4;obtain rfl:=L6 q5;have⟨Q0,Q1,T1⟩:=A1;have a1:m.get a.block≠.dead:=by rw[hg];simp
         by_cases O2:c'<sc+n;·have hw:=Ev.write (w':=w) (ob:=.dead) hs o0 a1 trivial (λ_ _=>rfl) rfl rfl rfl rfl;exact fresh _ (some a') c' iF b0 hw rfl p1 j1 B0 O2 k1 rfl rfl
         ·
          have P2:sc≠0:=by rintro rfl;simp at q4;omega
          rcases g0 with⟨i1,rfl,r0⟩|⟨rfl,_⟩
          ·rcases r0 with⟨B1,_⟩|⟨k,sz,N,hk,r0⟩;·rw[Q0]at B1;cases B1
           rw[Q0]at hk;simp only[DS,Ax]at hk;obtain⟨rfl,rfl,rfl⟩:=hk;rcases r0 with rfl|⟨e0,e1,e2⟩;·omega
           have⟨F,p0,n0⟩:=d0 w hs;have G1:iF=cs:=by
            rw[jL P2]at hold;simp only[I2]at hold;unfold loadCells at hold;rw[hg]at hold;simp only[q2,Jf,q4,Mf,W8]at hold;cases a2:(a.spot.isNone && Nat.ble cs.length cs.length)with
            |false=>rw[a2]at hold;simp at hold
            |true=>rw[a2]at hold;simpa using hold.symm
           subst G1;have r1:F.length=n*H.es:=by rw[<-n0.1,s0,j0]
           have c1:(sc+n)*H.es<=row.size:=by rw[<-e2,q2,Jf];exact MO _ Z
           rw[IM]at c1;have c2:=n0.iy b3;have A0:=run_storeCells_at (P:=P) bi.dL (sc*H.es) te F 0 row w o1 Z c2;simp only[OX]at A0;have d2:(row.toList.take (sc*H.es)++F).length=(sc+n)*H.es:=by rw[I8,ZO,r1,IM,MT];omega
           have h2:(row.toList.take (sc*H.es)++F++row.toList.drop (sc*H.es+F.length)).length=row.size:=by rw[I8,d2,Va,r1,MT,IM];omega
           have H1:(iF++news).length=(sc+n)*H.es:=by rw[I8,B0,s0,<-j0,IM]
           have i2:bK σ (iF++news) (row.toList.take (sc*H.es)++F):=by rw[q4];exact L2.append n0
           have Q2:=Ev.Qe (ob:=.cells (iF++news) te (some H.es)) (gr:=some (H.es,(sc+n)*H.es,row.size)) (w':=w.setRow bi.dL (row.toList.take (sc*H.es)++F++row.toList.drop (sc*H.es+F.length)).toArray) hs o0 a1
            (by
             refine⟨_,setRow_heap w bi.dL row _ te _ o1,?_,?_,?_⟩;·rw[H1,Nt,h2,IM];exact c1
             ·rw[H1,<-d2];simp only[MU];exact i2.mono (Sg.zb hs.ny)
             have u1:=h2;rw[<-Nt]at u1;rw[H1,u1];exact⟨rfl,y1,Nat.mul_pos Z y1⟩)
            (λB hB=>by simp only[World.setRow,VS];rw[ND (λe=>hB e.symm)])
            (by simp[World.setRow]) rfl rfl rfl
           have O0:=km (ty:=ty) f.gU fe.info fu.gU i0 (base:=some ⟨bi.dL,a.off,none⟩) (u0 w) p0 (show sc+n<=c' by omega) (by simp only[eQ,q2,Jf,<-j0];exact A0);rw[k1];refine⟨_,_,_,O0,?_,Q2⟩;rw[q2];exact .jG ⟨m.n,0,none⟩ ⟨bi.dL,some (H.es,(sc+n)*H.es,row.size)⟩ _ _ _ H.es ((sc+n)*H.es) row.size (Sg.add_same _ _) rfl rfl (.inr ⟨Z,co,by rw[<-e2,q2]⟩)
          ·omega
      cases h
   cases h
  cases h
 cases h
end
section
variable{E:Env}{P:Program}{σ:Sg}{m m':M}{w:World}
def vv(a:Addr):(Go.storeCells a []).run P w=.ok () w:=by simp[Go.storeCells]
def JE{s:Nat}{cs:ν}(h:first? m s 0 x=some cs):cs=[]:=by unfold first? at h;split at h;simp_all;grind;simp_all;cases h
theorem JM(hE:E.OK P)(hs:eW P σ m w){t ty:TypeId}{ts:Array TypeId}{d x d' x' v:O}(ht:ts[0]?=some t)(h:CZ E m t d x=some (v,m'))(hd:bw σ d d')(hx:bw σ x x'):
  DW P σ m w (Builtin.copy_ ts ty #[d',x']) v m':=by unfold CZ at h;split at h;rename_i ti base dl _ xl g0 i0;have⟨i,u,f⟩:=hE.oI g0;split at h;rename_i e cs e0 hf;rw[f.d]at e0;obtain rfl:=dX e0;(cases hz:Nat.beq ti.es 0 with|true=>rw[hz]at h;simp at h|false=>rw[hz]at h;simp only[I2]at h;obtain⟨ei,H,j0⟩:=tz (P:=P) (u:=.slice e) (by rw[<-f.es];exact S1 hz) (.inl rfl);have k0:ti.es=ei.size:=(by rw[f.es,j0]);rw[k0]at hf;have hn:Nat.min xl dl=min xl dl:=rfl;have b0:=xG (P:=P) (w:=w) i0 hx;obtain⟨q0,F,hr⟩:=sZ (P:=P) hs hf hx J;cases base with|none=>obtain⟨rfl,_,rfl⟩:=hd.iC;cases h;refine DW.pure hs (v':=I (min xl 0:Nat)) ?_ (.flat _ rfl);simp[Builtin.copy_,ht,NF f.gU,b0,run_sizeOf H]at F⊢;simp[F,goInt]|some a=>obtain⟨bi,a',c',l0,rfl,d0⟩:=hd.ee;simp only[R7,Ax]at h;obtain⟨m2,h,rfl,rfl⟩:=h;by_cases h0:min xl dl=0;rw[h0]at h;simp only[Nk,gc,DS]at h;subst h;rw[h0]at hf F;have n0:=JE hf;subst n0;obtain rfl:=hr.nil_eq;refine DW.pure hs (v':=I (min xl dl:Nat)) ?_ (.flat _ rfl);simp[Builtin.copy_,ht,NF f.gU,b0,run_sizeOf H,hn,h0,F,vv,goInt];rw[jL h0]at h;simp only[I2]at h;rcases d0 with⟨r0,rfl,_⟩|⟨rfl,_⟩;have⟨w',o0,p0,_⟩:=jj hs l0 hr h;refine⟨σ,w',I (min xl dl:Nat),?_,.flat _ rfl,p0⟩;simp[Builtin.copy_,ht,NF f.gU,b0,run_sizeOf H,hn,F,o0,goInt];grind);cases h;cases h
theorem H7(hE:E.OK P)(hs:eW P σ m w){t ty:TypeId}{x x' v:O}(h:tD E m t x=some (v,m'))(hx:bw σ x x'):
  DW P σ m w (Builtin.clear_ #[t] ty #[x']) v m':=by unfold tD at h;split at h;rename_i ti _ _ F;have⟨i,u,f⟩:=hE.oI F;cases h;obtain⟨_,_,rfl⟩:=hx.iC;refine DW.pure hs (v':=.tuple #[]) ?_ bw.undef;simp[Builtin.clear_,NF f.gU];rename_i ti a n _ F;have⟨i,u,f⟩:=hE.oI F;obtain⟨bi,a',c',b0,rfl,H⟩:=hx.ee;by_cases h0:n=0;subst h0;simp only[Nk,gc,DS,Ax]at h;obtain⟨rfl,rfl⟩:=h;refine DW.pure hs (v':=.tuple #[]) ?_ bw.undef;simp[Builtin.clear_,NF f.gU];rw[jL h0]at h;simp only[I2]at h;split at h;rename_i e hd;rw[f.d]at hd;obtain rfl:=dX hd;split at h;rename_i z hz;simp only[R7,Ax]at h;obtain⟨m2,h,rfl,rfl⟩:=h;unfold gX at hz;(cases he:E.ty.get e with|none=>rw[he]at hz;simp at hz|some ei=>rw[he]at hz;simp only[RM]at hz;have⟨ie,ue,fe⟩:=hE.oI he;have d0:=(bw.gI (σ:=σ) (hE.flat he hz)).cells;have hr:=eC (w:=w) fe.info (by rw[<-fe.zero];exact hz);rcases H with⟨j0,rfl,_⟩|⟨rfl,_⟩;have⟨w',e0,g0,_⟩:=jj hs b0 (tM d0 n) h;refine⟨σ,w',.tuple #[],?_,bw.undef,g0⟩;have i0:(Builtin.zeroCells z.cells n).toList=eg z.cells.toList n:=(by rw[Builtin.zeroCells,sx]);obtain⟨n,rfl⟩:∃k,n=k+1:=⟨n-1,Z⟩;simp[Builtin.clear_,NF f.gU,hr,i0,e0];omega);cases h;cases h;cases h
def M9(hE:E.OK P)(hs:eW P σ m w){t ty:TypeId}{x x' v:O}(h:qS E m t x=some v)(H:bw σ x x'):(Builtin.len_ #[t] ty #[x']).run P w=.ok v w/\bL v:=by unfold qS at h;split at h;cases h;rename_i ti b0;have⟨i,u,f⟩:=hE.oI b0;split at h;rename_i s F;rw[f.d]at F;obtain rfl:=kB F;cases h;rw[H.string];exact⟨by simp[Builtin.len_,NF f.gU,goInt],rfl⟩;rename_i n e F;rw[f.d]at F;obtain rfl:=lG F;cases h;exact⟨by simp[Builtin.len_,NF f.gU,goInt],rfl⟩;rename_i e b n c F;rw[f.d]at F;obtain rfl:=dX F;cases h;obtain⟨b',c',rfl,_⟩:=H.yF;exact⟨by simp[Builtin.len_,NF f.gU,goInt],rfl⟩;rename_i k e F;rw[f.d]at F;obtain rfl:=od F;cases h;rw[H.map_nil];exact⟨by simp[Builtin.len_,NF f.gU,goInt],rfl⟩;rename_i k e r F;rw[f.d]at F;obtain rfl:=od F;split at h;rename_i es clock hg;cases h;obtain⟨bi,d0,rfl⟩:=H.qP;have ho:=hs.obj _ _ d0;rw[hg]at ho;have⟨_,e0,h1,h2,_⟩:=ho;refine⟨?_,rfl⟩;have g0:(getObj bi.dL).run P w=.ok (.map e0 clock) w:=(by simp[getObj,Sem.run,h1]);simp[Builtin.len_,NF f.gU,g0,goInt,h2];cases h;cases h
theorem zU{g:Int->Int->Int}{op:O->O->Sem O}(H:∀k x k' y,(op (.int k x) (.int k' y)).run P w=.ok (.int k (g x y)) w):
  ∀(l F:ν) (k:IntKind) (x:Int) (v:O),bK σ l F->HX g k x l=some v->(F.foldlM op (.int k x)).run P w=.ok v w/\bL v=true
 |[],F,k,x,v,hl,h=>by obtain rfl:=hl.nil_eq;simp only[HX,DS]at h;subst h;exact⟨rfl,rfl⟩
 |y::l,F,k,x,v,hl,h=>by unfold HX at h;split at h;grind;rename_i k' y' rest heq;cases heq;obtain⟨v',l2,rfl,hv,b0⟩:=hl.cases;rw[hv.int];obtain⟨h1,h2⟩:=zU H _ _ _ _ _ b0 h;simp_all;cases h
def sX{g:Int->Int->Int}{op:O->O->Sem O}(F:∀k x k' y,(op (.int k x) (.int k' y)).run P w=.ok (.int k (g x y)) w){l l':ν}{v:O}(hl:bK σ l l')(h:eo g l=some v):
  ∃x rest,l'=x::rest/\(rest.foldlM op x).run P w=.ok v w/\bL v:=by unfold eo at h;split at h;obtain⟨v',l2,rfl,hv,H⟩:=hl.cases;rw[hv.int];exact⟨_,_,rfl,zU F _ _ _ _ _ H h⟩;cases h
def DE(F:eW P σ m w)(t:TypeId):DW P σ m w (Instr.makeMap t none) (.map (some m.n)) (m.push (.map [] 0)):=by refine⟨σ.add m.n ⟨w.heap.size,none⟩,w.alloc (.map #[] 0),.map (some w.heap.size),?_,.map _ ⟨w.heap.size,none⟩ (Sg.add_same _ _),?_⟩;simp[Instr.makeMap];exact Ev.uq F ⟨rfl, #[],heap_alloc_new w _,rfl,J⟩
def qU{F:TypeId}{k:O}(h:keyed E F k):ep k:=by unfold keyed at h;split at h;split at h;rfl;rfl;rfl;simp only[G4]at h;exact h.1.2;cases h;cases h
def bw.mA{v:O}(h:bw σ v v')(H:ep v):v'=v:=by by_cases hc:bL v=true;exact h.bJ hc;cases v with|agg a=>obtain⟨a',rfl,ha⟩:=h.nj;congr 1;apply Qd;apply Xx;intro j;(cases F:a.toList[j]? with|none=>exact JQ (by rw[<-ha.1];exact TR.1 F)|some u=>have⟨u',hu,hr⟩:=ha.get F;rw[hu,hr.bJ (SB.1 H u (QP F))])|_=>exact absurd H hc
def aaA(hE:E.OK P){t:TypeId}(h:scalar E t):∃u,P.underlying t=some u/\(u=.bool\/(∃k,u=.int k)\/u=.string):=by unfold scalar at h;split at h;rename_i fi H;have⟨i,u,f⟩:=hE.oI H;refine⟨u,f.gU,?_⟩;split at h;rename_i F;exact .inl (uz (by rw[<-f.d];exact F));rename_i k F;exact .inr (.inl ⟨k,oe (by rw[<-f.d];exact F)⟩);rename_i F;exact .inr (.inr (kB (by rw[<-f.d];exact F)));cases h;cases h
theorem uW(hE:E.OK P)(e:Bool)(n:Nat)(cs:Array O):∀gs:List Field,(∀g∈gs,g.offset < cs.toList.length/\scalar E g.type)->
  (forIn (m:=Sem) gs PUnit.unit λf _=>
   if f.name≠ "_" then do
    let x<-Go.part f.type cs f.offset
    Instr.checkKey e (n+1) f.type x
    pure (ForInStep.yield PUnit.unit)
   else pure (ForInStep.yield PUnit.unit)).run P w=.ok PUnit.unit w
 |[],_=>rfl
 |g::gs,h=>by have⟨h1,H⟩:=h g Mq;have⟨u,hu,F⟩:=aaA hE H;have ih:=uW hE e n cs gs (λg hg=>h g (DJ _ hg));have hp:(Go.part g.type cs g.offset).run P w=.ok cs[g.offset]! w:=(by unfold Go.part;have h3:g.offset < cs.size:=J;have ha:=xB (P:=P) u w g.type hu;have b0:(jM P u).agg=false:=(by rcases F with rfl |⟨k,rfl⟩ |rfl <;>rfl);simp_all);have hk:∀v,(Instr.checkKey e (n+1) g.type v).run P w=.ok () w:=(by intro v;rcases F with rfl |⟨k,rfl⟩ |rfl <;>simp[Instr.checkKey,NF hu]);simp_all
def oA(hE:E.OK P){kt:TypeId}{k:O}(h:keyed E kt k)(e:Bool)(n:Nat):(Instr.checkKey e (n+2) kt k).run P w=.ok () w:=by unfold keyed at h;split at h;rename_i ti H;have⟨i,u,f⟩:=hE.oI H;split at h;rename_i F;rw[f.d]at F;obtain rfl:=uz F;simp[Instr.checkKey,NF f.gU];rename_i F;rw[f.d]at F;obtain rfl:=oe F;simp[Instr.checkKey,NF f.gU];rename_i F;rw[f.d]at F;obtain rfl:=kB F;simp[Instr.checkKey,NF f.gU];rename_i fs cs F;rw[f.d]at F;obtain⟨gs,rfl,rfl⟩:=iX F;simp only[G4]at h;have:=uW (w:=w) hE e n cs gs.toList (λg hg=>by have:=SB.1 h.2 _ (US (f:=xC P) hg);simp only[G4]at this;refine⟨?_,this.2⟩;have h2:=this.1.2;rw[kN]at h2;simpa[xC]using Mv h2);rw[Array.forIn_toList]at this;unfold Instr.checkKey;simp only[UD,NF f.gU,Rr];simp_all;cases h;cases h
def yr(σ:Sg)(es F:List MapEntry):Prop:=es.length=F.length/\∀(j:Nat) e H,es[j]?=some e->F[j]?=some H->H.key=e.key/\H.born=e.born/\ep e.key=true/\bw σ e.val H.val
def yr.tail{e H:MapEntry}{es F:List MapEntry}(h:yr σ (e::es) (H::F)):yr σ es F:=
 ⟨by simpa using h.1,λj a b x y=>h.2 (j+1) a b J J⟩
theorem yr.cases{e:MapEntry}{es x:List MapEntry}(h:yr σ (e::es) x):∃H F,x=H::F/\yr σ es F/\H.key=e.key/\ep e.key/\bw σ e.val H.val:=by cases x with|nil=>have:=h.1;simp at this|cons H F=>have⟨h1,_,h3,h4⟩:=h.2 0 e H rfl rfl;exact⟨H,F,rfl,h.tail,h1,h3,h4⟩
def V8(σ:Sg):Option (Nat×O)->Option (Nat×O)->Prop
 |none,none=>True
 |some (i,v),some (j,F)=>i=j/\bw σ v F
 |_,_=>False
theorem uY{kt:TypeId}{k:O}{ti:TI}{u:TypeDesc}{it:TypeInfo}(d0:E.ty.get kt=some ti)(f:TIF P kt ti it u)(hu:u=.bool\/(∃k,u=.int k)\/u=.string):
  ∀(es F:List MapEntry) (i:Nat) (r:Option (Nat×O)),yr σ es F->findKey E kt k es i=some r->∃r',Instr.findNow u k F i=some r'/\V8 σ r r'
 |[],F,i,r,h,H=>by have:F=[]:=RJ h.1.symm;subst this;simp only[findKey,DS]at H;subst H;exact⟨none,rfl,trivial⟩
 |e::es,x,i,r,h,H=>by obtain⟨e',F,rfl,ht,hk,_,hv⟩:=h.cases;unfold findKey at H;have b0:∀b,eq? E kt k e.key=some b->Instr.sameNow u k e.key=some b:=(by intro b hb;unfold eq? at hb;rw[d0]at hb;simp only[f.d]at hb;rcases hu with rfl|⟨q,rfl⟩|rfl;simp only[jM]at hb;split at hb <;>simp_all [Instr.sameNow];simp only[jM]at hb;split at hb <;>simp_all [Instr.sameNow];simp only[jM]at hb;split at hb <;>simp_all [Instr.sameNow]);cases hq:eq? E kt k e.key with|none=>rw[hq]at H;cases H|some b=>rw[hq]at H;have hn:=b0 b hq;unfold Instr.findNow;rw[hk,hn];cases b with|true=>simp only[DS]at H;subst H;exact⟨_,rfl,rfl,hv⟩|false=>exact uY d0 f hu es F (i+1) r ht H
theorem qf(hE:E.OK P){kt:TypeId}{k:O}(b0:ep k):
  ∀(es F:List MapEntry) (i:Nat) (r:Option (Nat×O)),yr σ es F->findKey E kt k es i=some r->∃r',(Instr.findAsking kt k F i).run P w=.ok r' w/\V8 σ r r'
 |[],F,i,r,h,H=>by have:F=[]:=RJ h.1.symm;subst this;simp only[findKey,DS]at H;subst H;exact⟨none,rfl,trivial⟩
 |e::es,x,i,r,h,H=>by obtain⟨e',F,rfl,ht,hk,d0,hv⟩:=h.cases;unfold findKey at H;cases hq:eq? E kt k e.key with|none=>rw[hq]at H;cases H|some b=>rw[hq]at H;have he:=tA (w:=w) (σ:=σ) hE hq (bw.mn b0) (bw.mn d0);unfold Instr.findAsking;rw[hk,UD,he,Rr];cases b with|true=>simp only[DS]at H;subst H;exact⟨_,rfl,rfl,hv⟩|false=>exact qf hE b0 es F (i+1) r ht H
theorem pB(hE:E.OK P){kt:TypeId}{k:O}(hk:keyed E kt k){es F:List MapEntry}{r:Option (Nat×O)}(h:yr σ es F)(hf:findKey E kt k es 0=some r):
  ∃r',(Instr.findKey kt k F).run P w=.ok r' w/\V8 σ r r':=by have d0:=hk;unfold keyed at hk;split at hk;rename_i ti b0;have⟨i,u,f⟩:=hE.oI b0;have H:(u=.bool\/(∃k,u=.int k)\/u=.string)->∃r',(Instr.findKey kt k F).run P w=.ok r' w/\V8 σ r r':=(by intro hu;have⟨r',h1,h2⟩:=uY b0 f hu es F 0 r h hf;exact⟨r',by simp[Instr.findKey,NF f.gU,h1],h2⟩);split at hk;rename_i hd;exact H (.inl (uz (by rw[<-f.d];exact hd)));rename_i hd;exact H (.inr (.inl ⟨_,oe (by rw[<-f.d];exact hd)⟩));rename_i hd;exact H (.inr (.inr (kB (by rw[<-f.d];exact hd))));rename_i fs cs hd;rw[f.d]at hd;obtain⟨gs,rfl,rfl⟩:=iX hd;have⟨r',h1,h2⟩:=qf (w:=w) hE (qU d0) es F 0 r h hf;refine⟨r',?_,h2⟩;(cases F with|nil=>have:r'=none:=(by simp only[Instr.findAsking,RB,Result.ok.injEq]at h1;grind);subst this;simp[Instr.findKey,NF f.gU,Instr.findNow]|cons e F=>simp[Instr.findKey,NF f.gU,Instr.findNow,Instr.sameNow,h1]);cases hk;cases hk
def Tq(w:World)(x:O)(es:Array MapEntry):Prop:=(x=.map none/\es= #[])\/∃r clock,x=.map (some r)/\w.heap[r]?=some (.map es clock)
def aec{F et:TypeId}{k v:O}{es:Array MapEntry}{j:Nat}(ok:Bool)(hu:P.underlying t=some (.map F et))(hm:Tq w x es)(H:(Instr.checkKey es.isEmpty 10000 F k).run P w=.ok () w)
  (hf:(Instr.findKey F k es.toList).run P w=.ok (some (j,v)) w):(Instr.lookup t x k ok).run P w=.ok (if ok then .tuple #[v,VT]else v) w:=by rcases hm with⟨rfl,rfl⟩|⟨r,clock,rfl,hr⟩;simp only[Instr.lookup,UD,NF hu,Rr,RB,H,hf];have hg:(getObj r).run P w=.ok (.map es clock) w:=(by simp only[getObj,Sem.run,hr]);simp only[Instr.lookup,UD,NF hu,Rr,RB,hg,H,hf]
def Aj{F H:TypeId}{k z:O}{es:Array MapEntry}(ok:Bool)(hu:P.underlying t=some (.map F H))(hm:Tq w x es)(hc:(Instr.checkKey es.isEmpty 10000 F k).run P w=.ok () w)
  (hf:(Instr.findKey F k es.toList).run P w=.ok none w) (hz:(zeroValue H).run P w=.ok z w):(Instr.lookup t x k ok).run P w=.ok (if ok then .tuple #[z,P6]else z) w:=by rcases hm with⟨rfl,rfl⟩|⟨r,clock,rfl,hr⟩;simp only[Instr.lookup,UD,NF hu,Rr,RB,hc,hf,hz];have hg:(getObj r).run P w=.ok (.map es clock) w:=(by simp only[getObj,Sem.run,hr]);simp only[Instr.lookup,UD,NF hu,Rr,RB,hg,hc,hf,hz]
theorem FI(hE:E.OK P)(hs:eW P σ m w){t:TypeId}{x k x' k' v:O}{ok:Bool}(h:eZ E m t x k ok=some v)(hx:bw σ x x')(hk:bw σ k k'):
  ∃v',(Instr.lookup t x' k' ok).run P w=.ok v' w/\bw σ v v':=by unfold eZ at h;split at h;cases h;rename_i ti j0;have⟨i,u,f⟩:=hE.oI j0;split at h;rename_i kt et hd;rw[f.d]at hd;obtain rfl:=od hd;split at h;(cases h;rename_i es b0;cases H:keyed E kt k with|false=>rw[H]at h;simp at h|true=>rw[H]at h;simp only[gc]at h;obtain rfl:=hk.mA (qU H);have k0:∃F:Array MapEntry,Tq w x' F/\yr σ es F.toList:=(by split at b0;cases b0;exact⟨#[],.inl ⟨hx.map_nil,rfl⟩,rfl,J⟩;split at b0;rename_i r _ _ hg;cases b0;obtain⟨bi,l0,rfl⟩:=hx.qP;have ho:=hs.obj _ _ l0;rw[hg]at ho;have⟨_,F,h1,h2,h3⟩:=ho;exact⟨F,.inr ⟨_,_,rfl,h1⟩,J,λj e e' a b=>h3 j e e' a J⟩;grind;grind);have⟨F,e0,n0⟩:=k0;have g0:=oA (w:=w) hE H F.isEmpty 9998;cases hf:findKey E kt k' es 0 with|none=>rw[hf]at h;cases h|some r=>have⟨r',h0,d0⟩:=pB (w:=w) hE H n0 hf;rw[hf]at h;cases r with|some p=>have⟨j,v0⟩:=p;(cases r' with|none=>exact d0.elim|some p'=>have⟨j',i0⟩:=p';have⟨_,hv⟩:=d0;simp only[DS]at h;subst h;refine⟨if ok then .tuple #[i0,VT]else i0,?_,?_⟩;exact aec ok f.gU e0 g0 h0;cases ok;exact hv;exact(bK.cons hv (bK.cons (.flat _ rfl) bK.nil)).tuple)|none=>cases r' with|some p'=>exact d0.elim|none=>simp only[R7]at h;obtain⟨z,hz,rfl⟩:=h;unfold gX at hz;cases he:E.ty.get et with|none=>rw[he]at hz;simp at hz|some ei=>rw[he]at hz;simp only[RM]at hz;have⟨ie,ue,fe⟩:=hE.oI he;have o0:=bw.gI (σ:=σ) (hE.flat he hz);have hr:=eC (w:=w) fe.info (by rw[<-fe.zero];exact hz);refine⟨if ok then .tuple #[z,P6]else z,?_,?_⟩;exact Aj ok f.gU e0 g0 h0 hr;cases ok;grind;exact(bK.cons o0 (bK.cons (.flat _ rfl) bK.nil)).tuple);cases h
def SY{a b:ByteArray}(h:(a==b)):a=b:=by cases a;cases b;rename_i x y;have:(x==y):=h;grind
def xW{q:Kd}{y:O}(h:Lu q x y=some true)(n:Nat):Instr.sameBits n y x:=by unfold Lu at h;split at h;simp only[DS,beq_iff_eq]at h;subst h;simp[Instr.sameBits];split at h;rename_i F;subst F;simp only[DS,beq_iff_eq]at h;subst h;simp[Instr.sameBits];cases h;simp only[DS]at h;obtain rfl:=SY h;simpa[Instr.sameBits]using h;cases h
theorem xX(n:Nat):∀{H:List Kd} {xs ys:ν},cM H xs ys=some true->xs.length=ys.length/\((ys.zip xs).all λ(x,y)=>Instr.sameBits n x y)=true
 |[],[],[],_=>⟨rfl,rfl⟩
 |k::H,x::xs,y::ys,h=>by unfold cM at h;cases F:Lu k x y with|none=>rw[F]at h;simp at h|some c=>cases h2:cM H xs ys with|none=>rw[F,h2]at h;simp at h|some r=>rw[F,h2]at h;simp only[DS,G4]at h;obtain⟨rfl,rfl⟩:=h;have⟨a,b⟩:=xX n h2;refine⟨by simp[a],?_⟩;simp only[NR,V2,G4];exact⟨xW F n,b⟩
def Lt{kt:TypeId}{k y:O}(F:keyed E kt k)(h:eq? E kt k y=some true):Instr.sameBits 10000 y k:=by unfold keyed at F;unfold eq? at h;split at F;rename_i ti H;rw[H]at h;have⟨d,_,_,_,_,cmp⟩:=ti;dsimp only at h F;split at F;exact xW (q:=.b) (by cases y <;>simp_all [Lu]) _;exact xW (q:=.i) (by cases y <;>simp_all [Lu]) _;exact xW (q:=.s) (by cases y <;>simp_all [Lu]) _;(cases y with|agg ys=>simp only at h;(cases cmp with|none=>simp at h|some ks=>simp only at h;have⟨a,b⟩:=xX 9999 h;simp only[Instr.sameBits,G4];grind)|_=>simp at h);cases F;cases F
theorem vT{F:TypeId}{k:O}:∀(es:List MapEntry) (i j:Nat) (v:O),findKey E F k es i=some (some (j,v))->∃e,i<=j/\es[j-i]?=some e/\eq? E F k e.key=some true
 |[],i,j,v,h=>by simp[findKey]at h
 |e::es,i,j,v,h=>by unfold findKey at h;cases H:eq? E F k e.key with|none=>rw[H]at h;cases h|some b=>rw[H]at h;cases b with|true=>grind|false=>have⟨e',h1,h2,h3⟩:=vT es (i+1) j v h;grind
theorem rE(hE:E.OK P)(hs:eW P σ m w){t:TypeId}{x k v x' k' v':O}(h:fx E m t x k v=some m')(hx:bw σ x x')(hk:bw σ k k')(hv:bw σ v v'):
  ∃w',(Instr.mapUpdate t x' k' v').run P w=.ok () w'/\Ev P σ m w σ m' w':=by unfold fx at h;split at h;rename_i ti r y0;have⟨i,u,f⟩:=hE.oI y0;split at h;rename_i kt et es clock hd hg;rw[f.d]at hd;obtain rfl:=od hd;(cases b0:keyed E kt k with|false=>rw[b0]at h;simp at h|true=>rw[b0]at h;simp only[gc]at h;have A0:=qU b0;obtain rfl:=hk.mA A0;obtain⟨bi,i0,rfl⟩:=hx.qP;have ho:=hs.obj _ _ i0;rw[hg]at ho;have⟨o0,F,h1,h2,h3⟩:=ho;have p0:yr σ es F.toList:=⟨J,λj e e' a b=>h3 j e e' a J⟩;have j0:(getObj bi.dL).run P w=.ok (.map F clock) w:=(by simp only[getObj,Sem.run,h1]);have k0:∀o,(setObj bi.dL o).run P w=.ok () {w with heap:=w.heap.setIfInBounds bi.dL o}:=λo=>MapKept.run_setObj_map o h1;have q0:=oA (w:=w) hE b0 false 9998;have P0:=hs.lt _ _ i0;have d0:∀o:Obj,({w with heap:=w.heap.setIfInBounds bi.dL o}:World).heap[bi.dL]?=some o:=(by grind);have H:∀(o:Obj) B,B≠bi.dL->({w with heap:=w.heap.setIfInBounds bi.dL o}:World).heap[B]?=w.heap[B]?:=(by grind);have g0:∀o:Obj,({w with heap:=w.heap.setIfInBounds bi.dL o}:World).heap.size=w.heap.size:=J;have h0:m.get r≠.dead:=J;cases hf:findKey E kt k' es 0 with|none=>rw[hf]at h;cases h|some fr=>have⟨r0,s0,l0⟩:=pB (w:=w) hE b0 p0 hf;rw[hf]at h;cases fr with|some p=>have⟨j,v0⟩:=p;(cases r0 with|none=>exact l0.elim|some p'=>have⟨j',Q0⟩:=p';obtain⟨rfl,_⟩:=l0;simp only[DS]at h;subst h;have⟨e0,_,u0,heq⟩:=vT es 0 j v0 hf;simp only[IJ]at u0;have B0:j<F.size:=J;obtain⟨O0,_,_,_⟩:=h3 j e0 F[j] u0 J;have n0:(Instr.keyThatStays (((F[j]?).map (·.key)).getD k') k').run P w=.ok k' w:=(by have:((F[j]?).map (·.key)).getD k'=e0.key:=J;rw[this];unfold Instr.keyThatStays;rw[UG (Lt b0 heq)];rfl);refine⟨_,?_,Ev.write (ob:=.map (es.modify j λe=>{e with key:=k',val:=v}) clock) (w':={w with heap:=w.heap.setIfInBounds bi.dL (.map (F.modify j λe=>{e with key:=k',val:=v'}) clock)}) hs i0 h0 ?_ (H _) (g0 _) rfl rfl rfl⟩;simp only[Instr.mapUpdate,UD,NF f.gU,Rr,j0,q0,s0,n0,k0];refine⟨o0,_,d0 _,J,?_⟩;grind)|none=>cases r0 with|some p'=>exact l0.elim|none=>simp only[DS]at h;subst h;refine⟨_,?_,Ev.write (ob:=.map (es++ [{key:=k',val:=v,born:=clock}]) (clock+1)) (w':={w with heap:=w.heap.setIfInBounds bi.dL (.map (F.push {key:=k',val:=v',born:=clock}) (clock+1))}) hs i0 h0 ?_ (H _) (g0 _) rfl rfl rfl⟩;simp only[Instr.mapUpdate,UD,NF f.gU,Rr,j0,q0,s0,k0];refine⟨o0,_,d0 _,J,?_⟩;grind);cases h;cases h
theorem yg:∀{cs F:ν} {H:List Int},bytesOf cs=some H->bK σ cs F->F=H.map (Value.int .u8)
 |[],x,H,h,hl=>by cases h;exact hl.nil_eq
 |c::cs,x,H,h,hl=>by obtain⟨c',F,rfl,hc,b0⟩:=hl.cases;unfold bytesOf at h;split at h;grind;rename_i n r he;(cases he;cases hr:bytesOf cs with|none=>rw[hr]at h;cases h|some d0=>rw[hr]at h;cases h;rw[hc.int,yg hr b0];rfl);cases h
def H6(hE:E.OK P)(hs:eW P σ m w){s d:TypeId}{x x' v:O}(h:JO E m s d x=some v)(hx:bw σ x x'):(convert s d x').run P w=.ok v w/\bL v:=by unfold JO at h;split at h;rename_i ti tj i0 j0;have⟨_,us,fs⟩:=hE.oI i0;have⟨_,ud,fd⟩:=hE.oI j0;split at h;rename_i e b n c d0 e0;rw[fs.d]at d0;rw[fd.d]at e0;have g0:=fs.gU.trans (by rw[dX d0]);have h0:=fd.gU.trans (by rw[kB e0]);split at h;rename_i te k0;have⟨_,ue,fe⟩:=hE.oI k0;split at h;rename_i F;(cases h;rw[fe.d]at F;have H:=fe.gU.trans (by rw[oe F]);obtain⟨rfl,rfl,rfl⟩:=hx.iC;rw[run_convert_bytes_string w s d e none 0 0 g0 H h0];exact⟨rfl,rfl⟩;rename_i a F;rw[fe.d]at F;have H:=fe.gU.trans (by rw[oe F]);(cases hn:Nat.beq n 0 with|true=>rw[hn]at h;cases h|false=>rw[hn]at h;simp only[I2]at h;split at h;rename_i cs l0;split at h;rename_i ns n0;(cases h;have p0:n≠0:=S1 hn;obtain⟨bi,a',c',o0,rfl,b0⟩:=hx.ee;rcases b0 with⟨_,rfl,_⟩|⟨rfl,_⟩);have⟨q0,q1,q2,_,_⟩:=jD (w:=w) hs o0 l0;rw[yg n0 q2]at q1;rw[run_convert_bytes_string w s d e _ _ _ g0 H h0];exact⟨run_bytesToString w _ n c' ns q1,rfl⟩;grind;cases h;cases h);cases h);cases h;cases h;cases h
def SK(hE:E.OK P)(hs:eW P σ m w){s d:TypeId}{x F v:O}(h:Tx E m s d x=some v)(H:bw σ x F):(convert s d F).run P w=.ok v w/\bL v:=by unfold Tx at h;split at h;rename_i v1 h1;cases h;exact JN hE h1 H;exact H6 hE hs h H
theorem Cn(hE:E.OK P)(hs:eW P σ m w){t:TypeId}{x k x' k' v:O}(h:jo E m t x k=some (v,m'))(hx:bw σ x x')(hk:bw σ k k'):
  ∃w' v',(Instr.mapEntry t x' k').run P w=.ok v' w'/\bw σ v v'/\Ev P σ m w σ m' w':=by unfold jo at h;split at h;rename_i ti r B0;have⟨i,u,f⟩:=hE.oI B0;split at h;rename_i kt et es clock hd hg;rw[f.d]at hd;obtain rfl:=od hd;(cases b0:keyed E kt k with|false=>rw[b0]at h;simp at h|true=>rw[b0]at h;simp only[gc]at h;have O0:=qU b0;obtain rfl:=hk.mA O0;obtain⟨bi,i0,rfl⟩:=hx.qP;have ho:=hs.obj _ _ i0;rw[hg]at ho;have⟨q0,F,h1,h2,h3⟩:=ho;have r0:yr σ es F.toList:=⟨J,λj e e' a b=>h3 j e e' a J⟩;have k0:(getObj bi.dL).run P w=.ok (.map F clock) w:=(by simp only[getObj,Sem.run,h1]);have l0:∀o,(setObj bi.dL o).run P w=.ok () {w with heap:=w.heap.setIfInBounds bi.dL o}:=λo=>MapKept.run_setObj_map o h1;have s0:=oA (w:=w) hE b0 false 9998;have e1:=hs.lt _ _ i0;have d0:∀o:Obj,({w with heap:=w.heap.setIfInBounds bi.dL o}:World).heap[bi.dL]?=some o:=(by grind);have H:∀(o:Obj) B,B≠bi.dL->({w with heap:=w.heap.setIfInBounds bi.dL o}:World).heap[B]?=w.heap[B]?:=(by grind);have g0:∀o:Obj,({w with heap:=w.heap.setIfInBounds bi.dL o}:World).heap.size=w.heap.size:=J;have h0:m.get r≠.dead:=J;cases hf:findKey E kt k' es 0 with|none=>rw[hf]at h;cases h|some fr=>have⟨u0,y0,n0⟩:=pB (w:=w) hE b0 r0 hf;rw[hf]at h;cases fr with|some p=>have⟨j,v0⟩:=p;(cases u0 with|none=>exact n0.elim|some p'=>have⟨j',P0⟩:=p';obtain⟨rfl,Q0⟩:=n0;simp only[DS,Ax]at h;obtain⟨rfl,rfl⟩:=h;have⟨e0,_,A0,heq⟩:=vT es 0 j v0 hf;simp only[IJ]at A0;have c1:j<F.size:=J;obtain⟨d1,a1,_,_⟩:=h3 j e0 F[j] A0 J;have o0:(Instr.keyThatStays (((F[j]?).map (·.key)).getD k') k').run P w=.ok k' w:=(by have:((F[j]?).map (·.key)).getD k'=e0.key:=J;rw[this];unfold Instr.keyThatStays;rw[UG (Lt b0 heq)];rfl);have hb:((F[j]?).map (λx=>(x.born:Int))).getD 0=((es[j]?).map (λx=>(x.born:Int))).getD 0:=J;refine⟨_,.tuple #[P0,goInt (((F[j]?).map (·.born)).getD 0)],?_,?_,Ev.write (ob:=.map (es.modify j λe=>{e with key:=k'}) clock) (w':={w with heap:=w.heap.setIfInBounds bi.dL (.map (F.modify j λe=>{e with key:=k'}) clock)}) hs i0 h0 ?_ (H _) (g0 _) rfl rfl rfl⟩;simp only[Instr.mapEntry,UD,NF f.gU,Rr,k0,s0,y0,o0,l0];rfl;rw[hb];exact(bK.cons Q0 (bK.cons (.flat _ rfl) bK.nil)).tuple;refine⟨q0,_,d0 _,J,?_⟩;grind)|none=>cases u0 with|some p'=>exact n0.elim|none=>simp only[R7,Ax]at h;obtain⟨z,hz,rfl,rfl⟩:=h;unfold gX at hz;cases j0:E.ty.get et with|none=>rw[j0]at hz;simp at hz|some ei=>rw[j0]at hz;simp only[RM]at hz;have⟨ie,ue,fe⟩:=hE.oI j0;have b1:=bw.gI (σ:=σ) (hE.flat j0 hz);have p0:=eC (w:=w) fe.info (by rw[<-fe.zero];exact hz);refine⟨_,.tuple #[z,goInt clock],?_,(bK.cons b1 (bK.cons (.flat _ rfl) bK.nil)).tuple,Ev.write (ob:=.map (es++ [{key:=k',val:=z,born:=clock}]) (clock+1)) (w':={w with heap:=w.heap.setIfInBounds bi.dL (.map (F.push {key:=k',val:=z,born:=clock}) (clock+1))}) hs i0 h0 ?_ (H _) (g0 _) rfl rfl rfl⟩;simp only[Instr.mapEntry,UD,NF f.gU,Rr,k0,s0,y0,p0,l0];rfl;refine⟨q0,_,d0 _,J,?_⟩;grind);cases h;cases h
theorem uQ{b:Int}:∀(es:List MapEntry) (F:List MapEntry) (i j:Nat),yr σ es F->tR b es i=some j->i<=j/\j-i<F.length/\F.findIdx? (λe=>(e.born:Int)==b)=some (j-i)
 |[],F,i,j,_,h=>by simp[tR]at h
 |e::es,x,i,j,H,h=>by obtain⟨e',F,rfl,ht,_,b0,hv⟩:=H.cases;have hb:e'.born=e.born:=(H.2 0 e e' rfl rfl).2.1;unfold tR at h;rw[List.findIdx?_cons];by_cases hc:(e.born:Int)=b;grind;have h1:decide ((e.born:Int)=b)=false:=C8 hc;rw[h1]at h;simp only[I2]at h;have⟨q1,q2,q3⟩:=uQ es F (i+1) j ht h;grind
def acX(hs:eW P σ m w){t:TypeId}{x s v x' s' v':O}(h:ff m x s v=some m')(hx:bw σ x x')(i0:bw σ s s')(hv:bw σ v v'):
  ∃w',(Instr.entryStore t x' s' v').run P w=.ok () w'/\Ev P σ m w σ m' w':=by unfold ff at h;split at h;rename_i r k b;split at h;rename_i es clock hg;split at h;rename_i j hj;(cases h;obtain⟨bi,H,rfl⟩:=hx.qP;have ho:=hs.obj _ _ H;rw[hg]at ho;have⟨j0,F,h1,h2,h3⟩:=ho;have e0:yr σ es F.toList:=⟨J,λj e e' a b=>h3 j e e' a J⟩;have g0:(getObj bi.dL).run P w=.ok (.map F clock) w:=(by simp only[getObj,Sem.run,h1]);have h0:∀o,(setObj bi.dL o).run P w=.ok () {w with heap:=w.heap.setIfInBounds bi.dL o}:=λo=>MapKept.run_setObj_map o h1;have k0:=hs.lt _ _ H;have b0:m.get r≠.dead:=J;have⟨_,_,d0⟩:=uQ es F.toList 0 j e0 hj;rw[IJ]at d0;have d0:F.findIdx? (λe=>(e.born:Int)==b)=some j:=(by rcases F with⟨l⟩;grind);rw[i0.int];refine⟨_,?_,Ev.write (ob:=.map (es.modify j λe=>{e with val:=v}) clock) (w':={w with heap:=w.heap.setIfInBounds bi.dL (.map (F.modify j λe=>{e with val:=v'}) clock)}) hs H b0 ?_ J co rfl rfl rfl⟩;simp only[Instr.entryStore,UD,g0,Rr,asInt,asIntOf,RB,d0,h0];refine⟨j0,F.modify j λe=>{e with val:=v'},J,J,?_⟩;grind);cases h;cases h;cases h
end
section
def LK(m m':M):Prop:=∀b r,m.get b=.loop r->∃F,m'.get b=.loop F
variable{m m' m2:M}{E:Env}
def LK.refl:LK m m:=λ_ r h=>⟨r,h⟩
def LK.trans(h:LK m m')(F:LK m' m2):LK m m2:=λb r H=>by have⟨r',h1⟩:=h b r H;exact F b r' h1
def LK.push:LK m (m.push o):=λb r h=>⟨r,by have:b<m.n:=M.oh J;rw[M.kG,ND Z];exact h⟩
theorem LK.set(hb:∀r,m.get b≠.loop r):LK m (m.set b o):=λc r h=>by by_cases F:c=b;grind;refine⟨r,?_⟩;have:c<m.n:=M.oh J;rw[M.ij];have H:(m.set b o).n=m.n:=rfl;rw[H,UG this];show((m.st.set b o).get c).getD .dead=_;rw[Tr.cF,ND F];rw[M.ij,UG this]at h;exact h
def LK.AH{F:Dm}:LK m (m.set b (.loop F)):=λc r h=>by have:c<m.n:=M.oh J;by_cases H:c=b;subst H;exact⟨F,by rw[M.cF _ _ _ _ this,UG rfl]⟩;refine⟨r,?_⟩;rw[M.ij];have hn:(m.set b (.loop F)).n=m.n:=rfl;rw[hn,UG this];show((m.st.set b _).get c).getD .dead=_;rw[Tr.cF,ND H];rw[M.ij,UG this]at h;exact h
theorem LK.low{x:Nat}(h:LK m m'):LK m {m' with low:=x}:=h
def LK.Ch{x:Nat}(h:LK {m with low:=x} m'):LK m m':=h
def lR(h:storeCells m a vs=some m'):LK m m':=by unfold storeCells at h;split at h;rename_i c e g H;(cases F:(a.spot.isNone && Nat.ble (a.off+vs.length) c.length && vs.all one)with|false=>rw[F]at h;cases h|true=>rw[F]at h;cases h;exact LK.set λr=>J);cases h
def GY{v:O}(h:storeVar E m t a v=some m'):LK m m':=by unfold storeVar at h;split at h;(cases F:Nat.beq (cells v).length _ with|false=>rw[F]at h;cases h|true=>rw[F]at h;exact lR h);cases h
def acO{k sl sc F:Nat}{base:Option Addr}{news:ν}{v:O}(h:oU m e k base sl sc F news=some (v,m')):LK m m':=by unfold oU at h;split at h;(cases H:(Nat.beq sl 0 && Nat.beq sc 0)with|false=>rw[H]at h;cases h|true=>rw[H]at h;cases h;exact LK.push);rename_i a;split at h;rename_i c te g iF hg _;(cases H:(g.isNone ||(g==some k && Nat.blt (a.off+sc*k) c.length))with|true=>rw[H]at h;cases h;exact LK.push|false=>rw[H]at h;cases b0:(g==some k && Nat.beq a.off 0 && a.spot.isNone && Nat.beq (sl*k) c.length && Nat.beq sc sl && Nat.beq te e)with|false=>rw[b0]at h;cases h|true=>rw[b0]at h;cases h;exact(LK.set λr=>J).trans LK.push);cases h
def abB{u:TypeId}{v:O}(h:eD E m t u s x=some (v,m')):LK m m':=by unfold eD at h;split at h;rename_i ti ui base sl sc n _ _ _;split at h;(cases h;rename_i e _ _;split at h;rename_i ei news _ _;(cases hc:(Nat.beq ti.es 0 ||Nat.blt 65536 ei.bytes || !news.all one ||Nat.blt 268435456 (sl+n) || !Nat.beq news.length (n*ti.es) || !iM ei.zero ti.es)with|true=>rw[hc]at h;cases h|false=>rw[hc]at h;simp only[I2]at h;cases F:Nat.ble (sl+n) sc with|false=>rw[F]at h;exact acO h|true=>rw[F]at h;simp only[gc]at h;split at h;rename_i a;simp only[R7,Ax]at h;obtain⟨m1,h1,_,rfl⟩:=h;(cases H:Nat.beq n 0 with|true=>rw[H]at h1;cases h1;exact LK.refl|false=>rw[H]at h1;exact lR h1);cases H:Nat.beq n 0 with|true=>rw[H]at h;cases h;exact LK.refl|false=>rw[H]at h;cases h);cases h;cases h);cases h
def VL{d v:O}(h:CZ E m t d x=some (v,m')):LK m m':=by unfold CZ at h;split at h;rename_i ti base dl _ xl _ _;split at h;(cases H:Nat.beq ti.es 0 with|true=>rw[H]at h;cases h|false=>rw[H]at h;simp only[I2]at h;split at h;simp only[R7,Ax]at h;obtain⟨m1,F,_,rfl⟩:=h;(cases hn:Nat.beq (min xl dl) 0 with|true=>rw[hn]at F;cases F;exact LK.refl|false=>rw[hn]at F;exact lR F);cases h;exact LK.refl);cases h;cases h
def SR{v:O}(h:tD E m t x=some (v,m')):LK m m':=by unfold tD at h;split at h;cases h;exact LK.refl;rename_i ti a n _ _;(cases F:Nat.beq n 0 with|true=>rw[F]at h;cases h;exact LK.refl|false=>rw[F]at h;simp only[I2]at h;split at h;split at h;simp only[R7,Ax]at h;obtain⟨m1,H,_,rfl⟩:=h;exact lR H;cases h;cases h);cases h
def JV{b:Builtin}{ts:List TypeId}{args:ν}{v:O}(h:aR E m b ts args=some (v,m')):LK m m':=by unfold aR at h;split at h;exact abB h;exact VL h;exact SR h;(all_goals try (simp only[R7,Ax]at h;obtain⟨_,_,_,rfl⟩:=h;exact LK.refl));split at h;split at h;rename_i a n c _;(cases F:so m a with|true=>rw[F]at h;cases h|false=>rw[F]at h;cases h;exact LK.refl);cases h;exact LK.refl;cases h;cases h;cases h
def xD{k v:O}(h:fx E m t x k v=some m'):LK m m':=by unfold fx at h;split at h;rename_i ti r _;split at h;rename_i H et es clock _ hg;(cases F:keyed E H k with|false=>rw[F]at h;cases h|true=>rw[F]at h;split at h;cases h;exact LK.set λr=>J;cases h;exact LK.set λr=>J;cases h);cases h;cases h
def HD{k v:O}(h:jo E m t x k=some (v,m')):LK m m':=by unfold jo at h;split at h;rename_i ti r _;split at h;rename_i H et es clock _ hg;(cases F:keyed E H k with|false=>rw[F]at h;cases h|true=>rw[F]at h;simp only[gc]at h;split at h;cases h;exact LK.set λr=>J;simp only[R7,Ax]at h;obtain⟨_,_,_,rfl⟩:=h;exact LK.set λr=>J;cases h);cases h;cases h
def aa7{v:O}(h:ff m x s v=some m'):LK m m':=by unfold ff at h;split at h;split at h;rename_i es clock F;split at h;cases h;exact LK.set λr=>J;cases h;cases h;cases h
def aem{l c v:O}(h:fy E m t l c=some (v,m')):LK m m':=by unfold fy at h;split at h;cases h;split at h;split at h;cases h;split at h;cases h;split at h;cases h;exact LK.push;cases h;cases h
def DT{ps:List (Nat×O)}{v:O}(h:aQ E m t n ps=some (v,m')):LK m m':=by unfold aQ at h;split at h;cases h;rename_i F _;split at h;split at h;(cases h;rename_i z _;cases H:(Nat.beq (cells z).length F.es && Nat.ble (n*F.es) 1048576)with|false=>rw[H]at h;cases h|true=>rw[H]at h;simp only[gc,R7,Ax]at h;obtain⟨_,_,_,rfl⟩:=h;exact LK.push);cases h
def iL(call:aF):Prop:=∀f args m v m',call f args m=some (v,m')->LK m m'
def QE(F:iL call){T:Tr O}{o:Op}{v:O}(h:dJ o E call T m=some (v,m')):LK m m':=by have same:∀{r:Option O},(match r with|some v=>some (v,m)|none=>none)=some (v,m')->LK m m':=(by intro r H;cases r with|none=>cases H|some x=>cases H;exact LK.refl);cases o with|move x=>cases h;exact LK.refl|assign x=>cases h;exact LK.refl|pick c a b=>simp only[dJ,sJ]at h;split at h <;>cases h;exact LK.refl|alloc t=>simp only[dJ,wW]at h;split at h <;>cases h;exact LK.push|box t x=>cases h;exact LK.push|build t ps=>exact same h|buildSlice t n ps=>exact DT h|load t a=>simp only[dJ,vF]at h;split at h;exact same h;cases h|store t a x=>simp only[dJ,qK]at h;split at h;split at h;rename_i hs;cases h;exact GY hs;cases h;cases h|nilCheck x=>simp only[dJ,iV]at h;split at h <;>cases h <;>exact LK.refl|binOp op t x y _=>exact same h|unOp op t x=>exact same h|convert s d x=>exact same h|makeFunc f a b=>simp only[dJ,jK]at h;split at h <;>cases h;exact LK.refl|makeMap t r=>simp only[dJ,uf]at h;split at h <;>cases h;exact LK.push|makeSlice t l c=>exact aem h|slice t x lo hi mx=>exact same h|fieldAddr s x f=>exact same h|field t x f=>exact same h|indexAddr t x i=>exact same h|index t x i=>exact same h|lookup t x i ok=>exact same h|mapUpdate t x k y=>simp only[dJ,ib]at h;split at h <;>cases h;exact xD ‹_›|insert t x k y=>simp only[dJ,ib]at h;split at h <;>cases h;exact xD ‹_›|extract x i=>simp only[dJ,lE]at h;split at h;exact same h;cases h|call c=>simp only[dJ,nV]at h;split at h;exact JV h;split at h;exact F _ _ _ _ _ h;cases h;cases h|mapEntry t x k=>exact HD h|entryStore t x s y=>simp only[dJ,mZ]at h;split at h <;>cases h;exact aa7 ‹_›|typeAssert x s t ok=>simp only[dJ,sK]at h;split at h;(cases ok with|false=>cases h|true=>split at h <;>cases h;exact LK.refl);rename_i t' cs _;(cases F:(ok && (Nat.beq t' t && cs.toList.isEmpty))with|false=>rw[F]at h;cases h|true=>rw[F,gc]at h;split at h;split at h <;>cases h;exact LK.refl;cases h);cases h|_=>simp[dJ]at h
theorem Ji{call:aF}(H:iL call){ops:Array Oper}:∀(l:List Oper) (fr F:Fr),Cd E call ops l fr=some F->LK fr.m F.m
 |[],fr,F,h=>by simp only[Hl,DS]at h;subst h;exact LK.refl
 |o::l,fr,F,h=>by rw[nw]at h;cases hw:cd ops fr.T o with|false=>rw[hw]at h;exact Ji H l {fr with T:=put fr.T o.dst undef} F h|true=>rw[hw]at h;simp only[gc]at h;cases ho:dJ o.op E call fr.T fr.m with|none=>rw[ho]at h;cases h|some p=>rw[ho]at h;exact(QE H ho).trans (Ji H l _ F h)
theorem F8{call:aF}(H:iL call){ops:Array Oper}:∀(l:List Oper) (j:Nat) (fr F:Fr),qk E call ops l j fr=some F->LK fr.m F.m
 |[],j,fr,F,h=>by simp only[EK,DS]at h;subst h;exact LK.refl
 |o::l,j,fr,F,h=>by rw[lK]at h;cases hw:cd ops fr.T o with|false=>rw[hw]at h;exact F8 H l (j+1) {fr with T:=put fr.T o.dst undef} F h|true=>rw[hw]at h;simp only[gc]at h;cases ho:dJ o.op E call fr.T {fr.m with low:=fr.m.n}with|none=>rw[ho]at h;cases h|some p=>have⟨v,m1⟩:=p;rw[ho]at h;simp only at h;cases hb:(Nat.ble fr.m.n m1.low ||(gC ops j ||Dz ops j fr.m fr.T o.op))with|false=>rw[hb]at h;cases h|true=>rw[hb]at h;simp only[gc]at h;have h1:LK fr.m m1:=LK.Ch (QE H ho);exact h1.trans (F8 H l (j+1) _ F h)
theorem KS{body:Fr->Option (Ex×Fr)}(hb:∀fr e F,body fr=some (e,F)->LK fr.m F.m):∀(n:Nat) (fr:Fr) (e:Ex) (F:Fr),jS body n fr=some (e,F)->LK fr.m F.m
 |0,_,_,_,h=>by simp[jS]at h
 |n+1,fr,e,F,h=>by unfold jS at h;cases H:body fr with|none=>rw[H]at h;cases h|some p=>have⟨e1,b0⟩:=p;rw[H]at h;have h1:=hb _ _ _ H;cases e1 with|normal=>exact h1.trans (KS hb n b0 e F h)|exit id=>cases h;exact h1|ret=>cases h;exact h1
theorem gd{call:aF}(H:iL call){n:Nat}:∀(c:Code) (fr:Fr) (e:Ex) (F:Fr),bF E call n c fr=some (e,F)->LK fr.m F.m
 |.skip,fr,e,F,h=>by cases h;exact LK.refl
 |.label l,fr,e,F,h=>by cases h;exact LK.refl
 |.exit id,fr,e,F,h=>by cases h;exact LK.refl
 |.ret,fr,e,F,h=>by cases h;exact LK.refl
 |.region id ops d,fr,e,F,h=>by unfold bF at h;simp only[R7,Ax]at h;obtain⟨b0,h,rfl,rfl⟩:=h;(cases d with|false=>exact Ji H _ _ _ h|true=>exact F8 H _ _ _ _ h)
 |.seq a b,fr,e,F,h=>by unfold bF at h;(cases ha:bF E call n a fr with|none=>rw[ha]at h;cases h|some p=>have⟨e1,b0⟩:=p;rw[ha]at h;have h1:=gd H a _ _ _ ha;cases e1 with|normal=>exact h1.trans (gd H b _ _ _ h)|exit id=>cases h;exact h1|ret=>cases h;exact h1)
 |.cond c x y,fr,e,F,h=>by unfold bF at h;split at h;rename_i t _;(cases t with|true=>exact gd H x _ _ _ h|false=>exact gd H y _ _ _ h);cases h
 |.block id c,fr,e,F,h=>by unfold bF at h;(cases ha:bF E call n c fr with|none=>rw[ha]at h;cases h|some p=>have⟨e1,b0⟩:=p;rw[ha]at h;have h1:=gd H c _ _ _ ha;cases e1 with|normal=>cases h;exact h1|exit d0=>simp only at h;(cases hb:Nat.beq d0 id with|true=>rw[hb]at h;cases h;exact h1|false=>rw[hb]at h;cases h;exact h1)|ret=>cases h;exact h1)
 |.loop c,fr,e,F,h=>by unfold bF at h;exact KS (λfr e F hb=>gd H c fr e F hb) n fr e F h
 |.scope c,fr,e,F,h=>by unfold bF at h;exact gd H c _ _ _ h
 |.rangeFunc g ps a b,fr,e,F,h=>by unfold bF at h;split at h;(rename_i f first captured _;split at h);rename_i v m1 e0;have h1:=LK.push.trans (H _ _ _ _ _ e0);split at h;split at h;cases h;cases h;exact h1.trans LK.AH;cases h;cases h;cases h
 |.goto l,fr,e,F,h=>by simp[bF]at h
 |.refuse y,fr,e,F,h=>by simp[bF]at h
theorem xV{call:aF}(hc:iL call){n:Nat}:∀(cs:List Code) (fr:Fr) (e:Ex) (F:Fr),mN (bF E call n) cs fr=some (e,F)->LK fr.m F.m
 |[],fr,e,F,h=>by cases h;exact LK.refl
 |c::cs,fr,e,F,h=>by unfold mN at h;cases H:bF E call n c fr with|none=>rw[H]at h;cases h|some p=>have⟨e1,b0⟩:=p;rw[H]at h;have h1:=gd hc c _ _ _ H;cases e1 with|normal=>exact h1.trans (xV hc cs _ _ _ h)|exit id=>cases h;exact h1|ret=>cases h;exact h1
def F1{fn:Func}{fr:Fr}{v:O}(H:LK m fr.m)(h:DI E fn m fr=some (v,m')):LK m m':=by unfold DI at h;split at h;cases h;rename_i v1 _;cases F:(aZ v1 && Nat.ble m.n fr.m.low)with|true=>rw[F]at h;cases h;exact LK.refl|false=>rw[F]at h;cases h;exact H
def ade(H:iL call){n g:Nat}{args:ν}(h:Gf E (bF E call n) g args m=some m'):LK m m':=by unfold Gf at h;split at h;rename_i c _;(cases F:(Nat.ble args.length c.fn.ntmps && (c.fn.results.toList.isEmpty && fL c.rest))with|false=>rw[F]at h;cases h|true=>rw[F]at h;split at h;split at h;cases h;cases h;rename_i hex;cases h;exact(gd H _ _ _ _ hex:LK m _);cases h);cases h
def SW(hc:iL call){n:Nat}{d:LO}{args:ν}{v:O}(h:rh E (bF E call n) d args m=some (v,m')):LK m m':=by unfold rh at h;cases hb:Nat.ble args.length d.fn.ntmps with|false=>rw[hb]at h;cases h|true=>rw[hb]at h;split at h;rename_i hex;exact F1 (xV hc _ _ _ _ hex:LK m _) h;rename_i fr hex;have h1:LK m fr.m:=(xV hc _ _ _ _ hex:LK m _);split at h;split at h;rename_i td g fi ca c _ _ _ _ _ t' _ _;(cases F:(Nat.beq _ td && (c.args.toList.isEmpty && fi.toList.isEmpty))with|false=>rw[F]at h;cases h|true=>rw[F]at h;split at h;cases h;cases h;rename_i e H _ b0;have h2:=gd hc _ _ _ _ b0;have h2:LK m H.m:=h1.trans h2;split at h;rename_i m3 d0;exact F1 (fr:={H with m:=m3}) (h2.trans (ade hc d0)) h;cases h);cases h;cases h;cases h
def acz(hc:iL call){n G l:Nat}{args:ν}{v:O}(h:yN (bF E call n) G l args m=some (v,m')):LK m m':=by unfold yN at h;split at h;rename_i r _;(cases hb:(Nat.beq args.length r.ps.size && Nat.beq r.G G)with|false=>rw[hb]at h;cases h|true=>rw[hb]at h;split at h;rename_i F hx;have h1:LK m F.m:=(gd hc _ _ _ _ hx:LK m _);split at h;split at h;split at h;rename_i H b0;have h2:LK m H.m:=(h1.trans LK.AH).trans (gd hc _ _ _ _ b0);split at h;split at h;cases h;exact h2.trans LK.AH;cases h;exact h2.trans LK.AH;cases h;cases h;cases h;cases h;cases h);cases h
theorem yf{X:aF}(H:iL X):∀n,iL (bT E X n)
 |0=>λf args m v m' h=>by simp[bT]at h
 |n+1=>λf args m v m' h=>by have F:=yf H n;cases f with|func f=>unfold bT at h;split at h;rename_i r hr;cases h;exact H _ _ _ _ _ hr;split at h;split at h;exact SW F h;cases h;rename_i fn _;split at h;cases h;(cases hle:Nat.ble args.length fn.ntmps with|false=>rw[hle]at h;cases h|true=>rw[hle]at h;simp only[gc]at h;split at h;cases h;cases h;rename_i fr _ hex;exact F1 (E:=E) (fn:=fn) (fr:=fr) (gd F _ _ _ _ hex:LK m _) h)|yield l=>unfold bT at h;exact acz F h|_=>simp[bT]at h
end
section
def dH(ro:Option Nat):Fence:={Fence.wide with round:=ro}
variable{E:Env}{P:Program}{σ:Sg}{m m':M}{w:World}
def eM(P:Program)(σ:Sg)(m:M)(w:World)(r:Result Next)(v:O)(m':M):Prop:=
 (∃σ' w' F,bw σ' v F/\Ev P σ m w σ' m' w')/\
 ∀(ro:Option Nat) (n:Nat) (o:Oper) (a:Act) (next:Act->World->Prop) (Q:Exit->Act->World->Prop),
  (∀σ' w' F,bw σ' v F->Ev P σ m w σ' m' w'->next (a.put o.dst F) w')->o.uponIn (dH ro) n P a next Q r
def dR(P:Program)(σ:Sg)(m:M)(w:World)(v:O)(m':M):Ending->World->Prop:=λe w'=>∃F σ',e=.returned F/\bw σ' v F/\Ev P σ m w σ' m' w'
structure cP(P:Program)(call:aF):Prop where
 func:∀f args m v m',call (.func f) args m=some (v,m')->∀σ w (args':Array O),eW P σ m w->bK σ args args'.toList->
  CallsIn Fence.wide 0 P f args' w (dR P σ m w v m')/\(callFunc f args').run P w=.ok (.enter f args') w
 yield:∀l args m v m',call (.yield l) args m=some (v,m')->∀σ w i (args':Array O),eW P σ m w->σ l=some i->bK σ args args'.toList->eM P σ m w ((Instr.yield i.dL args').run P w) v m'
 aX:iL call
 Oe:∀a m v m' b,call (.func Ds) [.pointer (some a)] m=some (v,m')->vn m a=some b->m.get b≠.dead/\m'=m.set b .dead/\∀σ w (args':Array O),eW P σ m w->bK σ [.pointer (some a)] args'.toList->
  ∃i,σ b=some i/\CallsIn Fence.wide 0 P Ds args' w (λe w'=>dR P σ m w v m' e w'/\∀B,B≠i.dL->w'.heap[B]?=w.heap[B]?)/\(callFunc Ds args').run P w=.ok (.enter Ds args') w
def eM.enter{f:FuncId}{v:O}(h:CallsIn Fence.wide 0 P f args w (dR P σ m w v m')):eM P σ m w (.ok (.enter f args) w) v m':=by refine⟨?_,λro n o a next Q hk=>?_⟩;obtain⟨e,w',fr,⟨F,σ',_,H,he⟩,_⟩:=h.2 [] (room_wide _);grind;refine⟨λhh=>by simp[dH,Fence.wide]at hh,?_⟩;have h2:CallsIn (dH ro) (n-1) P f args w (dR P σ m w v m'):=⟨trivial,λcs _=>h.2 cs (room_wide _)⟩;refine h2.mono λe w' he=>?_;obtain⟨F,σ',rfl,H,b0⟩:=he;grind
def ads{F:Ending->World->Prop}{f:FuncId}(h:CallsIn Fence.wide 0 P f args w F)(ro:Option Nat)(n:Nat)(o:Oper)(a:Act)(next:Act->World->Prop)(Q:Exit->Act->World->Prop)
  (hk:∀e w',F e w'->∃v',e=.returned v'/\next (a.put o.dst v') w'):o.uponIn (dH ro) n P a next Q (.ok (.enter f args) w):=by refine⟨λH=>by simp[dH,Fence.wide]at H,?_⟩;have h2:CallsIn (dH ro) (n-1) P f args w F:=⟨trivial,λcs _=>h.2 cs (room_wide _)⟩;refine h2.mono λe w' he=>?_;grind
def cP.op(F:cP P call)(f:FuncId)(args:ν)(m:M)(v:O)(m':M)(h:call (.func f) args m=some (v,m'))(σ:Sg)(w:World)(args':Array O)(H:eW P σ m w)(hl:bK σ args args'.toList):eM P σ m w ((callFunc f args').run P w) v m':=by have⟨h1,h2⟩:=F.func f args m v m' h σ w args' H hl;rw[h2];exact .enter h1
def eM.value{v:O}{σ':Sg}{w':World}(F:bw σ' v v')(he:Ev P σ m w σ' m' w'):eM P σ m w (.ok (.value v') w') v m':=
 ⟨⟨σ',w',v',F,he⟩,λ_ _ _ _ _ _ h=>h σ' w' v' F he⟩
def eM.skip{σ':Sg}{w':World}(he:Ev P σ m w σ' m' w'):eM P σ m w (.ok .skip w') undef m':=
 ⟨⟨σ',w',undef,bw.undef,he⟩,λ_ _ _ _ _ _ h=>h σ' w' undef bw.undef he⟩
def DW.op{s:Sem O}{v:O}(h:DW P σ m w s v m'):eM P σ m w ((do let x<-s;Pure.pure (Next.value x):Sem Next).run P w) v m':=by have⟨σ',w',v',F,H,h3⟩:=h;rw[UD,F];exact .value H h3
def eM.same(F:eW P σ m w){s:Sem O}{v v':O}(h:s.run P w=.ok v' w)(H:bw σ v v'):eM P σ m w ((do let x<-s;pure (Next.value x):Sem Next).run P w) v m:=
 (DW.pure F h H).op
def dA(σ:Sg)(T:Tr O)(a:Act)(nt:Nat):Prop:=a.tmps.size=nt/\∀t,t < nt->bw σ (jh T t) (a.eval (.tmp t))
def dA.mono{τ:Sg}{a:Act}(h:dA σ T a nt)(hle:σ.le τ):dA τ T a nt:=⟨h.1,λt F=>(h.2 t F).mono hle⟩
def Df(T:Tr O)(d:Tmp)(v:O)(t:Nat):jh (put T (some d) v) t=if t=d then v else jh T t:=by unfold jh D.put;rw[Tr.cF];grind
theorem dA.put{a:Act}{v:O}{dst:Option Tmp}(h:dA σ T a nt)(hd:∀d,dst=some d->d<nt)(hv:bw σ v v'):dA σ (put T dst v) (a.put dst v') nt:=by cases dst with|none=>exact h|some d=>have H:=hd d rfl;refine⟨by simp[Act.put,h.1],λt ht=>?_⟩;rw[Df];by_cases F:t=d;subst F;have:(a.put (some t) v').eval (.tmp t)=v':=(by simp[Act.put,Act.eval,h.1,H]);grind;rw[ND F,Act.eval_put J];exact h.2 t ht
def CQ{a:Act}{x:Operand}(H:eW P σ m w)(hT:∀t,x=.tmp t->bw σ (jh T t) (a.eval (.tmp t)))(F:vH nt P.globals.size x):bw σ (ev T x) (a.eval x):=by cases x with|tmp t=>exact hT t rfl|const v=>exact .mn F|global g=>have hg:g<P.globals.size:=(by have h:Nat.blt g P.globals.size:=F;simp_all);exact .ptr ⟨g,0,none⟩ ⟨g,none⟩ (H.mI g hg) rfl|func f=>exact .flat _ rfl
def jV{a:Act}(l:List Operand)(h:∀x∈l,bw σ (ev T x) (a.eval x)):bK σ (l.map (ev T)) (l.map a.eval):=by refine⟨co,λj u H hu F=>?_⟩;grind
theorem adT(hE:E.OK P)(hs:eW P σ m w){b:Builtin}{ts:Array TypeId}{ty:TypeId}{cs:Array Bool}{args args':ν}{v:O}(h:aR E m b ts.toList args=some (v,m'))(hl:bK σ args args'):
  eM P σ m w ((Go.builtin b ts ty cs args'.toArray).run P w) v m':=by unfold aR at h;split at h;rename_i t u s x H;obtain⟨s',l1,rfl,h1,e0⟩:=hl.cases;obtain⟨x',l2,rfl,h2,b0⟩:=e0.cases;obtain rfl:=b0.nil_eq;have F:ts= #[t,u]:=Qd H;subst F;exact(Gs (ty:=ty) hE hs h h1 h2).op;rename_i t rest d x H;obtain⟨s',l1,rfl,h1,e0⟩:=hl.cases;obtain⟨x',l2,rfl,h2,b0⟩:=e0.cases;obtain rfl:=b0.nil_eq;have F:ts[0]?=some t:=(by rw[<-OZ,H];rfl);exact(JM (ty:=ty) hE hs F h h1 h2).op;rename_i t x H;obtain⟨x',l2,rfl,h2,b0⟩:=hl.cases;obtain rfl:=b0.nil_eq;have F:ts= #[t]:=Qd H;subst F;exact(H7 (ty:=ty) hE hs h h2).op;rename_i t x H;obtain⟨x',l2,rfl,h2,b0⟩:=hl.cases;obtain rfl:=b0.nil_eq;have F:ts= #[t]:=Qd H;subst F;simp only[R7,Ax]at h;obtain⟨v0,h,rfl,rfl⟩:=h;have⟨q1,q2⟩:=M9 (ty:=ty) hE hs h h2;exact eM.same hs q1 (.flat _ q2);simp only[R7,Ax]at h;obtain⟨v0,h,rfl,rfl⟩:=h;obtain⟨x,rest,rfl,q1,q2⟩:=sX (P:=P) (w:=w) (op:=Builtin.min2) (λk x k' y=>rfl) hl h;exact eM.same hs (s:=Builtin.min_ ts ty (x::rest).toArray) (by simpa[Builtin.min_]using q1) (.flat _ q2);simp only[R7,Ax]at h;obtain⟨v0,h,rfl,rfl⟩:=h;obtain⟨x,rest,rfl,q1,q2⟩:=sX (P:=P) (w:=w) (op:=Builtin.max2) (λk x k' y=>rfl) hl h;exact eM.same hs (s:=Builtin.max_ ts ty (x::rest).toArray) (by simpa[Builtin.max_]using q1) (.flat _ q2);rename_i t x H;obtain⟨x',l2,rfl,h2,b0⟩:=hl.cases;obtain rfl:=b0.nil_eq;have F:ts= #[t]:=Qd H;subst F;split at h;rename_i ti g0;have⟨i,u,f⟩:=hE.oI g0;split at h;rename_i e a n c hd;rw[f.d]at hd;obtain rfl:=dX hd;(cases d0:so m a with|true=>rw[d0]at h;simp at h|false=>rw[d0]at h;simp only[I2,DS,Ax]at h;obtain⟨rfl,rfl⟩:=h;obtain⟨bi,a',c',h0,rfl,i0⟩:=h2.ee;have l0:bi.gr=none:=(by unfold so at d0;split at d0;rename_i cs te hg;have⟨_,_,_,_,j0⟩:=hs.cells h0 hg;exact j0.1;grind);have k0:c'=c:=(by grind);subst k0;exact eM.same hs (s:=Builtin.cap_ #[t] ty #[.slice (some a') n c']) (by simp[Builtin.cap_,NF f.gU,goInt]) (.flat _ rfl));rename_i e n c hd;rw[f.d]at hd;obtain rfl:=dX hd;cases h;obtain⟨rfl,rfl,rfl⟩:=h2.iC;exact eM.same hs (s:=Builtin.cap_ #[t] ty #[Z9]) (by simp[Builtin.cap_,NF f.gU,goInt]) (.flat _ rfl);cases h;cases h;cases h
def Dl.map{a:Act}{x:Option Operand}(h:∀o,x=some o->bw σ (ev T o) (a.eval o)):Dl σ (x.map (ev T)) (x.map a.eval):=by cases x with|none=>trivial|some o=>exact h o rfl
theorem JU(hE:E.OK P){call:aF}(cE:cP P call)(hs:eW P σ m w){T:Tr O}{a:Act}{c:Call}{ty:TypeId}{v:O}(h:nV c E call T m=some (v,m'))
  (hT:∀x∈c.operands.toList,bw σ (ev T x) (a.eval x)):eM P σ m w ((do let d<-resolve a.eval c ty;invoke d.target d.args:Sem Next).run P w) v m':=by unfold nV at h;have H:bK σ (c.args.toList.map (ev T)) (c.args.toList.map a.eval):=jV _ (λx hx=>hT x (by simp[Call.operands];exact .inr J));have e0:c.args.map a.eval=(c.args.toList.map a.eval).toArray:=J;unfold resolve;split at h;rename_i b hc;rw[hc];simp only[UD,RB,Rr,invoke,e0];exact adT hE hs h H;rename_i f hc;rw[hc];have hf:bw σ (ev T f) (a.eval f):=hT f (by simp[Call.operands,hc]);split at h;(rename_i g first captured hg;rw[hg]at hf;obtain⟨fv,b0⟩:∃x,a.eval f=x:=⟨_,rfl⟩);rw[b0]at hf;(cases hf with|flat _ hh=>(cases g with|func g=>simp only[b0,Deferred.ofValue,UD,RB,Rr,invoke];apply cE.op g _ m v m' h σ w _ hs;rw[e0];simp only[bL,G4,t8]at hh;grind|_=>simp[bL]at hh)|func g _ _ d0 F ha hb h1 h2=>simp only[b0,Deferred.ofValue,UD,RB,Rr,invoke];apply cE.op g _ m v m' h σ w _ hs;rw[e0];simp only[Vf];(have e1:bK σ first.toList d0.toList:=⟨J,λj u u' x y=>h1 j u u' J J⟩);have e2:bK σ captured.toList F.toList:=⟨J,λj u u' x y=>h2 j u u' J J⟩;rw[NZ];exact e1.append (H.append e2)|yield l i hl=>simp only[b0,Deferred.ofValue,UD,RB,Rr,invoke];apply cE.yield l _ m v m' h σ w i _ hs hl;grind);cases h;cases h
theorem sI(hE:E.OK P){call:aF}(cE:cP P call)(hs:eW P σ m w){T:Tr O}{a:Act}{o:Oper}{v:O}(h:dJ o.op E call T m=some (v,m'))
  (F:∀x∈o.op.operands.toList,bw σ (ev T x) (a.eval x)):eM P σ m w ((execOp a.eval o).run P w) v m':=by
 unfold execOp
 cases ho:o.op with|move x=>rw[ho]at h F;dsimp only;cases h;exact .value (F x ft) (Ev.refl hs)|assign x=>rw[ho]at h F;dsimp only;cases h;exact .value (F x ft) (Ev.refl hs)|pick c x y=>rw[ho]at h F;dsimp only;simp only[dJ,sJ]at h;split at h;rename_i t hc;simp only[DS,Ax]at h;obtain⟨rfl,rfl⟩:=h;have h1:=F c ft;rw[hc]at h1;rw[h1.bool];simp only[asBool,UD,RB,Rr];refine .value ?_ (Ev.refl hs);cases t;exact F y ft;exact F x ft;cases h|alloc t=>rw[ho]at h;dsimp only;simp only[dJ,wW]at h;split at h;rename_i z H;cases h;exact(Ae hE hs H).op;cases h|box t x=>rw[ho]at h F;dsimp only;cases h;exact(N1 hs (F x ft)).op|build t ps=>rw[ho]at h F;dsimp only;simp only[dJ,uj]at h;split at h;rename_i z H;cases h;obtain⟨v',h1,h2⟩:=zY (w:=w) hE (T:=ev T) (A:=a.eval) (λp hp=>F p.2 (by simp only[Op.operands];exact US hp)) H;exact eM.same hs h1 h2;cases h|buildSlice t n ps=>rw[ho]at h F;dsimp only;simp only[dJ,qL]at h;exact(zq hE hs (T:=ev T) (A:=a.eval) (λp hp=>F p.2 (by simp only[Op.operands];exact US hp)) h).op|load t x=>rw[ho]at h F;dsimp only;simp only[dJ,vF]at h;split at h;rename_i ad hx;split at h;rename_i z H;cases h;have h1:=F x ft;rw[hx]at h1;have⟨i,hi,_,he⟩:=h1.fW;have⟨v',q1,q2,_⟩:=py (w:=w) hE hs hi H;refine eM.same hs (s:=Instr.loadAt t (a.eval x)) ?_ q2;rw[he];simpa[Instr.loadAt,Instr.sureAddr]using q1;cases h;cases h|store t x y=>rw[ho]at h F;dsimp only;simp only[dJ,qK]at h;split at h;rename_i ad hx;split at h;rename_i m2 H;cases h;have h1:=F x ft;rw[hx]at h1;have⟨i,hi,_,he⟩:=h1.fW;obtain⟨w',q1,q2,_⟩:=sg hE hs hi (F y ft) H;have hr:(Instr.storeAt t (a.eval x) (a.eval y)).run P w=.ok () w':=(by rw[he];simpa[Instr.storeAt,Instr.sureAddr]using q1);simp only[UD,hr,Rr,RB];exact .skip q2;cases h;cases h|nilCheck x=>rw[ho]at h F;dsimp only;have h1:=F x ft;simp only[dJ,iV]at h;split at h;rename_i ad hx;cases h;rw[hx]at h1;have h2:=h1;have⟨i,hi,_,he⟩:=h1.fW;rw[he]at h2⊢;exact .value h2 (Ev.refl hs);rename_i g a1 b1 hx;cases h;rw[hx]at h1;have h2:=h1;have⟨a',b',he,_⟩:=h1.CL;rw[he]at h2⊢;exact .value h2 (Ev.refl hs);cases h|binOp op t x y yt=>rw[ho]at h F;dsimp only;simp only[dJ,En]at h;split at h;rename_i z H;cases h;obtain⟨q1,q2⟩:=EW (w:=w) hE H (F x ft) (F y ft) x y;exact eM.same hs q1 (.flat _ q2);cases h|unOp op t x=>rw[ho]at h F;dsimp only;simp only[dJ,MY]at h;split at h;rename_i z H;cases h;obtain⟨q1,q2⟩:=GN (P:=P) (w:=w) H (F x ft);exact eM.same hs q1 (.flat _ q2);cases h|convert s d x=>rw[ho]at h F;dsimp only;simp only[dJ,Jj]at h;split at h;rename_i z H;cases h;obtain⟨q1,q2⟩:=SK (P:=P) (w:=w) hE hs H (F x ft);exact eM.same hs q1 (.flat _ q2);cases h|makeFunc f x y=>rw[ho]at h F;dsimp only;simp only[dJ,jK]at h;split at h;rename_i g;cases h;have e1:bK σ (x.toList.map (ev T)) (x.toList.map a.eval):=jV _ (λo hx=>F o (by simp[Op.operands];exact .inl J));have e2:bK σ (y.toList.map (ev T)) (y.toList.map a.eval):=jV _ (λo hx=>F o (by simp[Op.operands];exact .inr J));refine eM.same hs (s:=Instr.makeFunc (.func g) (x.map a.eval) (y.map a.eval)) rfl ?_;refine .func g _ _ _ _ co co (λj u u' p q=>e1.2 j u u' J J) (λj u u' p q=>e2.2 j u u' J J);cases h|makeMap t r=>rw[ho]at h;dsimp only;simp only[dJ,uf]at h;split at h;cases h;exact(DE hs t).op;cases h|makeSlice t l c=>rw[ho]at h F;dsimp only;exact(Ar hE hs (F l ft) (F c ft) h).op|slice t x lo hi mx=>rw[ho]at h F;dsimp only;simp only[dJ,Fx]at h;split at h;rename_i z H;cases h;obtain⟨v',q1,q2⟩:=aaN (w:=w) hE hs H (F x ft) (Dl.map (a:=a) (λo he=>F o (by simp[Op.operands,he]))) (Dl.map (a:=a) (λo he=>F o (by simp[Op.operands,he]))) (Dl.map (a:=a) (λo he=>F o (by simp[Op.operands,he])));exact eM.same hs q1 q2;cases h|fieldAddr s x f=>rw[ho]at h F;dsimp only;simp only[dJ,jR]at h;split at h;rename_i z H;cases h;obtain⟨v',q1,q2⟩:=rH (w:=w) hE H (F x ft);exact eM.same hs q1 q2;cases h|field t x f=>rw[ho]at h F;dsimp only;simp only[dJ,uh]at h;split at h;rename_i z H;cases h;obtain⟨v',q1,q2⟩:=zV (w:=w) hE H (F x ft);exact eM.same hs q1 q2;cases h|indexAddr t x y=>rw[ho]at h F;dsimp only;simp only[dJ,jQ]at h;split at h;rename_i z H;cases h;obtain⟨v',q1,q2⟩:=rF (w:=w) hE H (F x ft) (F y ft);exact eM.same hs q1 q2;cases h|index t x y=>rw[ho]at h F;dsimp only;simp only[dJ,ug]at h;split at h;rename_i z H;cases h;obtain⟨v',q1,q2⟩:=zR (w:=w) hE H (F x ft) (F y ft);exact eM.same hs q1 q2;cases h|lookup t x y ok=>rw[ho]at h F;dsimp only;simp only[dJ,Cf]at h;split at h;rename_i z H;cases h;obtain⟨v',q1,q2⟩:=FI hE hs H (F x ft) (F y ft);exact eM.same hs q1 q2;cases h|mapUpdate t x k y=>rw[ho]at h F;dsimp only;simp only[dJ,ib]at h;split at h;rename_i m2 H;cases h;obtain⟨w',q1,q2⟩:=rE hE hs H (F x ft) (F k ft) (F y ft);simp only[UD,q1,Rr,RB];exact .skip q2;cases h|insert t x k y=>rw[ho]at h F;dsimp only;simp only[dJ,ib]at h;split at h;rename_i m2 H;cases h;obtain⟨w',q1,q2⟩:=rE hE hs H (F x ft) (F k ft) (F y ft);simp only[UD,q1,Rr,RB];exact .skip q2;cases h|extract x i=>rw[ho]at h F;dsimp only;simp only[dJ,lE]at h;split at h;rename_i vs hx;split at h;rename_i z H;cases h;have h1:=F x ft;rw[hx]at h1;have⟨g0,he,hl⟩:=h1.yz;have⟨u',hu,hr⟩:=hl.get H;refine eM.same hs (s:=Instr.extract (a.eval x) i) (v':=u') ?_ hr;rw[he];have:g0[i]?=some u':=J;simp[Instr.extract,this];cases h;cases h|call c=>rw[ho]at h F;dsimp only;exact JU hE cE hs h F|mapEntry t x k=>rw[ho]at h F;dsimp only;simp only[dJ,vE]at h;obtain⟨w',v',q1,q2,q3⟩:=Cn hE hs h (F x ft) (F k ft);exact DW.op ⟨_,w',v',q1,q2,q3⟩|entryStore t x s y=>rw[ho]at h F;dsimp only;simp only[dJ,mZ]at h;split at h;rename_i m2 H;cases h;obtain⟨w',q1,q2⟩:=acX (t:=t) hs H (F x ft) (F s ft) (F y ft);simp only[UD,q1,Rr,RB];exact .skip q2;cases h|typeAssert x xt t ok=>rw[ho]at h F;dsimp only;simp only[dJ,sK]at h;have h1:=F x ft;split at h;(·rename_i hx;rw[hx]at h1;rw[h1.bJ rfl];cases ok with|false=>cases h|true=>simp only[gc]at h;split at h;(·rename_i z H;cases h;unfold gX at H;cases b0:E.ty.get t with|none=>rw[b0]at H;cases H|some ti=>rw[b0]at H;simp only[RM]at H;have⟨i,u,f⟩:=hE.oI b0;have h0:=bw.gI (σ:=σ) (hE.flat b0 H);have d0:=eC (w:=w) f.info (by rw[<-f.zero];exact H);refine eM.same hs (s:=Instr.typeAssert .nilIface xt t true) (v':=.tuple #[z,P6]) ?_ (bK.cons h0 (bK.cons (.flat _ rfl) bK.nil)).tuple;unfold Instr.typeAssert;rw[UD,NF f.gU,Rr];(split <;>first|(rename_i h3;cases h3;done)|skip);all_goals first|(simp only[R3,UD,d0,Rr,RB];done)|(exfalso;simp_all;done));cases h);rename_i t' cs hx;(cases hc:(ok && (Nat.beq t' t && cs.toList.isEmpty))with|false=>rw[hc]at h;cases h|true=>rw[hc,gc]at h;simp only[G4,t8]at hc;obtain⟨rfl,ht,j0⟩:=hc;obtain rfl:=L6 ht;have e0:cs= #[]:=I5 dg;subst e0;rw[hx]at h1;rw[h1.bJ rfl];split at h;rename_i ti b0;split at h;rename_i fs i0;cases h;have⟨i,u,f⟩:=hE.oI b0;obtain⟨gs,rfl,_⟩:=iX (f.d.symm.trans i0);refine eM.same hs (s:=Instr.typeAssert (.iface t' (.agg #[])) xt t' true) (v':=.tuple #[.agg #[],VT]) ?_ (bK.cons (bw.mn rfl) (bK.cons (.flat _ rfl) bK.nil)).tuple;unfold Instr.typeAssert;rw[UD,NF f.gU,Rr];simp_all;cases h;cases h);cases h|_=>rw[ho]at h;simp[dJ]at h
