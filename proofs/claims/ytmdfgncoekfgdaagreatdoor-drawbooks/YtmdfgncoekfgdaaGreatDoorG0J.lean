/- THE ABSTRACT RUN 'D': a computable run of the model's code over a store of its own, in which every choice that the model draws (the order inside a statement, th -/
import Derived.RangeFuncIn
import Derived.OrdersIn
import Derived.RangeFuncLeaves
import Derived.WalkKit
namespace Go.D
open Go
inductive Tr (α:Type) where
 |e
 |n (v:Option α) (l r:Tr α)
 deriving Inhabited
noncomputable def Tr.get{α:Type}(t:Tr α):Nat->Option α:=
 Tr.rec (motive:=fun _=>Nat->Option α) (fun _=>none)
  (fun v _ _ gl gr i=>bif Nat.beq i 0 then v else bif Nat.beq ((i-1)%2) 0 then gl ((i-1)/2)else gr ((i-1)/2)) t
theorem Tr.tC{α:Type}(i:Nat):(Tr.e:Tr α).get i=none:=rfl
theorem Tr.kD{α:Type}(v:Option α)(l r:Tr α):(Tr.n v l r).get 0=v:=rfl
theorem Tr.fZ{α:Type}(v:Option α)(l r:Tr α)(i:Nat):(Tr.n v l r).get (i+1)=bif Nat.beq (i%2) 0 then l.get (i/2)else r.get (i/2):=rfl
def Tr.single{α:Type}(x:α):Nat->Nat->Tr α
 |0,_=> .n (some x) .e .e
 |_+1,0=> .n (some x) .e .e
 |f+1,i+1=>bif Nat.beq (i%2) 0 then .n none (single x f (i/2)) .e else .n none .e (single x f (i/2))
noncomputable def Tr.set{α:Type}(t:Tr α):Nat->α->Tr α:=
 Tr.rec (motive:=fun _=>Nat->α->Tr α) (fun i x=>Tr.single x i i)
  (fun v l r sl sr i x=>bif Nat.beq i 0 then .n (some x) l r else bif Nat.beq ((i-1)%2) 0 then .n v (sl ((i-1)/2) x) r else .n v l (sr ((i-1)/2) x)) t
theorem Tr.yF{α:Type}(i:Nat)(x:α):(Tr.e:Tr α).set i x=Tr.single x i i:=rfl
theorem Tr.lJ{α:Type}(v:Option α)(l r:Tr α)(x:α):(Tr.n v l r).set 0 x=.n (some x) l r:=rfl
theorem Tr.fV{α:Type}(v:Option α)(l r:Tr α)(i:Nat)(x:α):(Tr.n v l r).set (i+1) x=bif Nat.beq (i%2) 0 then .n v (l.set (i/2) x) r else .n v l (r.set (i/2) x):=rfl
structure Fd where
 ty:Nat
 off:Nat
 size:Nat
 blank:Bool
inductive Kd where
 |b |i |s
inductive TD where
 |bool
 |int (k:IntKind)
 |str
 |ptr (e:Nat)
 |slice (e:Nat)
 |array (n e:Nat)
 |map (k e:Nat)
 |struct (fs:List Fd)
 |func
 |iface (empty:Bool)
 |other
structure TI where
 d:TD
 size:Nat
 bytes:Nat
 es:Nat
 zero:Option Value
 cmp:Option (List Kd)
structure OZ where
 fn:Func
 pre:List Code
 id:Nat
 mf:Oper
 de:Oper
 post:Code
structure LL where
 fn:Func
 id:Nat
 ops:Array Oper
 rest:Code
def jv:List Code->Code->Code
 |[],c=>c
 |a::as,c=> .seq a (jv as c)
structure Env where
 ty:Tr TI
 fn:Tr Func
 G:Nat
 df:Tr OZ
 cl:Tr LL
def TD.agg:TD->Bool
 |.struct _ |.array _ _=>true
 |_=>false
def fM(P:Program):TypeDesc->TD
 |.bool=> .bool
 |.int k=> .int k
 |.string=> .str
 |.pointer e=> .ptr e
 |.slice e=> .slice e
 |.array n e=> .array n e
 |.map k e=> .map k e
 |.struct fs=> .struct (fs.toList.map fun f=>⟨f.type,f.offset,((P.info? f.type).map (·.size)).getD 0,f.name== "_" ||(P.info? f.type).isNone⟩)
 |.func _ _ _=> .func
 |.interface ms=> .iface ms.isEmpty
 |_=> .other
def kinds(g:TypeId->Option (List Kd)):List Field->Nat->Option (List Kd)
 |[],_=>some []
 |f::fs,off=>if f.name= "_" then none else if f.offset=off then
   match g f.type with
   |some ks=>match kinds g fs (off+ks.length)with
    |some r=>some (ks++r)
    |none=>none
   |none=>none
  else none
def lu(ks:List Kd):Nat->List Kd
 |0=> []
 |n+1=>ks++lu ks n
def sized(P:Program)(t:TypeId)(r:Option (List Kd)):Option (List Kd):=
 match r,P.info? t with
 |some ks,some i=>if ks.length=i.size then some ks else none
 |_,_=>none
def jG(P:Program):Nat->TypeId->Option (List Kd)
 |0,_=>none
 |d+1,t=>sized P t (match P.underlying t with
  |some .bool=>some [.b]
  |some (.int _)=>some [.i]
  |some .string=>some [.s]
  |some (.struct fs)=>if P.stoodInHeld t then none else kinds (jG P d) fs.toList 0
  |some (.array n e)=>match jG P d e with
   |some ks=>if n*ks.length<=64 then some (lu ks n)else none
   |none=>none
  |_=>none)
def tK(P:Program):TypeDesc->Nat
 |.slice e |.array _ e=>((P.info? e).map (·.size)).getD 0
 |_=>0
def CS(P:Program)(t:TypeId):TypeDesc->Option (List Kd)
 |.struct _ |.array _ _=>if P.eqGuardType P.depth t then none else jG P 12 t
 |_=>none
def M8(P:Program)(t:TypeId):Option TI:=do
 let i<-P.info? t
 let u<-P.underlying t
 some {d:=fM P u,size:=i.size,bytes:=i.bytes,es:=tK P u,zero:=i.zero,cmp:=CS P t u}
inductive Ex where
 |normal
 |exit (id:Nat)
 |ret
 deriving DecidableEq,Inhabited
structure uh where
 T:Tr Value
 ps:Array Tmp
 assign:Code
 body:Code
 st:LoopState
 oN:Option Ex
 G:Nat
 deriving Inhabited
inductive Ob where
 |dead
 |cells (c:List Value) (e:TypeId) (g:Option Nat)
 |map (es:List MapEntry) (clock:Nat)
 |loop (r:uh)
 |ro (c:List Value)
 deriving Inhabited
structure M where
 st:Tr Ob
 n:Nat
 low:Nat
 deriving Inhabited
noncomputable def M.get(m:M)(b:Nat):Ob:=bif Nat.blt b m.n then(m.st.get b).getD .dead else .dead
noncomputable def M.push(m:M)(o:Ob):M:={m with st:=m.st.set m.n o,n:=m.n+1}
noncomputable def M.set(m:M)(b:Nat)(o:Ob):M:={m with st:=m.st.set b o,low:=min m.low b}
def bL:Value->Bool
 |.bool _ |.int _ _ |.float _ _ |.complex _ _ _ |.string _ |.nilFunc |.nilIface |.pointer none |.map none |.chan none |.slice none 0 0=>true
 |.func (.func _) a b=>a.toList.isEmpty && b.toList.isEmpty
 |.iface _ (.agg cs)=>cs.toList.isEmpty
 |_=>false
def gg:Value->Bool
 |.agg cs=>cs.toList.all bL
 |v=>bL v
def bY:Value->Bool
 |.tuple vs=>vs.toList.all gg
 |v=>gg v
def Tr.mz{α:Type}:Tr α->Nat->Nat->List (Nat×α)
 |.e,_,_=> []
 |.n v l r,a,b=>(match v with |some x=> [(b,x)] |none=> [])++(l.mz (2*a) (a+b)++r.mz (2*a) (2*a+b))
def nT(n G:Nat):Operand->Bool
 |.tmp t=>Nat.blt t n
 |.const v=>gg v
 |.global g=>Nat.blt g G
 |.func _=>true
def fK(n G:Nat)(o:Oper):Bool:=o.op.operands.toList.all (nT n G) && (match o.dst with |some d=>Nat.blt d n |none=>true)
def hZ(ops:Array Oper)(o:Oper):List Tmp:=
 o.dst.toList++(o.op.operands.toList.filterMap (fun |.tmp t=>some t |_=>none)++(match o.guard with |some (j,_)=>((ops[j]?).bind (·.dst)).toList |none=> []))
def sS(ops:Array Oper):Bool:=
 let b:=Region.before ops
 (ops.toList.zipIdx.all fun(o,j)=>o.after.toList.all (fun e=> !Region.binds .any e ||Nat.blt e.on j) &&
  ops.toList.zipIdx.all fun(o',i)=> !(Nat.blt i j) ||(b.getD j 0).testBit i ||
   ((match o.dst with |some d=> !(hZ ops o').contains d |none=>true) && (match o'.dst with |some d=> !(hZ ops o).contains d |none=>true)))
def ke:Code->Bool
 |.seq a b=>ke a && ke b
 |.cond _ x y=>ke x && ke y
 |.block _ c |.loop c |.scope c=>ke c
 |.rangeFunc ..=>false
 |_=>true
def cX(n G:Nat):Code->Bool
 |.region _ ops d=>ops.toList.all (fK n G) && (!d ||sS ops)
 |.seq a b=>cX n G a && cX n G b
 |.cond c x y=>nT n G c && (cX n G x && cX n G y)
 |.block _ c |.loop c |.scope c=>cX n G c
 |.rangeFunc f ps a b=>nT n G f && (ps.toList.all (Nat.blt · n) && (cX n G a && cX n G b))
 |_=>true
def iq(G:Nat)(fn:Func):Bool:=
 (match fn.body with |some c=>cX fn.ntmps G c |none=>true) && (fn.name != "runtime.NumGoroutine" &&
 fn.results.toList.all fun |.tmp t=>Nat.blt t fn.ntmps |.cell a _=>Nat.blt a fn.ntmps)
noncomputable def Env.Ah(E:Env):Bool:=
 ((E.ty.mz 1 0).all fun p=>(match p.2.zero with |some z=>bY z |none=>true) &&
  (match p.2.d with |.struct fs=>fs.all (fun f=>match E.ty.get f.ty with |some fi=>fi.size==f.size |none=>false) |_=>true)) &&
 ((E.fn.mz 1 0).all (fun p=>iq E.G p.2) && ((E.df.mz 1 0).all (fun p=>iq E.G p.2.fn) && (E.cl.mz 1 0).all fun p=>iq E.G p.2.fn))
def uk:Nat:=77
structure Env.OK(E:Env)(P:Program):Prop where
 st:E.fn.get uk=none/\E.df.get uk=none
 ty:∀t ti,E.ty.get t=some ti->M8 P t=some ti
 fn:∀f fn,E.fn.get f=some fn->P.funcs[f]?=some fn
 G:E.G=P.globals.size
 df:∀f d,E.df.get f=some d->P.funcs[f]?=some d.fn/\d.fn.body=some (jv d.pre (.seq (.region d.id #[d.mf,d.de] false) d.post))
 cl:∀f d,E.cl.get f=some d->P.funcs[f]?=some d.fn/\d.fn.body=some (.seq (.region d.id d.ops false) d.rest)
 Ah:E.Ah=true
 mixed:P.follows .mixedOrders=true
def one:Value->Bool
 |.agg _ |.tuple _=>false
 |_=>true
def cells:Value->List Value
 |.agg cs=>cs.toList
 |v=> [v]
noncomputable section
variable (E:Env)
def ig(t:TypeId):Option Value:=(E.ty.get t).bind (·.zero)
def cellAt(m:M)(a:Addr):Option Value:=
 match m.get a.block with
 |.cells c _ _=>if a.spot.isNone then c[a.off]? else none
 |.ro c=>if a.spot.isNone then(match c[a.off]? with |some v=>bif one v then some v else none |none=>none)else none
 |_=>none
def loadCells(m:M)(a:Addr)(n:Nat):Option (List Value):=
 match m.get a.block with
 |.cells c _ _=>bif a.spot.isNone && Nat.ble (a.off+n) c.length then some ((c.drop a.off).take n)else none
 |.ro c=>bif a.spot.isNone && Nat.ble (a.off+n) c.length && ((c.drop a.off).take n).all one then some ((c.drop a.off).take n)else none
 |_=>none
def storeCells(m:M)(a:Addr)(vs:List Value):Option M:=
 match m.get a.block with
 |.cells c e g=>
  bif a.spot.isNone && Nat.ble (a.off+vs.length) c.length && vs.all one then
   some (m.set a.block (.cells (c.take a.off++(vs++c.drop (a.off+vs.length))) e g))
  else none
 |_=>none
def loadVar(m:M)(t:TypeId)(a:Addr):Option Value:=
 match E.ty.get t with
 |some ti=>bif ti.d.agg then(loadCells m a ti.size).map (fun cs=> .agg cs.toArray)else cellAt m a
 |none=>none
def storeVar(m:M)(t:TypeId)(a:Addr)(v:Value):Option M:=
 match E.ty.get t with
 |some ti=>bif Nat.beq (cells v).length ti.size then storeCells m a (cells v)else none
 |none=>none
def newVar(m:M)(t:TypeId)(v:Value):Value×M:=(.pointer (some ⟨m.n,0,none⟩),m.push (.cells (cells v) t none))
def part(t:TypeId)(cs:List Value)(off:Nat):Option Value:=
 match E.ty.get t with
 |some ti=>bif ti.d.agg then(bif Nat.ble (off+ti.size) cs.length then some (.agg ((cs.drop off).take ti.size).toArray)else none)else cs[off]?
 |none=>none
def CO:Kd->Value->Value->Option Bool
 |.b,.bool a,.bool b=>some (a==b)
 |.i,.int k a,.int k' b=>if k=k' then some (a==b)else none
 |.s,.string a,.string b=>some (a==b)
 |_,_,_=>none
def bU:List Kd->List Value->List Value->Option Bool
 |[],[],[]=>some true
 |k::ks,a::x,b::y=>
  match CO k a b,bU ks x y with
  |some c,some r=>some (c && r)
  |_,_=>none
 |_,_,_=>none
def eq?(t:TypeId)(x y:Value):Option Bool:=
 match E.ty.get t with
 |none=>none
 |some ti=>
  match ti.d,x,y with
  |.bool,.bool a,.bool b=>some (a==b)
  |.int _,.int k a,.int k' b=>if k=k' then some (a==b)else none
  |.str,.string a,.string b=>some (a==b)
  |.struct _,.agg xs,.agg ys=>match ti.cmp with |some ks=>bU ks xs.toList ys.toList |none=>none
  |.array _ _,.agg xs,.agg ys=>match ti.cmp with |some ks=>bU ks xs.toList ys.toList |none=>none
  |.slice _,.slice none _ _,.slice b _ _=>some b.isNone
  |.slice _,.slice (some _) _ _,.slice none _ _=>some false
  |.map _ _,.map none,.map b=>some b.isNone
  |.map _ _,.map (some _),.map none=>some false
  |.func,.nilFunc,.nilFunc=>some true
  |.func,.nilFunc,.func _ _ _=>some false
  |.func,.func _ _ _,.nilFunc=>some false
  |.ptr _,.pointer none,.pointer b=>some b.isNone
  |.ptr _,.pointer (some _),.pointer none=>some false
  |.iface true,.nilIface,.nilIface=>some true
  |_,_,_=>none
def gn(op:BinOp)(k:IntKind)(a b:Int):Option Value:=
 match op with
 |.add=>some (.int k (k.wrap (a+b)))
 |.sub=>some (.int k (k.wrap (a-b)))
 |.mul=>some (.int k (k.wrap (a*b)))
 |.quo=>if b=0 then none else some (.int k (k.wrap (a.tdiv b)))
 |.rem=>if b=0 then none else some (.int k (a.tmod b))
 |.and=>some (.int k (k.wrap (BitVec.ofInt k.bits a &&& BitVec.ofInt k.bits b).toNat))
 |.or=>some (.int k (k.wrap (BitVec.ofInt k.bits a |||BitVec.ofInt k.bits b).toNat))
 |.xor=>some (.int k (k.wrap (BitVec.ofInt k.bits a ^^^ BitVec.ofInt k.bits b).toNat))
 |.andNot=>some (.int k (k.wrap (BitVec.ofInt k.bits a &&& ~~~(BitVec.ofInt k.bits b)).toNat))
 |.eql=>some (.bool (a==b))
 |.neq=>some (.bool (a !=b))
 |.lss=>some (.bool (a < b))
 |.leq=>some (.bool (a<=b))
 |.gtr=>some (.bool (a >b))
 |.geq=>some (.bool (a>=b))
 |_=>none
def Bz(op:BinOp)(a b:ByteArray):Option Value:=
 match op with
 |.add=>if((a.size+b.size:Nat):Int) >IntKind.i64.max then none else some (.string (a++b))
 |.eql=>some (.bool (a.toList==b.toList))
 |.neq=>some (.bool !(a.toList==b.toList))
 |.lss=>some (.bool (Op.bytesLess a.toList b.toList))
 |_=>none
def an(op:BinOp)(t:TypeId)(x y:Value):Option Value:=
 match op,x,y with
 |.shl,.int k a,.int _ b=>if b < 0 then none else some (.int k (k.wrap (a*2 ^ (min b.toNat k.bits))))
 |.shr,.int k a,.int _ b=>if b < 0 then none else some (.int k (a.fdiv (2 ^ (min b.toNat k.bits))))
 |op,.int k a,.int k' b=>if k=k' then gn op k a b else none
 |op,.string a,.string b=>Bz op a b
 |.eql,x,y=>(eq? E t x y).map .bool
 |.neq,x,y=>(eq? E t x y).map (fun b=> .bool !b)
 |_,_,_=>none
def iO(op:UnOp)(x:Value):Option Value:=
 match op,x with
 |.neg,.int k n=>some (.int k (k.wrap (0-n)))
 |.not,.bool b=>some (.bool !b)
 |_,_=>none
def Jr(src dst:TypeId)(x:Value):Option Value:=
 match E.ty.get src,E.ty.get dst,x with
 |some _,some ti,.int _ n=>match ti.d with |.int k=>some (.int k (k.wrap n)) |_=>none
 |some _,some ti,.string s=>match ti.d with |.str=>some (.string s) |_=>none
 |_,_,_=>none
def fill(place:Nat->Option (Nat×Nat))(cs:List Value):List (Nat×Value)->Option (List Value)
 |[]=>some cs
 |(i,v)::rest=>
  match place i with
  |none=>none
  |some (off,size)=>
   bif Nat.beq (cells v).length size && Nat.ble (off+size) cs.length then fill place (cs.take off++(cells v++cs.drop (off+size))) rest else none
def aW(t:TypeId)(parts:List (Nat×Value)):Option Value:=
 match E.ty.get t with
 |none=>none
 |some ti=>
  match ti.zero,ti.d with
  |some z,.struct fs=>(fill (fun i=>(fs[i]?).map fun f=>(f.off,f.size)) (cells z) parts).map fun cs=> .agg cs.toArray
  |some z,.array _ _=>bif Nat.beq ti.es 0 then none else(fill (fun i=>some (i*ti.es,ti.es)) (cells z) parts).map fun cs=> .agg cs.toArray
  |_,_=>none
def fO(z:List Value):Nat->List Value
 |0=> []
 |n+1=>z++fO z n
def aE(m:M)(t:TypeId)(len:Nat)(parts:List (Nat×Value)):Option (Value×M):=
 match E.ty.get t with
 |none=>none
 |some ti=>
  match ti.d with
  |.slice e=>
   match ig E e with
   |none=>none
   |some z=>
    bif Nat.beq (cells z).length ti.es && Nat.ble (len*ti.es) 1048576 then
     (fill (fun i=>some (i*ti.es,ti.es)) (fO (cells z) len) parts).map fun cs=>(.slice (some ⟨m.n,0,none⟩) len len,m.push (.cells cs e none))
    else none
  |_=>none
def dA(m:M)(t:TypeId)(l c:Value):Option (Value×M):=
 match E.ty.get t with
 |none=>none
 |some ti=>
  match ti.d,l,c with
  |.slice e,.int _ l,.int _ c=>
   match E.ty.get e with
   |none=>none
   |some ei=>
    match ei.zero with
    |none=>none
    |some z=>
     if 0<=l/\l<=c/\c<=1048576/\ei.bytes<=65536/\(cells z).length=ei.size then
      some (.slice (some ⟨m.n,0,none⟩) l.toNat c.toNat,m.push (.cells (fO (cells z) c.toNat) e none))
     else none
  |_,_,_=>none
def ae(s:TypeId)(x:Value)(i:Nat):Option Value:=
 match E.ty.get s,x with
 |some ti,.pointer (some a)=>
  match ti.d with
  |.struct fs=>match fs[i]? with
   |some f=>bif Nat.beq f.size 0 then none else some (.pointer (some (a.add f.off)))
   |none=>none
  |_=>none
 |_,_=>none
def wN(t:TypeId)(x:Value)(i:Nat):Option Value:=
 match E.ty.get t,x with
 |some ti,.agg cs=>
  match ti.d with
  |.struct fs=>match fs[i]? with
   |some f=>part E f.ty cs.toList f.off
   |none=>none
  |_=>none
 |_,_=>none
def ai(t:TypeId)(x ix:Value):Option Value:=
 match E.ty.get t with
 |none=>none
 |some ti=>
  match ti.d,x,ix with
  |.slice _,.slice (some a) n _,.int _ i=>if 0<=i/\i < n/\0 < ti.es then some (.pointer (some (a.add (i.toNat*ti.es))))else none
  |.array n _,.pointer (some a),.int _ i=>if 0<=i/\i < n/\0 < ti.es then some (.pointer (some (a.add (i.toNat*ti.es))))else none
  |_,_,_=>none
def index?(t:TypeId)(x ix:Value):Option Value:=
 match E.ty.get t with
 |none=>none
 |some ti=>
  match ti.d,x,ix with
  |.array n e,.agg cs,.int _ i=>if 0<=i/\i < n then part E e cs.toList (i.toNat*ti.es)else none
  |.str,.string s,.int _ i=>if 0<=i then(s[i.toNat]?).map (fun b=> .int .u8 b.toNat)else none
  |_,_,_=>none
def oo(x:Value)(y:Nat):Option Nat:=
 match x with
 |.int _ i=>if 0<=i/\i<=y then some i.toNat else none
 |_=>none
def kb(len cap:Nat)(lo hi mx:Option Value):Option (Nat×Nat×Nat):=
 match(match mx with |some v=>oo v cap |none=>some cap)with
 |none=>none
 |some m=>
  match(match hi,mx with |some v,_=>oo v m |none,none=>some len |none,some _=>none)with
  |none=>none
  |some h=>
   match(match lo with |some v=>oo v h |none=>some 0)with
   |none=>none
   |some l=>some (l,h,m)
def lI(m:M)(a:Addr):Bool:=match m.get a.block with |.cells _ _ none=>false |_=>true
def slice?(m:M)(t:TypeId)(x:Value)(lo hi mx:Option Value):Option Value:=
 match E.ty.get t with
 |none=>none
 |some ti=>
  match ti.d,x with
  |.str,.string s=>
   match mx,kb s.size s.size lo hi none with
   |none,some (l,h,_)=>some (.string (s.extract l h))
   |_,_=>none
  |.slice _,.slice none 0 0=>
   match kb 0 0 lo hi mx with
   |some _=>bif Nat.beq ti.es 0 then none else some (.slice none 0 0)
   |none=>none
  |.slice _,.slice (some a) n c=>
   match kb n c lo hi mx,m.get a.block with
   |some (l,h,k),.cells cs _ g=>
    bif Nat.beq ti.es 0 || !(Nat.ble n c)then none
    else match g with
     |none=>some (.slice (some (bif Nat.beq k l then a else a.add (l*ti.es))) (h-l) (k-l))
     |some k0=>
      bif Nat.beq k0 ti.es then
       some (.slice (some (bif Nat.beq k l && !(mx.isNone && Nat.beq (a.off+c*ti.es) cs.length)then a else a.add (l*ti.es))) (h-l) (k-l))
      else none
   |_,_=>none
  |.array n _,.pointer (some a)=>
   match kb n n lo hi mx with
   |some (l,h,k)=>bif lI m a ||Nat.beq ti.es 0 then none else some (.slice (some (bif Nat.beq k l then a else a.add (l*ti.es))) (h-l) (k-l))
   |none=>none
  |_,_=>none
def nV(m:M)(t:TypeId)(x:Value):Option Value:=
 match E.ty.get t with
 |none=>none
 |some ti=>
  match ti.d,x with
  |.str,.string s=>some (.int .i64 s.size)
  |.array n _,_=>some (.int .i64 n)
  |.slice _,.slice _ n _=>some (.int .i64 n)
  |.map _ _,.map none=>some (.int .i64 0)
  |.map _ _,.map (some r)=>match m.get r with |.map es _=>some (.int .i64 es.length) |_=>none
  |_,_=>none
def zE(f:Int->Int->Int)(k:IntKind)(x:Int):List Value->Option Value
 |[]=>some (.int k x)
 |.int _ y::rest=>zE f k (f x y) rest
 |_=>none
def cV(f:Int->Int->Int):List Value->Option Value
 |.int k x::rest=>zE f k x rest
 |_=>none
def first?(m:M)(s n:Nat)(x:Value):Option (List Value):=
 match x with
 |.slice (some a) _ _=>bif Nat.beq n 0 then some []else loadCells m a (n*s)
 |.slice none _ _=>some []
 |.string b=>some ((b.extract 0 n).data.toList.map fun b=> .int .u8 b.toNat)
 |_=>none
def kX:Value->Option Nat
 |.slice _ n _=>some n
 |.string s=>some s.size
 |_=>none
def jA(m:M)(e k:Nat)(base:Option Addr)(sl sc need:Nat)(news:List Value):Option (Value×M):=
 match base with
 |none=>bif Nat.beq sl 0 && Nat.beq sc 0 then some (.slice (some ⟨m.n,0,none⟩) need need,m.push (.cells news e (some k)))else none
 |some a=>
  match m.get a.block,(bif Nat.beq sl 0 then some []else loadCells m a (sl*k))with
  |.cells c te g,some eO=>
   bif g.isNone ||(g==some k && Nat.blt (a.off+sc*k) c.length)then
    some (.slice (some ⟨m.n,0,none⟩) need need,m.push (.cells (eO++news) e (some k)))
   else bif g==some k && Nat.beq a.off 0 && a.spot.isNone && Nat.beq (sl*k) c.length && Nat.beq sc sl && Nat.beq te e then
    some (.slice (some ⟨m.n,0,none⟩) need need,(m.set a.block .dead).push (.cells (eO++news) e (some k)))
   else none
  |_,_=>none
def fT(o:Option Value)(n:Nat):Bool:=match o with |some z=>Nat.beq (cells z).length n |none=>false
def dD(m:M)(t u:TypeId)(s x:Value):Option (Value×M):=
 match E.ty.get t,E.ty.get u,s,kX x with
 |some ti,some ui,.slice base sl sc,some n=>
  match ti.d,ui.d with
  |_,.int _=>none
  |.slice e,_=>
   match E.ty.get e,first? m ti.es n x with
   |some ei,some news=>
    bif Nat.beq ti.es 0 ||Nat.blt 65536 ei.bytes || !news.all one ||Nat.blt 268435456 (sl+n) || !Nat.beq news.length (n*ti.es) || !fT ei.zero ti.es then none
    else bif Nat.ble (sl+n) sc then
     match base with
     |some a=>(bif Nat.beq n 0 then some m else storeCells m (a.add (sl*ti.es)) news).map fun m=>(.slice (some a) (sl+n) sc,m)
     |none=>bif Nat.beq n 0 then some (.slice none sl sc,m)else none
    else jA m e ti.es base sl sc (sl+n) news
   |_,_=>none
  |_,_=>none
 |_,_,_,_=>none
def tT(m:M)(t:TypeId)(d x:Value):Option (Value×M):=
 match E.ty.get t,d,kX x with
 |some ti,.slice base dl _,some xl=>
  match ti.d,first? m ti.es (min xl dl) x with
  |.slice _,some cs=>
   bif Nat.beq ti.es 0 then none else
   match base with
   |some a=>(bif Nat.beq (min xl dl) 0 then some m else storeCells m a cs).map fun m=>(.int .i64 (min xl dl:Nat),m)
   |none=>some (.int .i64 (min xl dl:Nat),m)
  |_,_=>none
 |_,_,_=>none
def oh(m:M)(t:TypeId)(x:Value):Option (Value×M):=
 match E.ty.get t,x with
 |some _,.slice none _ _=>some (.tuple #[],m)
 |some ti,.slice (some a) n _=>
  bif Nat.beq n 0 then some (.tuple #[],m)else
  match ti.d with
  |.slice e=>match ig E e with
   |some z=>(storeCells m a (fO (cells z) n)).map fun m=>(.tuple #[],m)
   |none=>none
  |_=>none
 |_,_=>none
def scalar(t:TypeId):Bool:=match E.ty.get t with |some fi=>(match fi.d with |.bool |.int _ |.str=>true |_=>false) |none=>false
def keyed(kt:TypeId)(k:Value):Bool:=
 match E.ty.get kt with
 |some ti=>match ti.d,k with
  |.bool,.bool _ |.int _,.int _ _ |.str,.string _=>true
  |.struct fs,.agg cs=>ti.cmp.isSome && cs.toList.all bL && fs.all (fun f=> !f.blank && Nat.blt f.off cs.toList.length && scalar E f.ty)
  |_,_=>false
 |none=>false
def findKey(kt:TypeId)(k:Value):List MapEntry->Nat->Option (Option (Nat×Value))
 |[],_=>some none
 |e::es,i=>
  match eq? E kt k e.key with
  |some true=>some (some (i,e.val))
  |some false=>findKey kt k es (i+1)
  |none=>none
def eK(m:M)(t:TypeId)(x k:Value)(ok:Bool):Option Value:=
 match E.ty.get t with
 |none=>none
 |some ti=>
  match ti.d with
  |.map kt et=>
   match(match x with |.map none=>some [] |.map (some r)=>(match m.get r with |.map es _=>some es |_=>none) |_=>none)with
   |none=>none
   |some es=>
    bif keyed E kt k then
     match findKey E kt k es 0 with
     |some (some (_,v))=>some (bif ok then .tuple #[v,.bool true]else v)
     |some none=>(ig E et).map fun z=>bif ok then .tuple #[z,.bool false]else z
     |none=>none
    else none
  |_=>none
def eh(m:M)(t:TypeId)(x k v:Value):Option M:=
 match E.ty.get t,x with
 |some ti,.map (some r)=>
  match ti.d,m.get r with
  |.map kt _,.map es clock=>
   bif keyed E kt k then
    match findKey E kt k es 0 with
    |some (some (i,_))=>some (m.set r (.map (es.modify i fun e=>{e with key:=k,val:=v}) clock))
    |some none=>some (m.set r (.map (es++ [{key:=k,val:=v,born:=clock}]) (clock+1)))
    |none=>none
   else none
  |_,_=>none
 |_,_=>none
def dw(m:M)(t:TypeId)(x k:Value):Option (Value×M):=
 match E.ty.get t,x with
 |some ti,.map (some r)=>
  match ti.d,m.get r with
  |.map kt et,.map es clock=>
   bif keyed E kt k then
    match findKey E kt k es 0 with
    |some (some (i,v))=>some (.tuple #[v,.int .i64 (((es[i]?).map (·.born)).getD 0)],m.set r (.map (es.modify i fun e=>{e with key:=k}) clock))
    |some none=>(ig E et).map fun z=>(.tuple #[z,.int .i64 clock],m.set r (.map (es++ [{key:=k,val:=z,born:=clock}]) (clock+1)))
    |none=>none
   else none
  |_,_=>none
 |_,_=>none
def fB(b:Int):List MapEntry->Nat->Option Nat
 |[],_=>none
 |e::es,i=>bif decide ((e.born:Int)=b)then some i else fB b es (i+1)
def cz(m:M)(x s v:Value):Option M:=
 match x,s with
 |.map (some r),.int _ b=>
  match m.get r with
  |.map es clock=>match fB b es 0 with
   |some i=>some (m.set r (.map (es.modify i fun e=>{e with val:=v}) clock))
   |none=>none
  |_=>none
 |_,_=>none
def bytesOf:List Value->Option (List Int)
 |[]=>some []
 |.int .u8 n::r=>match bytesOf r with |some ns=>some (n::ns) |none=>none
 |_=>none
def Bo(m:M)(src dst:TypeId)(x:Value):Option Value:=
 match E.ty.get src,E.ty.get dst with
 |some ti,some tj=>
  match ti.d,tj.d,x with
  |.slice e,.str,.slice b n _=>
   match E.ty.get e with
   |some te=>match te.d,b with
    |.int .u8,none=>some (.string .empty)
    |.int .u8,some a=>bif Nat.beq n 0 then none else match loadCells m a n with
     |some cs=>match bytesOf cs with
      |some ns=>some (.string (ns.foldl (fun r n=>r.push (UInt8.ofNat n.toNat)) ByteArray.empty))
      |none=>none
     |none=>none
    |_,_=>none
   |none=>none
  |_,_,_=>none
 |_,_=>none
def Kb(m:M)(s d:TypeId)(x:Value):Option Value:=match Jr E s d x with |some v=>some v |none=>Bo E m s d x
end
end Go.D
namespace Go.D
open Go
structure Fr where
 T:Tr Value
 m:M
 deriving Inhabited
noncomputable def gR(T:Tr Value)(t:Nat):Value:=(T.get t).getD undef
noncomputable def ev(T:Tr Value):Operand->Value
 |.tmp t=>gR T t
 |.const v=>v
 |.global g=> .pointer (some ⟨g,0,none⟩)
 |.func f=> .func (.func f) #[] #[]
abbrev aF:=Fn->List Value->M->Option (Value×M)
noncomputable section
variable (E:Env)
def aq(m:M)(b:Builtin)(ts:List TypeId)(args:List Value):Option (Value×M):=
 match b,ts,args with
 |.append,[t,u],[s,x]=>dD E m t u s x
 |.copy,t::_,[d,x]=>tT E m t d x
 |.clear,[t],[x]=>oh E m t x
 |.len,[t],[x]=>(nV E m t x).map (·,m)
 |.min,_,xs=>(cV (fun x y=>if y < x then y else x) xs).map (·,m)
 |.max,_,xs=>(cV (fun x y=>if y >x then y else x) xs).map (·,m)
 |.cap,[t],[x]=>match E.ty.get t with
  |some ti=>match ti.d,x with
   |.slice _,.slice (some a) _ c=>bif lI m a then none else some (.int .i64 c,m)
   |.slice _,.slice none _ c=>some (.int .i64 c,m)
   |_,_=>none
  |none=>none
 |_,_,_=>none
end
abbrev gD:=Env->aF->Tr Value->M->Option (Value×M)
noncomputable def we(x:Operand):gD:=fun _ _ T m=>some (ev T x,m)
noncomputable def nP(c a b:Operand):gD:=fun _ _ T m=>match ev T c with |.bool t=>some (bif t then ev T a else ev T b,m) |_=>none
noncomputable def oY(t:TypeId):gD:=fun E _ _ m=>match ig E t with |some z=>some (newVar m t z) |none=>none
noncomputable def Hw(t:TypeId)(x:Operand):gD:=fun _ _ T m=>some (newVar m t (ev T x))
noncomputable def oX(t:TypeId)(ps:Array (Nat×Operand)):gD:=fun E _ T m=>match aW E t (ps.toList.map fun p=>(p.1,ev T p.2))with |some v=>some (v,m) |none=>none
noncomputable def kS(t:TypeId)(n:Nat)(ps:Array (Nat×Operand)):gD:=fun E _ T m=>aE E m t n (ps.toList.map fun p=>(p.1,ev T p.2))
noncomputable def sQ(t:TypeId)(a:Operand):gD:=fun E _ T m=>match ev T a with
 |.pointer (some a)=>(match loadVar E m t a with |some v=>some (v,m) |none=>none)
 |_=>none
noncomputable def kQ(t:TypeId)(a x:Operand):gD:=fun E _ T m=>match ev T a with
 |.pointer (some a)=>(match storeVar E m t a (ev T x)with |some m=>some (undef,m) |none=>none)
 |_=>none
noncomputable def fI(x:Operand):gD:=fun _ _ T m=>match ev T x with |.pointer (some a)=>some (.pointer (some a),m) |.func (.func f) a b=>some (.func (.func f) a b,m) |_=>none
noncomputable def yX(op:BinOp)(t:TypeId)(x y:Operand):gD:=fun E _ T m=>match an E op t (ev T x) (ev T y)with |some v=>some (v,m) |none=>none
noncomputable def Hv(op:UnOp)(x:Operand):gD:=fun _ _ T m=>match iO op (ev T x)with |some v=>some (v,m) |none=>none
noncomputable def AJ(s d:TypeId)(x:Operand):gD:=fun E _ T m=>match Kb E m s d (ev T x)with |some v=>some (v,m) |none=>none
noncomputable def gJ(f:Fn)(a b:Array Operand):gD:=fun _ _ T m=>match f with
 |.func _=>some (.func f (a.toList.map (ev T)).toArray (b.toList.map (ev T)).toArray,m)
 |_=>none
noncomputable def mI(r:Option Operand):gD:=fun _ _ _ m=>match r with |none=>some (.map (some m.n),m.push (.map [] 0)) |some _=>none
noncomputable def qL(t:TypeId)(l c:Operand):gD:=fun E _ T m=>dA E m t (ev T l) (ev T c)
noncomputable def vZ(t:TypeId)(x:Operand)(lo hi mx:Option Operand):gD:=fun E _ T m=>match slice? E m t (ev T x) (lo.map (ev T)) (hi.map (ev T)) (mx.map (ev T))with |some v=>some (v,m) |none=>none
noncomputable def im(s:TypeId)(x:Operand)(f:Nat):gD:=fun E _ T m=>match ae E s (ev T x) f with |some v=>some (v,m) |none=>none
noncomputable def oW(t:TypeId)(x:Operand)(f:Nat):gD:=fun E _ T m=>match wN E t (ev T x) f with |some v=>some (v,m) |none=>none
noncomputable def il(t:TypeId)(x i:Operand):gD:=fun E _ T m=>match ai E t (ev T x) (ev T i)with |some v=>some (v,m) |none=>none
noncomputable def oV(t:TypeId)(x i:Operand):gD:=fun E _ T m=>match index? E t (ev T x) (ev T i)with |some v=>some (v,m) |none=>none
noncomputable def sP(t:TypeId)(x i:Operand)(ok:Bool):gD:=fun E _ T m=>match eK E m t (ev T x) (ev T i) ok with |some v=>some (v,m) |none=>none
noncomputable def dY(t:TypeId)(x k y:Operand):gD:=fun E _ T m=>match eh E m t (ev T x) (ev T k) (ev T y)with |some m=>some (undef,m) |none=>none
noncomputable def nQ(t:TypeId)(x k:Operand):gD:=fun E _ T m=>dw E m t (ev T x) (ev T k)
noncomputable def iU(x s y:Operand):gD:=fun _ _ T m=>match cz m (ev T x) (ev T s) (ev T y)with |some m=>some (undef,m) |none=>none
noncomputable def sR(x:Operand)(t:TypeId)(ok:Bool):gD:=fun E _ T m=>match ev T x with
 |.nilIface=>bif ok then(match ig E t with |some z=>some (.tuple #[z,.bool false],m) |none=>none)else none
 |.iface t' (.agg cs)=>bif ok && (Nat.beq t' t && cs.toList.isEmpty)then(match E.ty.get t with
  |some ti=>(match ti.d with |.struct _=>some (.tuple #[.agg #[],.bool true],m) |_=>none)
  |none=>none)else none
 |_=>none
noncomputable def jg(x:Operand)(i:Nat):gD:=fun _ _ T m=>match ev T x with |.tuple vs=>(match vs.toList[i]? with |some v=>some (v,m) |none=>none) |_=>none
noncomputable def kR(c:Call):gD:=fun E call T m=>
 match c.callee with
 |.builtin b=>aq E m b c.argTypes.toList (c.args.toList.map (ev T))
 |.value f=>match ev T f with
  |.func g first captured=>call g (first.toList++(c.args.toList.map (ev T)++captured.toList)) m
  |_=>none
 |_=>none
noncomputable def cJ:Op->gD
 |.move x=>we x
 |.assign x=>we x
 |.pick c a b=>nP c a b
 |.alloc t=>oY t
 |.box t x=>Hw t x
 |.build t ps=>oX t ps
 |.buildSlice t n ps=>kS t n ps
 |.load t a=>sQ t a
 |.store t a x=>kQ t a x
 |.nilCheck x=>fI x
 |.binOp op t x y _=>yX op t x y
 |.unOp op _ x=>Hv op x
 |.convert s d x=>AJ s d x
 |.makeFunc f a b=>gJ f a b
 |.makeMap _ r=>mI r
 |.makeSlice t l c=>qL t l c
 |.slice t x lo hi mx=>vZ t x lo hi mx
 |.fieldAddr s x f=>im s x f
 |.field t x f=>oW t x f
 |.indexAddr t x i=>il t x i
 |.index t x i=>oV t x i
 |.lookup t x i ok=>sP t x i ok
 |.mapUpdate t x k y=>dY t x k y
 |.insert t x k y=>dY t x k y
 |.extract x i=>jg x i
 |.call c=>kR c
 |.mapEntry t x k=>nQ t x k
 |.entryStore _ x s y=>iU x s y
 |.typeAssert x _ t ok=>sR x t ok
 |_=>fun _ _ _ _=>none
noncomputable section
variable (E:Env)
def ed:Op->Bool
 |.move _ |.assign _ |.pick .. |.build .. |.nilCheck _ |.binOp .. |.unOp .. |.makeFunc .. |.fieldAddr .. |.field .. |.indexAddr .. |.index .. |.extract ..=>true
 |_=>false
def cg(ops:Array Oper)(T:Tr Value)(o:Oper):Bool:=
 match o.guard with
 |none=>true
 |some (j,want)=>match(ops.toList[j]?).bind (·.dst)with
  |some d=>match gR T d with
   |.bool b=>b==want
   |_=>false
  |none=>false
def put(T:Tr Value)(dst:Option Tmp)(v:Value):Tr Value:=
 match dst with
 |some d=>T.set d v
 |none=>T
def uw(call:aF)(ops:Array Oper)(l:List Oper):Fr->Option Fr:=
 List.rec (motive:=fun _=>Fr->Option Fr) (fun fr=>some fr)
  (fun o _ ih fr=>
   bif cg ops fr.T o then
    match cJ o.op E call fr.T fr.m with
    |some (v,m)=>ih {T:=put fr.T o.dst v,m:=m}
    |none=>none
   else ih {fr with T:=put fr.T o.dst undef}) l
theorem yW(call:aF)(ops:Array Oper)(fr:Fr):uw E call ops [] fr=some fr:=rfl
theorem kr(call:aF)(ops:Array Oper)(o:Oper)(rest:List Oper)(fr:Fr):uw E call ops (o::rest) fr=
  bif cg ops fr.T o then
   match cJ o.op E call fr.T fr.m with
   |some (v,m)=>uw E call ops rest {T:=put fr.T o.dst v,m:=m}
   |none=>none
  else uw E call ops rest {fr with T:=put fr.T o.dst undef}:=rfl
def dC(ops:Array Oper)(j:Nat):Bool:=
 let b:=Region.before ops
 ops.toList.zipIdx.all fun(o,i)=>i==j ||ed o.op ||(b.getD j 0).testBit i ||(b.getD i 0).testBit j
def kT:Op->Bool
 |.call c=>(match c.callee with |.builtin .min=>true |.builtin .max=>true |_=>false)
 |_=>false
def lenOf:Op->Option Nat
 |.call c=>(match c.callee with |.builtin .len=>(match c.args.toList with |[.tmp t]=>some t |_=>none) |_=>none)
 |_=>none
def kd(ops:Array Oper)(j b:Nat)(T:Tr Value):Bool:=
 let bf:=Region.before ops
 let same:=fun i t=>ops.toList.zipIdx.all fun(q,k)=> !(Nat.ble i k && Nat.blt k j && q.dst==some t)
 ops.toList.zipIdx.all fun(o,i)=>i==j ||ed o.op ||(bf.getD j 0).testBit i ||(bf.getD i 0).testBit j ||
  (Nat.blt i j && (match o.op with
   |.alloc _ |.box _ _=>true
   |.load _ (.tmp t)=>same i t && (match o.guard with
     |none=>true
     |some (g,_)=>match(ops.toList[g]?).bind (·.dst)with |some d=>same i d |none=>true) &&
    (!(cg ops T o) ||match gR T t with |.pointer (some a)=> !(a.block==b) |_=>false)
   |_=>kT o.op ||(match lenOf o.op with |some t=>same i t && (match gR T t with |.map _=>false |_=>true) |none=>false)))
def ny(m:M)(a:Addr):Option Nat:=match m.get a.block with |.cells [_,.slice (some r) _ _] _ _=>some r.block |_=>none
def eI(m:M)(T:Tr Value):Op->Option Nat
 |.store _ a _=>match ev T a with |.pointer (some a)=>some a.block |_=>none
 |.call c=>match c.callee,c.args.toList with
  |.value f,[x]=>match ev T f,ev T x with
   |.func (.func g) first captured,.pointer (some a)=>bif Nat.beq g uk && first.isEmpty && captured.isEmpty then ny m a else none
   |_,_=>none
  |_,_=>none
 |_=>none
def sE(ops:Array Oper)(j:Nat)(m:M)(T:Tr Value)(o:Op):Bool:=match eI m T o with |some b=>kd ops j b T |none=>false
def eY(call:aF)(ops:Array Oper)(l:List Oper):Nat->Fr->Option Fr:=
 List.rec (motive:=fun _=>Nat->Fr->Option Fr) (fun _ fr=>some fr)
  (fun o _ ih j fr=>
   bif cg ops fr.T o then
    match cJ o.op E call fr.T {fr.m with low:=fr.m.n}with
    |some (v,m)=>
     bif Nat.ble fr.m.n m.low ||(dC ops j ||sE ops j fr.m fr.T o.op)then
      ih (j+1) {T:=put fr.T o.dst v,m:={m with low:=min fr.m.low m.low}}
     else none
    |none=>none
   else ih (j+1) {fr with T:=put fr.T o.dst undef}) l
theorem vr(call:aF)(ops:Array Oper)(j:Nat)(fr:Fr):eY E call ops [] j fr=some fr:=rfl
theorem eX(call:aF)(ops:Array Oper)(o:Oper)(rest:List Oper)(j:Nat)(fr:Fr):eY E call ops (o::rest) j fr=
  bif cg ops fr.T o then
   match cJ o.op E call fr.T {fr.m with low:=fr.m.n}with
   |some (v,m)=>
    bif Nat.ble fr.m.n m.low ||(dC ops j ||sE ops j fr.m fr.T o.op)then
     eY E call ops rest (j+1) {T:=put fr.T o.dst v,m:={m with low:=min fr.m.low m.low}}
    else none
   |none=>none
  else eY E call ops rest (j+1) {fr with T:=put fr.T o.dst undef}:=rfl
def iv(body:Fr->Option (Ex×Fr)):Nat->Fr->Option (Ex×Fr)
 |0,_=>none
 |n+1,fr=>
  match body fr with
  |some (.normal,fr)=>iv body n fr
  |r=>r
def bh(call:aF)(n:Nat):Code->Fr->Option (Ex×Fr)
 |.skip,fr |.label _,fr=>some (.normal,fr)
 |.region _ ops d,fr=>(bif d then eY E call ops ops.toList 0 fr else uw E call ops ops.toList fr).map (Ex.normal,·)
 |.seq a b,fr=>
  match bh call n a fr with
  |some (.normal,fr)=>bh call n b fr
  |r=>r
 |.cond c x y,fr=>match ev fr.T c with
  |.bool t=>bif t then bh call n x fr else bh call n y fr
  |_=>none
 |.block id c,fr=>
  match bh call n c fr with
  |some (.exit id',fr)=>bif Nat.beq id' id then some (.normal,fr)else some (.exit id',fr)
  |r=>r
 |.loop c,fr=>iv (bh call n c) n fr
 |.scope c,fr=>bh call n c fr
 |.rangeFunc g ps assign body,fr=>
  match ev fr.T g with
  |.func (.func h) first captured=>
   match call (.func h) (first.toList++(.func (.yield fr.m.n) #[] #[]::captured.toList)) (fr.m.push (.loop ⟨fr.T,ps,assign,body,.ready,none,E.G⟩))with
   |some (_,m)=>
    match m.get fr.m.n with
    |.loop r=>match r.st with
     |.busy=>none
     |_=>some (r.oN.getD .normal,{fr with m:=m.set fr.m.n (.loop {r with st:=.exhausted})})
    |_=>none
   |none=>none
  |_=>none
 |.exit id,fr=>some (.exit id,fr)
 |.ret,fr=>some (.ret,fr)
 |_,_=>none
def jc(T:Tr Value)(m:M):ResultVar->Option Value
 |.tmp t=>some (gR T t)
 |.cell a t=>match gR T a with |.pointer (some a)=>loadVar E m t a |_=>none
def eQ(T:Tr Value)(m:M):List ResultVar->Option (List Value)
 |[]=>some []
 |r::rs=>match jc E T m r,eQ T m rs with
  |some v,some vs=>some (v::vs)
  |_,_=>none
def result?(fn:Func)(T:Tr Value)(m:M):Option Value:=
 match eQ E T m fn.results.toList with
 |some [v]=>some v
 |some vs=>some (.tuple vs.toArray)
 |none=>none
def enter:List Value->Nat->Tr Value
 |[],_=> .e
 |v::vs,i=>(enter vs (i+1)).set i v
noncomputable def qb(T:Tr Value):List (Tmp×Value)->Tr Value
 |[]=>T
 |(t,v)::l=>qb (T.set t v) l
noncomputable def qe(exec:Code->Fr->Option (Ex×Fr))(G l:Nat)(args:List Value)(m:M):Option (Value×M):=
 match m.get l with
 |.loop r=>
  bif Nat.beq args.length r.ps.size && Nat.beq r.G G then
   match exec r.assign {T:=qb r.T (r.ps.toList.zip args),m:={m with low:=m.n}}with
   |some (.normal,fr)=>
    match fr.m.get l with
    |.loop r1=>match r1.st with
     |.ready=>
      match exec r.body {fr with m:=fr.m.set l (.loop {r1 with st:=.busy})}with
      |some (e,fr)=>
       match fr.m.get l with
       |.loop r2=>match e with
        |.normal=>some (.bool true,{fr.m.set l (.loop {r2 with st:=.ready,oN:=none})with low:=min m.low (fr.m.set l (.loop {r2 with st:=.ready,oN:=none})).low})
        |e=>some (.bool false,{fr.m.set l (.loop {r2 with st:=.done,oN:=some e})with low:=min m.low (fr.m.set l (.loop {r2 with st:=.done,oN:=some e})).low})
       |_=>none
      |none=>none
     |_=>none
    |_=>none
   |_=>none
  else none
 |_=>none
def vR:Code->Option (List Code×(Nat×Oper×Oper)×Code)
 |.seq (.region id ops false) b=>
  match ops.toList with
  |[m,d]=>match d.op with
   |.defer _=>some ([],(id,m,d),b)
   |_=>(vR b).map fun r=>(.region id ops false::r.1,r.2)
  |_=>(vR b).map fun r=>(.region id ops false::r.1,r.2)
 |.seq a b=>(vR b).map fun r=>(a::r.1,r.2)
 |_=>none
def uz(f:Func):OZ:=match f.body.bind vR with
 |some (pre,(id,m,d),post)=>⟨f,pre,id,m,d,post⟩
 |none=>⟨f,[],0,default,default,.skip⟩
def zf(f:Func):LL:=match f.body with
 |some (.seq (.region id ops false) r)=>⟨f,id,ops,r⟩
 |_=>⟨f,0, #[],.skip⟩
def qu(ex:Code->Fr->Option (Ex×Fr)):List Code->Fr->Option (Ex×Fr)
 |[],fr=>some (.normal,fr)
 |c::cs,fr=>match ex c fr with
  |some (.normal,fr)=>qu ex cs fr
  |r=>r
noncomputable def kP:List Oper->Tr Value->Option (Tr Value)
 |[],T=>some T
 |o::os,T=>match o.guard,o.op with
  |none,.call c=>match c.callee with
   |.builtin .recover=>bif c.args.toList.isEmpty then kP os (put T o.dst .nilIface)else none
   |_=>none
  |none,.assign x=>kP os (put T o.dst (ev T x))
  |none,.move x=>kP os (put T o.dst (ev T x))
  |_,_=>none
def Br(ex:Code->Fr->Option (Ex×Fr))(g:Nat)(args:List Value)(m:M):Option M:=
 match E.cl.get g with
 |some c=>
  bif Nat.ble args.length c.fn.ntmps && (c.fn.results.toList.isEmpty && ke c.rest)then
   match kP c.ops.toList (enter args 0)with
   |some T=>match ex c.rest {T:=T,m:={m with low:=m.n}}with
    |some (.exit _,_) |none=>none
    |some (_,fr)=>some {fr.m with low:=min m.low fr.m.low}
   |none=>none
  else none
 |none=>none
def Ba(fn:Func)(m:M)(fr:Fr):Option (Value×M):=
 match result? E fn fr.T fr.m with
 |none=>none
 |some v=>bif bY v && Nat.ble m.n fr.m.low then some (v,m)else some (v,{fr.m with low:=min m.low fr.m.low})
def tV(ex:Code->Fr->Option (Ex×Fr))(d:OZ)(args:List Value)(m:M):Option (Value×M):=
 bif Nat.ble args.length d.fn.ntmps then
  match qu ex d.pre {T:=enter args 0,m:={m with low:=m.n}}with
  |some (.ret,fr)=>Ba E d.fn m fr
  |some (.normal,fr)=>
   match d.mf.guard,d.mf.dst,d.mf.op,d.de.guard,d.de.op with
   |none,some td,.makeFunc (.func g) fi ca,none,.defer c=>
    match c.callee with
    |.value (.tmp t)=>
     bif Nat.beq t td && (c.args.toList.isEmpty && fi.toList.isEmpty)then
      match ex d.post {T:=put (put fr.T (some td) (.func (.func g) #[] (ca.toList.map (ev fr.T)).toArray)) d.de.dst undef,m:=fr.m}with
      |some (.exit _,_) |none=>none
      |some (_,fr2)=>match Br E ex g (ca.toList.map (ev fr.T)) fr2.m with
       |some m3=>Ba E d.fn m {fr2 with m:=m3}
       |none=>none
     else none
    |_=>none
   |_,_,_,_,_=>none
  |_=>none
 else none
def bV(X:aF):Nat->aF
 |0,_,_,_=>none
 |n+1,.func f,args,m=>
  match X (.func f) args m with
  |some r=>some r
  |none=>
  match E.fn.get f with
  |none=>match E.df.get f with
   |some d=>tV E (bh E (bV X n) n) d args m
   |none=>none
  |some fn=>
   match fn.body with
   |none=>none
   |some body=>
    bif Nat.ble args.length fn.ntmps then
     match bh E (bV X n) n body {T:=enter args 0,m:={m with low:=m.n}}with
     |some (.exit _,_) |none=>none
     |some (_,fr)=>
      match result? E fn fr.T fr.m with
      |none=>none
      |some v=>bif bY v && Nat.ble m.n fr.m.low then some (v,m)else some (v,{fr.m with low:=min m.low fr.m.low})
    else none
 |n+1,.yield l,args,m=>qe (bh E (bV X n) n) E.G l args m
 |_+1,_,_,_=>none
end
end Go.D
namespace Go.D
open Go
theorem Tr.get_mem{α:Type}{x:α}:∀(t:Tr α) (i a b:Nat),t.get i=some x->(a*i+b,x)∈t.mz a b
 |.e,_,_,_,h=>by simp[Tr.tC]at h
 |.n v l r,0,a,b,h=>by
  simp only[Tr.kD,Tr.fZ]at h
  subst h
  unfold Tr.mz
  simp
 |.n v l r,i+1,a,b,h=>by
  simp only[Tr.kD,Tr.fZ]at h
  unfold Tr.mz
  cases h1:Nat.beq (i%2) 0 with
  |true=>
   rw[h1]at h
   simp only[cond_true]at h
   have hm:i%2=0:=Nat.eq_of_beq_eq_true h1
   have:=Tr.get_mem l (i/2) (2*a) (a+b) h
   have e:2*a*(i/2)+(a+b)=a*(i+1)+b:=by
    have h2:i=2*(i/2):=by omega
    have h3:2*a*(i/2)=a*i:=by
     rw[Nat.mul_comm 2 a,Nat.mul_assoc,<-h2]
    rw[h3,Nat.mul_add];omega
   rw[e]at this
   exact List.mem_append.2 (.inr (List.mem_append.2 (.inl this)))
  |false=>
   rw[h1]at h
   simp only[cond_false]at h
   have hm:i%2≠0:=Nat.ne_of_beq_eq_false h1
   have:=Tr.get_mem r (i/2) (2*a) (2*a+b) h
   have e:2*a*(i/2)+(2*a+b)=a*(i+1)+b:=by
    have h2:i=2*(i/2)+1:=by omega
    have h3:a*(i+1)=2*a*(i/2)+2*a:=by
     have:i+1=2*(i/2+1):=by omega
     rw[this,Nat.mul_left_comm,Nat.mul_add,Nat.mul_add,Nat.mul_assoc];omega
    omega
   rw[e]at this
   exact List.mem_append.2 (.inr (List.mem_append.2 (.inr this)))
theorem Tr.rf{α:Type}{f:Nat->Option α}(t:Tr α)(h:(t.mz 1 0).map (fun p=>f p.1)=(t.mz 1 0).map (fun p=>some p.2)){i:Nat}{x:α}(hi:t.get i=some x):f i=some x:=by
 have hm:=Tr.get_mem t i 1 0 hi
 simp only[Nat.one_mul,Nat.add_zero]at hm
 have:=List.map_inj_left.1 h _ hm
 simpa using this
theorem Tr.nX{α:Type}(x:α):∀(f i j:Nat),i<=f->(Tr.single x f i).get j=if j=i then some x else none
 |0,i,j,h=>by
  obtain rfl:i=0:=by omega
  unfold Tr.single
  cases j with
  |zero=>rfl
  |succ j=>simp only[Tr.fZ];cases Nat.beq (j%2) 0 <;>simp[Tr.tC]
 |f+1,0,j,h=>by
  unfold Tr.single
  cases j with
  |zero=>rfl
  |succ j=>simp only[Tr.fZ];cases Nat.beq (j%2) 0 <;>simp[Tr.tC]
 |f+1,i+1,j,h=>by
  unfold Tr.single
  cases h1:Nat.beq (i%2) 0 with
  |true=>
   have hm:i%2=0:=Nat.eq_of_beq_eq_true h1
   simp only[cond_true]
   cases j with
   |zero=>simp[Tr.kD]
   |succ j=>
    simp only[Tr.fZ]
    cases h2:Nat.beq (j%2) 0 with
    |true=>
     have hj:j%2=0:=Nat.eq_of_beq_eq_true h2
     simp only[cond_true]
     rw[Tr.nX x f (i/2) (j/2) (by omega)]
     have:(j/2=i/2)↔(j+1=i+1):=by omega
     simp[this]
    |false=>
     have hj:j%2≠0:=Nat.ne_of_beq_eq_false h2
     simp only[cond_false,Tr.tC]
     rw[if_neg (by omega)]
  |false=>
   have hm:i%2≠0:=Nat.ne_of_beq_eq_false h1
   simp only[cond_false]
   cases j with
   |zero=>simp[Tr.kD]
   |succ j=>
    simp only[Tr.fZ]
    cases h2:Nat.beq (j%2) 0 with
    |true=>
     have hj:j%2=0:=Nat.eq_of_beq_eq_true h2
     simp only[cond_true,Tr.tC]
     rw[if_neg (by omega)]
    |false=>
     have hj:j%2≠0:=Nat.ne_of_beq_eq_false h2
     simp only[cond_false]
     rw[Tr.nX x f (i/2) (j/2) (by omega)]
     have:(j/2=i/2)↔(j+1=i+1):=by omega
     simp[this]
theorem Tr.bH{α:Type}(x:α):∀(t:Tr α) (i j:Nat),(t.set i x).get j=if j=i then some x else t.get j
 |.e,i,j=>by
  simp only[Tr.yF,Tr.lJ,Tr.fV]
  rw[Tr.nX x i i j (Nat.le_refl _)]
  simp[Tr.tC]
 |.n v l r,0,j=>by
  simp only[Tr.yF,Tr.lJ,Tr.fV]
  cases j with
  |zero=>rfl
  |succ j=>simp[Tr.fZ]
 |.n v l r,i+1,j=>by
  simp only[Tr.yF,Tr.lJ,Tr.fV]
  cases h1:Nat.beq (i%2) 0 with
  |true=>
   have hm:i%2=0:=Nat.eq_of_beq_eq_true h1
   simp only[cond_true]
   cases j with
   |zero=>simp[Tr.kD]
   |succ j=>
    simp only[Tr.fZ]
    cases h2:Nat.beq (j%2) 0 with
    |true=>
     have hj:j%2=0:=Nat.eq_of_beq_eq_true h2
     simp only[cond_true]
     rw[Tr.bH x l (i/2) (j/2)]
     have:(j/2=i/2)↔(j+1=i+1):=by omega
     simp[this]
    |false=>
     have hj:j%2≠0:=Nat.ne_of_beq_eq_false h2
     simp only[cond_false]
     rw[if_neg (by omega)]
  |false=>
   have hm:i%2≠0:=Nat.ne_of_beq_eq_false h1
   simp only[cond_false]
   cases j with
   |zero=>simp[Tr.kD]
   |succ j=>
    simp only[Tr.fZ]
    cases h2:Nat.beq (j%2) 0 with
    |true=>
     have hj:j%2=0:=Nat.eq_of_beq_eq_true h2
     simp only[cond_true]
     rw[if_neg (by omega)]
    |false=>
     have hj:j%2≠0:=Nat.ne_of_beq_eq_false h2
     simp only[cond_false]
     rw[Tr.bH x r (i/2) (j/2)]
     have:(j/2=i/2)↔(j+1=i+1):=by omega
     simp[this]
theorem Tr.Cm{α:Type}{p:Nat->α->Prop}(t:Tr α){l:List (Nat×α)}(h:t.mz 1 0=l)(hl:∀x∈l,p x.1 x.2){i:Nat}{x:α}(hi:t.get i=some x):p i x:=by
 have hm:=Tr.get_mem t i 1 0 hi
 simp only[Nat.one_mul,Nat.add_zero]at hm
 rw[h]at hm
 exact hl _ hm
end Go.D
namespace Go.D
open Go
structure BI where
 bX:Nat
 gr:Option (Nat×Nat×Nat)
abbrev Sg:=Nat->Option BI
inductive aJ (σ:Sg):Value->Value->Prop where
 |flat (v:Value) (h:bL v=true):aJ σ v v
 |ptr (a:Addr) (i:BI) (h:σ a.block=some i) (hs:a.spot=none):aJ σ (.pointer (some a)) (.pointer (some ⟨i.bX,a.off,none⟩))
 |slice (a:Addr) (i:BI) (n c:Nat) (h:σ a.block=some i) (hs:a.spot=none) (hg:i.gr=none):aJ σ (.slice (some a) n c) (.slice (some ⟨i.bX,a.off,none⟩) n c)
 |fq (a:Addr) (i:BI) (n c c' k sz N:Nat) (h:σ a.block=some i) (hs:a.spot=none) (hg:i.gr=some (k,sz,N)) (hc:c'=c\/(c<=c'/\a.off+c*k=sz/\a.off+c'*k=N)):aJ σ (.slice (some a) n c) (.slice (some ⟨i.bX,a.off,none⟩) n c')
 |empty (a a':Addr) (i:BI) (c' k sz N:Nat) (h:σ a.block=some i) (hg:i.gr=some (k,sz,N)) (ho:a.off=sz):aJ σ (.slice (some a) 0 0) (.slice (some a') 0 c')
 |map (r:Nat) (i:BI) (h:σ r=some i):aJ σ (.map (some r)) (.map (some i.bX))
 |func (f:FuncId) (a b a' b':Array Value) (ha:a.size=a'.size) (hb:b.size=b'.size) (h1:∀(j:Nat) u u',a[j]?=some u->a'[j]?=some u'->aJ σ u u') (h2:∀(j:Nat) u u',b[j]?=some u->b'[j]?=some u'->aJ σ u u'):aJ σ (.func (.func f) a b) (.func (.func f) a' b')
 |yield (l:Nat) (i:BI) (h:σ l=some i):aJ σ (.func (.yield l) #[] #[]) (.func (.yield i.bX) #[] #[])
 |agg (a a':Array Value) (ha:a.size=a'.size) (h1:∀(j:Nat) u u',a[j]?=some u->a'[j]?=some u'->aJ σ u u'):aJ σ (.agg a) (.agg a')
 |tuple (a a':Array Value) (ha:a.size=a'.size) (h1:∀(j:Nat) u u',a[j]?=some u->a'[j]?=some u'->aJ σ u u'):aJ σ (.tuple a) (.tuple a')
def aT(σ:Sg)(l l':List Value):Prop:=l.length=l'.length/\∀(j:Nat) u u',l[j]?=some u->l'[j]?=some u'->aJ σ u u'
def Sg.le(σ τ:Sg):Prop:=∀b i,σ b=some i->τ b=some i
theorem aJ.mono{σ τ:Sg}(hle:σ.le τ){v v':Value}(h:aJ σ v v'):aJ τ v v':=by
 induction h with
 |flat v h=>exact .flat v h
 |ptr a i h hs=>exact .ptr a i (hle _ _ h) hs
 |slice a i n c h hs hg=>exact .slice a i n c (hle _ _ h) hs hg
 |fq a i n c c' k sz N h hs hg hc=>exact .fq a i n c c' k sz N (hle _ _ h) hs hg hc
 |empty a a' i c' k sz N h hg ho=>exact .empty a a' i c' k sz N (hle _ _ h) hg ho
 |map r i h=>exact .map r i (hle _ _ h)
 |func f a b a' b' ha hb _ _ i1 i2=>exact .func f a b a' b' ha hb (fun j u u' h h'=>i1 j u u' h h') (fun j u u' h h'=>i2 j u u' h h')
 |yield l i h=>exact .yield l i (hle _ _ h)
 |agg a a' ha _ i1=>exact .agg a a' ha (fun j u u' h h'=>i1 j u u' h h')
 |tuple a a' ha _ i1=>exact .tuple a a' ha (fun j u u' h h'=>i1 j u u' h h')
theorem aT.mono{σ τ:Sg}(hle:σ.le τ){l l':List Value}(h:aT σ l l'):aT τ l l':=⟨h.1,fun j u u' a b=>(h.2 j u u' a b).mono hle⟩
theorem aT.nil{σ:Sg}:aT σ [] []:=⟨rfl,fun _ _ _ h=>by simp at h⟩
theorem aT.cons{σ:Sg}{v v':Value}{l l':List Value}(h:aJ σ v v')(ht:aT σ l l'):aT σ (v::l) (v'::l'):=
 ⟨by simp[ht.1],fun j u u' a b=>by
  cases j with
  |zero=>simp at a b;subst a;subst b;exact h
  |succ j=>exact ht.2 j u u' (by simpa using a) (by simpa using b)⟩
theorem aT.head{σ:Sg}{v v':Value}{l l':List Value}(h:aT σ (v::l) (v'::l')):aJ σ v v':=h.2 0 v v' rfl rfl
theorem aT.tail{σ:Sg}{v v':Value}{l l':List Value}(h:aT σ (v::l) (v'::l')):aT σ l l':=
 ⟨by simpa using h.1,fun j u u' a b=>h.2 (j+1) u u' (by simpa using a) (by simpa using b)⟩
theorem aT.cases{σ:Sg}{v:Value}{l x:List Value}(h:aT σ (v::l) x):∃v' l',x=v'::l'/\aJ σ v v'/\aT σ l l':=by
 cases x with
 |nil=>exact absurd h.1 (by simp)
 |cons v' l'=>exact⟨v',l',rfl,h.head,h.tail⟩
theorem aT.nil_eq{σ:Sg}{x:List Value}(h:aT σ [] x):x=[]:=List.eq_nil_of_length_eq_zero h.1.symm
theorem aT.append{σ:Sg}{a a' b b':List Value}(h:aT σ a a')(k:aT σ b b'):aT σ (a++b) (a'++b'):=
 ⟨by simp[h.1,k.1],fun j u u' x y=>by
  by_cases hj:j < a.length
  ·rw[List.getElem?_append_left hj]at x
   rw[List.getElem?_append_left (by rw[<-h.1];exact hj)]at y
   exact h.2 j u u' x y
  ·rw[List.getElem?_append_right (by omega)]at x
   rw[List.getElem?_append_right (by rw[<-h.1];omega)]at y
   rw[<-h.1]at y
   exact k.2 _ u u' x y⟩
theorem aT.take{σ:Sg}{a a':List Value}(h:aT σ a a')(n:Nat):aT σ (a.take n) (a'.take n):=
 ⟨by simp[h.1],fun j u u' x y=>by
  simp only[List.getElem?_take]at x y
  by_cases hj:j < n
  ·rw[if_pos hj]at x y;exact h.2 j u u' x y
  ·rw[if_neg hj]at x;cases x⟩
theorem aT.drop{σ:Sg}{a a':List Value}(h:aT σ a a')(n:Nat):aT σ (a.drop n) (a'.drop n):=
 ⟨by simp[h.1],fun j u u' x y=>by
  simp only[List.getElem?_drop]at x y
  exact h.2 _ u u' x y⟩
theorem aT.get{σ:Sg}{a a':List Value}(h:aT σ a a'){j:Nat}{u:Value}(hj:a[j]?=some u):∃u',a'[j]?=some u'/\aJ σ u u':=by
 have hlt:j < a'.length:=by rw[<-h.1];exact(List.getElem?_eq_some_iff.1 hj).1
 exact⟨a'[j],List.getElem?_eq_getElem hlt,h.2 j u _ hj (List.getElem?_eq_getElem hlt)⟩
theorem aT.of_flat{σ:Sg}{l:List Value}(h:l.all bL=true):aT σ l l:=
 ⟨rfl,fun j u u' a b=>by
  rw[a]at b;cases b
  exact .flat u (List.all_eq_true.1 h u (List.mem_of_getElem? a))⟩
theorem aT.agg{σ:Sg}{l l':List Value}(h:aT σ l l'):aJ σ (.agg l.toArray) (.agg l'.toArray):=
 .agg _ _ (by simpa using h.1) (fun j u u' a b=>h.2 j u u' (by simpa using a) (by simpa using b))
theorem aT.tuple{σ:Sg}{l l':List Value}(h:aT σ l l'):aJ σ (.tuple l.toArray) (.tuple l'.toArray):=
 .tuple _ _ (by simpa using h.1) (fun j u u' a b=>h.2 j u u' (by simpa using a) (by simpa using b))
theorem aJ.ir{σ:Sg}{v:Value}(h:gg v=true):aJ σ v v:=by
 cases v with
 |agg cs=>
  have:=aT.agg (σ:=σ) (aT.of_flat (l:=cs.toList) h)
  simpa using this
 |_=>exact .flat _ h
theorem aJ.undef{σ:Sg}:aJ σ undef undef:=.tuple _ _ rfl (fun j u u' a b=>by simp at a)
theorem aJ.cells{σ:Sg}{v v':Value}(h:aJ σ v v'):aT σ (cells v) v'.cells.toList:=by
 cases h with
 |agg a a' ha h1=>exact⟨by simpa[D.cells,Value.cells]using ha,fun j u u' x y=>h1 j u u' (by simpa[D.cells]using x) (by simpa[Value.cells]using y)⟩
 |flat v hv=>
  cases v with
  |agg cs=>simp[bL]at hv
  |_=>exact aT.cons (.flat _ hv) aT.nil
 |ptr a i h hs=>exact aT.cons (.ptr a i h hs) aT.nil
 |slice a i n c h hs hg=>exact aT.cons (.slice a i n c h hs hg) aT.nil
 |fq a i n c c' k sz N h hs hg hc=>exact aT.cons (.fq a i n c c' k sz N h hs hg hc) aT.nil
 |empty a a' i c' k sz N h hg ho=>exact aT.cons (.empty a a' i c' k sz N h hg ho) aT.nil
 |map r i h=>exact aT.cons (.map r i h) aT.nil
 |func f a b a' b' ha hb h1 h2=>exact aT.cons (.func f a b a' b' ha hb h1 h2) aT.nil
 |yield l i h=>exact aT.cons (.yield l i h) aT.nil
 |tuple a a' ha h1=>exact aT.cons (.tuple a a' ha h1) aT.nil
theorem aJ.one{σ:Sg}{v v':Value}(h:aJ σ v v')(h1:one v=true):v'.oneCell'=true:=by
 cases h with
 |flat v hv=>cases v <;>first |rfl |simp[D.one]at h1
 |agg=>simp[D.one]at h1
 |tuple=>simp[D.one]at h1
 |_=>rfl
theorem aT.lO{σ:Sg}{l l':List Value}(h:aT σ l l')(h1:l.all one=true):∀u∈l',u.oneCell'=true:=by
 intro u hu
 obtain⟨j,hj⟩:=List.mem_iff_getElem?.1 hu
 have hlt:j < l.length:=by rw[h.1];exact(List.getElem?_eq_some_iff.1 hj).1
 exact(h.2 j _ u (List.getElem?_eq_getElem hlt) hj).one (List.all_eq_true.1 h1 _ (List.getElem_mem hlt))
theorem aJ.aK{σ:Sg}{v v':Value}(h:aJ σ v v')(h0:bL v=true):v'=v:=by
 cases h with
 |flat=>rfl
 |func f a b a' b' ha hb h1 h2=>
  simp[bL]at h0
  obtain⟨rfl,rfl⟩:=h0
  have e1:a'= #[]:=Array.eq_empty_of_size_eq_zero (by simpa using ha.symm)
  have e2:b'= #[]:=Array.eq_empty_of_size_eq_zero (by simpa using hb.symm)
  rw[e1,e2]
 |ptr=>simp[bL]at h0
 |slice=>simp[bL]at h0
 |fq=>simp[bL]at h0
 |empty=>simp[bL]at h0
 |map=>simp[bL]at h0
 |yield=>simp[bL]at h0
 |agg=>simp[bL]at h0
 |tuple=>simp[bL]at h0
def OX(i:BI)(len size:Nat):Option Nat->Prop
 |none=>i.gr=none/\size=len
 |some k=>i.gr=some (k,len,size)/\0 < k/\0 < len
def qv:Ex->Code
 |.normal=> .skip
 |.exit id=> .exit id
 |.ret=> .ret
def Holds(σ:Sg)(i:BI)(w:World):Ob->Prop
 |.dead=>True
 |.cells c e g=>∃c':Array Value,w.heap[i.bX]?=some (.cells c' e (0,0))/\c.length<=c'.size/\aT σ c (c'.toList.take c.length)/\OX i c.length c'.size g
 |.map es clock=>i.gr=none/\∃es':Array MapEntry,w.heap[i.bX]?=some (.map es' clock)/\es.length=es'.size/\
   ∀(j:Nat) e e',es[j]?=some e->es'[j]?=some e'->e'.key=e.key/\e'.born=e.born/\gg e.key=true/\aJ σ e.val e'.val
 |.ro c=>i.gr=none/\∃(c':Array Value) (e':TypeId) (fz:Nat×Nat),w.heap[i.bX]?=some (.cells c' e' fz)/\c.length<=c'.size/\∀(j:Nat) u u',c[j]?=some u->c'[j]?=some u'->one u=true->aJ σ u u'
 |.loop r=>i.gr=none/\∃(r':Loop) (nt:Nat),w.heap[i.bX]?=some (.loop r')/\r'.state=r.st/\r'.pending=r.oN.map qv/\r'.params=r.ps/\r'.assign=r.assign/\r'.body=r.body/\
   r'.tmps.size=nt/\(∀t,t < nt->aJ σ ((r.T.get t).getD undef) (r'.tmps.getD t undef))/\cX nt r.G r.assign=true/\cX nt r.G r.body=true/\(∀p∈r.ps.toList,p < nt)/\r.oN≠some .normal
structure dB(P:Program)(σ:Sg)(m:M)(w:World):Prop where
 mV:∀b i,σ b=some i->b < m.n
 obj:∀b i,σ b=some i->Holds σ i w (m.get b)
 lt:∀b i,σ b=some i->i.bX < w.heap.size
 inj:∀b b' i i',σ b=some i->σ b'=some i'->m.get b≠.dead->m.get b'≠.dead->i.bX=i'.bX->b=b'
 iG:∀g,g < P.globals.size->σ g=some ⟨g,none⟩
structure Ev(P:Program)(σ:Sg)(m:M)(w:World)(σ':Sg)(m':M)(w':World):Prop where
 ext:σ.le σ'
 nG:dB P σ' m' w'
 low:m'.low<=m.low
 FE:m.n<=m'.n
 hle:w.heap.size<=w'.heap.size
 new:∀b i,σ' b=some i->σ b=none->m.n<=b/\(w.heap.size<=i.bX\/∃b0 i0,σ b0=some i0/\i0.bX=i.bX/\m'.low<=b0)
 abs:∀b,b < m'.low->b < m.n->m'.get b=m.get b
 heap:∀B,B < w.heap.size->(∀b i,σ b=some i->i.bX=B->b < m'.low)->w'.heap[B]?=w.heap[B]?
 os:w'.os=w.os
 tape:w'.tape=w.tape
 output:w'.output=w.output
section
variable {P:Program} {σ σ' τ:Sg} {m m' m2:M} {w w' w2:World}
theorem Ev.refl(h:dB P σ m w):Ev P σ m w σ m w:=
 ⟨fun _ _ h=>h,h,Nat.le_refl _,Nat.le_refl _,Nat.le_refl _,fun b i h h'=>(by rw[h]at h';cases h'),fun _ _ _=>rfl,fun _ _ _=>rfl,rfl,rfl,rfl⟩
theorem Ev.trans(h:Ev P σ m w σ' m' w')(k:Ev P σ' m' w' τ m2 w2):Ev P σ m w τ m2 w2:=by
 refine⟨fun b i e=>k.ext b i (h.ext b i e),k.nG,Nat.le_trans k.low h.low,Nat.le_trans h.FE k.FE,Nat.le_trans h.hle k.hle,?_,?_,?_,k.os.trans h.os,k.tape.trans h.tape,k.output.trans h.output⟩
 ·intro b i hb hn
  have hl:=k.low
  cases hm:σ' b with
  |some i1=>
   have e:=k.ext b i1 hm
   rw[hb]at e;cases e
   obtain⟨h1,h2⟩:=h.new b i hm hn
   refine⟨h1,h2.imp id ?_⟩
   rintro⟨b0,i0,x,y,z⟩
   exact⟨b0,i0,x,y,by omega⟩
  |none=>
   obtain⟨h1,h2⟩:=k.new b i hb hm
   have:=h.FE
   refine⟨by omega,?_⟩
   rcases h2 with h2 |⟨b0,i0,x,y,z⟩
   ·have:=h.hle;exact .inl (by omega)
   ·cases h0:σ b0 with
    |some i1=>
     have e:=h.ext b0 i1 h0
     rw[x]at e;cases e
     exact .inr ⟨b0,i0,h0,y,z⟩
    |none=>
     obtain⟨_,h3⟩:=h.new b0 i0 x h0
     rcases h3 with h3 |⟨b1,i1,x1,y1,z1⟩
     ·exact .inl (by omega)
     ·exact .inr ⟨b1,i1,x1,by omega,by omega⟩
 ·intro b hb hn
  have hl:=k.low
  have:=h.FE
  rw[k.abs b hb (by omega),h.abs b (by omega) hn]
 ·intro B hB hp
  have hl:=k.low
  have:=h.hle
  rw[k.heap B (by omega) ?_,h.heap B hB (fun b i x y=>by have:=hp b i x y;omega)]
  intro b i x y
  cases hs:σ b with
  |some i1=>
   have e:=h.ext b i1 hs
   rw[x]at e;cases e
   exact hp b i hs y
  |none=>
   obtain⟨_,h3⟩:=h.new b i x hs
   rcases h3 with h3 |⟨b1,i1,x1,y1,z1⟩
   ·omega
   ·have:=hp b1 i1 x1 (by omega);omega
end
end Go.D
namespace Go.D
open Go
theorem dQ{a b:Nat}:Nat.blt a b=decide (a < b):=by
 cases h:Nat.blt a b with
 |true=>
  have h2:Nat.ble (a+1) b=true:=h
  have:=Nat.le_of_ble_eq_true h2
  simp;omega
 |false=>
  have h2:Nat.ble (a+1) b=false:=h
  have:¬(a+1<=b):=fun hle=>by rw[Nat.ble_eq_true_of_le hle]at h2;cases h2
  simp;omega
theorem M.dP(m:M)(b:Nat):m.get b=if b < m.n then(m.st.get b).getD .dead else .dead:=by
 unfold M.get
 rw[dQ]
 by_cases h:b < m.n <;>simp[h]
theorem M.eC(m:M)(o:Ob)(b:Nat):(m.push o).get b=if b=m.n then o else m.get b:=by
 rw[M.dP,M.dP]
 simp only[M.push,Tr.bH]
 by_cases h:b=m.n
 ·subst h;simp
 ·by_cases h1:b < m.n
  ·rw[if_pos (by omega),if_neg h,if_neg h,if_pos h1]
  ·rw[if_neg (by omega),if_neg h,if_neg h1]
theorem M.bH(m:M)(b:Nat)(o:Ob)(c:Nat)(hb:b < m.n):(m.set b o).get c=if c=b then o else m.get c:=by
 rw[M.dP,M.dP]
 simp only[M.set,Tr.bH]
 by_cases h:c=b
 ·subst h;simp[hb]
 ·simp[h]
theorem M.jB{m:M}{b:Nat}(h:m.get b≠.dead):b < m.n:=by
 rw[M.dP]at h
 by_cases hb:b < m.n
 ·exact hb
 ·rw[if_neg hb]at h;exact absurd rfl h
section
variable {P:Program} {σ σ' τ:Sg} {m m' m2:M} {w w' w2:World}
theorem Holds.bw{i:BI}{ob:Ob}(h:Holds σ i w ob)(hle:σ.le τ)(hw:w'.heap[i.bX]?=w.heap[i.bX]?):Holds τ i w' ob:=by
 cases ob with
 |dead=>trivial
 |cells c e g=>
  obtain⟨c',h1,h2,h3,h4⟩:=h
  exact⟨c',hw.trans h1,h2,h3.mono hle,h4⟩
 |map es clock=>
  obtain⟨hg,es',h1,h2,h3⟩:=h
  refine⟨hg,es',hw.trans h1,h2,fun j e e' x y=>?_⟩
  obtain⟨a,b,c,d⟩:=h3 j e e' x y
  exact⟨a,b,c,d.mono hle⟩
 |loop r=>
  obtain⟨hg,r',nt,h1,h2,h3,h4,h5,h6,h7,h8,h9⟩:=h
  exact⟨hg,r',nt,hw.trans h1,h2,h3,h4,h5,h6,h7,fun t ht=>(h8 t ht).mono hle,h9⟩
 |ro c=>
  obtain⟨hg,c',e',fz,h1,h2,h3⟩:=h
  exact⟨hg,c',e',fz,hw.trans h1,h2,fun j u u' x y z=>(h3 j u u' x y z).mono hle⟩
def Sg.add(σ:Sg)(b:Nat)(i:BI):Sg:=fun c=>if c=b then some i else σ c
theorem Sg.add_same(b:Nat)(i:BI):(σ.add b i) b=some i:=by simp[Sg.add]
theorem Sg.qo{b:Nat}{i:BI}(h:σ b=none):σ.le (σ.add b i):=by
 intro c j hc
 unfold Sg.add
 by_cases hcb:c=b
 ·subst hcb;rw[h]at hc;cases hc
 ·rw[if_neg hcb];exact hc
theorem dB.jh(h:dB P σ m w):σ m.n=none:=by
 cases hs:σ m.n with
 |none=>rfl
 |some i=>have:=h.mV _ _ hs;omega
theorem Ev.mL{ob:Ob}{o:Obj}{gr:Option (Nat×Nat×Nat)}(h:dB P σ m w)
  (hh:Holds (σ.add m.n ⟨w.heap.size,gr⟩) ⟨w.heap.size,gr⟩ (w.alloc o) ob):Ev P σ m w (σ.add m.n ⟨w.heap.size,gr⟩) (m.push ob) (w.alloc o):=by
 have hn:=h.jh
 have hle:=Sg.qo (i:=⟨w.heap.size,gr⟩) hn
 have hold:∀B,B < w.heap.size->(w.alloc o).heap[B]?=w.heap[B]?:=fun B hB=>heap_alloc_old w o hB
 have hpn:(m.push ob).n=m.n+1:=rfl
 have hsz:(w.alloc o).heap.size=w.heap.size+1:=by simp
 have hcase:∀b i,(σ.add m.n ⟨w.heap.size,gr⟩) b=some i->(b=m.n/\i=⟨w.heap.size,gr⟩)\/(b≠m.n/\σ b=some i):=by
  intro b i hb
  unfold Sg.add at hb
  by_cases hbn:b=m.n
  ·rw[if_pos hbn]at hb;exact .inl ⟨hbn,by injection hb with hb;exact hb.symm⟩
  ·rw[if_neg hbn]at hb;exact .inr ⟨hbn,hb⟩
 refine⟨hle,⟨?_,?_,?_,?_,?_⟩,Nat.le_refl _,by omega,by omega,?_,?_,fun B hB _=>hold B hB,rfl,rfl,rfl⟩
 ·intro b i hb
  rcases hcase b i hb with⟨rfl,_⟩ |⟨_,hb⟩
  ·omega
  ·have:=h.mV b i hb;omega
 ·intro b i hb
  rw[M.eC]
  rcases hcase b i hb with⟨rfl,rfl⟩ |⟨hne,hb⟩
  ·rw[if_pos rfl];exact hh
  ·rw[if_neg hne];exact(h.obj b i hb).bw hle (hold _ (h.lt b i hb))
 ·intro b i hb
  rcases hcase b i hb with⟨_,rfl⟩ |⟨_,hb⟩
  ·show w.heap.size < _;omega
  ·have:=h.lt b i hb;omega
 ·intro b b' i i' hb hb' hd hd' he
  rw[M.eC]at hd hd'
  rcases hcase b i hb with⟨rfl,rfl⟩ |⟨hne,hb⟩ <;>rcases hcase b' i' hb' with⟨rfl,rfl⟩ |⟨hne',hb'⟩
  ·rfl
  ·have:=h.lt b' i' hb';dsimp only at he;omega
  ·have:=h.lt b i hb;dsimp only at he;omega
  ·rw[if_neg hne]at hd;rw[if_neg hne']at hd';exact h.inj b b' i i' hb hb' hd hd' he
 ·intro g hg
  exact hle g _ (h.iG g hg)
 ·intro b i hb hs
  rcases hcase b i hb with⟨rfl,rfl⟩ |⟨_,hb⟩
  ·exact⟨Nat.le_refl _,.inl (Nat.le_refl _)⟩
  ·rw[hs]at hb;cases hb
 ·intro b _ hb
  rw[M.eC,if_neg (by omega)]
theorem Ev.write{b:Nat}{i:BI}{ob:Ob}(h:dB P σ m w)(hb:σ b=some i)(hd:m.get b≠.dead)(hh:Holds σ i w' ob)
  (hw:∀B,B≠i.bX->w'.heap[B]?=w.heap[B]?) (hs:w'.heap.size=w.heap.size) (ho:w'.os=w.os) (ht:w'.tape=w.tape) (hu:w'.output=w.output):
  Ev P σ m w σ (m.set b ob) w':=by
 have hbn:=M.jB hd
 have hlow:(m.set b ob).low=min m.low b:=rfl
 refine⟨fun _ _ x=>x,⟨h.mV,?_,fun c j hc=>(by rw[hs];exact h.lt c j hc),?_,h.iG⟩,by omega,Nat.le_refl _,by omega,fun c j hc hn=>(by rw[hc]at hn;cases hn),?_,?_,ho,ht,hu⟩
 ·intro c j hc
  rw[M.bH _ _ _ _ hbn]
  by_cases hcb:c=b
  ·subst hcb;rw[hb]at hc;cases hc;rw[if_pos rfl];exact hh
  ·rw[if_neg hcb]
   by_cases hdc:m.get c=.dead
   ·rw[hdc];trivial
   ·exact(h.obj c j hc).bw (fun _ _ x=>x) (hw _ (fun e=>hcb (h.inj c b j i hc hb hdc hd e)))
 ·intro c c' j j' hc hc' hl hl' he
  rw[M.bH _ _ _ _ hbn]at hl hl'
  have live:∀x,(if x=b then ob else m.get x)≠.dead->m.get x≠.dead:=by
   intro x hx
   by_cases hxb:x=b
   ·subst hxb;exact hd
   ·rwa[if_neg hxb]at hx
  exact h.inj c c' j j' hc hc' (live _ hl) (live _ hl') he
 ·intro c hc hcn
  rw[M.bH _ _ _ _ hbn,if_neg (by omega)]
 ·intro B hB hp
  refine hw B (fun e=>?_)
  have:=hp b i hb e.symm
  omega
theorem Ev.MX{b:Nat}{i:BI}{ob:Ob}{gr:Option (Nat×Nat×Nat)}(h:dB P σ m w)(hb:σ b=some i)(hd:m.get b≠.dead)
  (hh:Holds (σ.add m.n ⟨i.bX,gr⟩) ⟨i.bX,gr⟩ w' ob)
  (hw:∀B,B≠i.bX->w'.heap[B]?=w.heap[B]?) (hs:w'.heap.size=w.heap.size) (ho:w'.os=w.os) (ht:w'.tape=w.tape) (hu:w'.output=w.output):
  Ev P σ m w (σ.add m.n ⟨i.bX,gr⟩) ((m.set b .dead).push ob) w':=by
 have hbn:=M.jB hd
 have hn:=h.jh
 have hle:=Sg.qo (i:=⟨i.bX,gr⟩) hn
 have hsn:(m.set b .dead).n=m.n:=rfl
 have hpn:((m.set b .dead).push ob).n=m.n+1:=rfl
 have hlow:((m.set b .dead).push ob).low=min m.low b:=rfl
 have hget:∀c,((m.set b .dead).push ob).get c=if c=m.n then ob else if c=b then .dead else m.get c:=by
  intro c
  rw[M.eC,hsn,M.bH _ _ _ _ hbn]
 have hcase:∀c j,(σ.add m.n ⟨i.bX,gr⟩) c=some j->(c=m.n/\j=⟨i.bX,gr⟩)\/(c≠m.n/\σ c=some j):=by
  intro c j hc
  unfold Sg.add at hc
  by_cases hcn:c=m.n
  ·rw[if_pos hcn]at hc;exact .inl ⟨hcn,by injection hc with hc;exact hc.symm⟩
  ·rw[if_neg hcn]at hc;exact .inr ⟨hcn,hc⟩
 refine⟨hle,⟨?_,?_,?_,?_,?_⟩,by omega,by omega,by omega,?_,?_,?_,ho,ht,hu⟩
 ·intro c j hc
  rcases hcase c j hc with⟨rfl,_⟩ |⟨_,hc⟩
  ·omega
  ·have:=h.mV c j hc;omega
 ·intro c j hc
  rw[hget]
  rcases hcase c j hc with⟨rfl,rfl⟩ |⟨hne,hc⟩
  ·rw[if_pos rfl];exact hh
  ·rw[if_neg hne]
   by_cases hcb:c=b
   ·rw[if_pos hcb];trivial
   ·rw[if_neg hcb]
    by_cases hdc:m.get c=.dead
    ·rw[hdc];trivial
    ·exact(h.obj c j hc).bw hle (hw _ (fun e=>hcb (h.inj c b j i hc hb hdc hd e)))
 ·intro c j hc
  rcases hcase c j hc with⟨_,rfl⟩ |⟨_,hc⟩
  ·have:=h.lt b i hb;rw[hs];exact this
  ·rw[hs];exact h.lt c j hc
 ·intro c c' j j' hc hc' hl hl' he
  rw[hget]at hl hl'
  rcases hcase c j hc with⟨rfl,rfl⟩ |⟨hne,hc⟩ <;>rcases hcase c' j' hc' with⟨rfl,rfl⟩ |⟨hne',hc'⟩
  ·rfl
  ·rw[if_neg hne']at hl'
   by_cases hcb:c'=b
   ·rw[if_pos hcb]at hl';exact absurd rfl hl'
   ·rw[if_neg hcb]at hl';exact absurd (h.inj b c' i j' hb hc' hd hl' he).symm hcb
  ·rw[if_neg hne]at hl
   by_cases hcb:c=b
   ·rw[if_pos hcb]at hl;exact absurd rfl hl
   ·rw[if_neg hcb]at hl;exact absurd (h.inj c b j i hc hb hl hd he) hcb
  ·rw[if_neg hne]at hl;rw[if_neg hne']at hl'
   by_cases hcb:c=b
   ·rw[if_pos hcb]at hl;exact absurd rfl hl
   ·by_cases hcb':c'=b
    ·rw[if_pos hcb']at hl';exact absurd rfl hl'
    ·rw[if_neg hcb]at hl;rw[if_neg hcb']at hl';exact h.inj c c' j j' hc hc' hl hl' he
 ·intro g hg
  exact hle g _ (h.iG g hg)
 ·intro c j hc hns
  rcases hcase c j hc with⟨rfl,rfl⟩ |⟨_,hc⟩
  ·exact⟨Nat.le_refl _,.inr ⟨b,i,hb,rfl,by omega⟩⟩
  ·rw[hns]at hc;cases hc
 ·intro c hc hcn
  rw[hget,if_neg (by omega),if_neg (by omega)]
 ·intro B hB hp
  refine hw B (fun e=>?_)
  have:=hp b i hb e.symm
  omega
theorem dB.of_heap(h:dB P σ m w)(he:w'.heap=w.heap):dB P σ m w':=
 ⟨h.mV,fun b i hb=>(h.obj b i hb).bw (fun _ _ x=>x) (by rw[he]),fun b i hb=>(by rw[he];exact h.lt b i hb),h.inj,h.iG⟩
theorem Ev.of_heap(h:dB P σ m w)(he:w'.heap=w.heap)(ho:w'.os=w.os)(ht:w'.tape=w.tape)(hu:w'.output=w.output):Ev P σ m w σ m w':=
 ⟨fun _ _ x=>x,h.of_heap he,Nat.le_refl _,Nat.le_refl _,(by rw[he];exact Nat.le_refl _),fun b i x y=>(by rw[x]at y;cases y),fun _ _ _=>rfl,fun _ _ _=>(by rw[he]),ho,ht,hu⟩
end
end Go.D
namespace Go.D
open Go
section
variable {E:Env} {P:Program}
structure Y9(P:Program)(t:TypeId)(ti:TI)(i:TypeInfo)(u:TypeDesc):Prop where
 info:P.info? t=some i
 dV:P.underlying t=some u
 d:ti.d=fM P u
 size:ti.size=i.size
 bytes:ti.bytes=i.bytes
 zero:ti.zero=i.zero
 es:ti.es=tK P u
 cmp:ti.cmp=CS P t u
theorem Env.OK.jO(hE:E.OK P){t:TypeId}{ti:TI}(h:E.ty.get t=some ti):∃i u,Y9 P t ti i u:=by
 have h:=hE.ty t ti h
 unfold M8 at h
 cases hi:P.info? t with
 |none=>rw[hi]at h;simp at h
 |some i=>
  cases hu:P.underlying t with
  |none=>rw[hi,hu]at h;simp at h
  |some u=>
   rw[hi,hu]at h
   simp only[Option.bind_eq_bind,Option.bind_some,Option.some.injEq]at h
   subst h
   exact⟨i,u,hi,hu,rfl,rfl,rfl,rfl,rfl,rfl⟩
theorem aJ.eB{σ:Sg}{v:Value}(h:bY v=true):aJ σ v v:=by
 cases v with
 |tuple vs=>
  refine .tuple _ _ rfl fun j u u' a b=>?_
  rw[a]at b;cases b
  exact .ir (List.all_eq_true.1 h u (by simpa using Array.mem_of_getElem? a))
 |_=>exact .ir h
theorem Env.OK.flat(hE:E.OK P){t:TypeId}{ti:TI}{z:Value}(h:E.ty.get t=some ti)(hz:ti.zero=some z):bY z=true:=by
 have hc:=hE.Ah
 unfold Env.Ah at hc
 simp only[Bool.and_eq_true]at hc
 have:=List.all_eq_true.1 hc.1 _ (Tr.get_mem E.ty t 1 0 h)
 simp only[Bool.and_eq_true,hz]at this
 exact this.1
theorem Env.OK.Z4(hE:E.OK P){t:TypeId}{ti:TI}{fs:List Fd}{f:Fd}(h:E.ty.get t=some ti)(hd:ti.d=.struct fs)(hf:f∈fs):∃fi,E.ty.get f.ty=some fi/\fi.size=f.size:=by
 have hc:=hE.Ah
 unfold Env.Ah at hc
 simp only[Bool.and_eq_true]at hc
 have:=List.all_eq_true.1 hc.1 _ (Tr.get_mem E.ty t 1 0 h)
 simp only[Bool.and_eq_true,hd]at this
 have h2:=List.all_eq_true.1 this.2 f hf
 cases hg:E.ty.get f.ty with
 |none=>rw[hg]at h2;simp at h2
 |some fi=>rw[hg]at h2;exact⟨fi,rfl,by simpa using h2⟩
theorem Env.OK.code(hE:E.OK P){f:FuncId}{fn:Func}(h:E.fn.get f=some fn):iq P.globals.size fn=true:=by
 have hc:=hE.Ah
 unfold Env.Ah at hc
 simp only[Bool.and_eq_true]at hc
 have:=List.all_eq_true.1 hc.2.1 _ (Tr.get_mem E.fn f 1 0 h)
 rw[hE.G]at this
 exact this
theorem Env.OK.QH(hE:E.OK P){f:FuncId}{d:OZ}(h:E.df.get f=some d):iq P.globals.size d.fn=true:=by
 have hc:=hE.Ah
 unfold Env.Ah at hc
 simp only[Bool.and_eq_true]at hc
 have:=List.all_eq_true.1 hc.2.2.1 _ (Tr.get_mem E.df f 1 0 h)
 rw[hE.G]at this
 exact this
theorem Env.OK.QI(hE:E.OK P){f:FuncId}{d:LL}(h:E.cl.get f=some d):iq P.globals.size d.fn=true:=by
 have hc:=hE.Ah
 unfold Env.Ah at hc
 simp only[Bool.and_eq_true]at hc
 have:=List.all_eq_true.1 hc.2.2.2 _ (Tr.get_mem E.cl f 1 0 h)
 rw[hE.G]at this
 exact this
theorem mM{u:TypeDesc}(h:fM P u=.bool):u=.bool:=by cases u <;>simp[fM]at h⊢
theorem jy{u:TypeDesc}{k:IntKind}(h:fM P u=.int k):u=.int k:=by cases u <;>simp[fM]at h⊢;exact h
theorem fY{u:TypeDesc}(h:fM P u=.str):u=.string:=by cases u <;>simp[fM]at h⊢
theorem cL{u:TypeDesc}{e:Nat}(h:fM P u=.slice e):u=.slice e:=by cases u <;>simp[fM]at h⊢;exact h
theorem gM{u:TypeDesc}{n e:Nat}(h:fM P u=.array n e):u=.array n e:=by cases u <;>simp[fM]at h⊢;exact h
theorem jx{u:TypeDesc}{k e:Nat}(h:fM P u=.map k e):u=.map k e:=by cases u <;>simp[fM]at h⊢;exact h
theorem qm{u:TypeDesc}(h:fM P u=.func):∃a b c,u=.func a b c:=by cases u <;>simp[fM]at h⊢
def pg(P:Program)(f:Field):Fd:=⟨f.type,f.offset,((P.info? f.type).map (·.size)).getD 0,f.name== "_" ||(P.info? f.type).isNone⟩
theorem ze{u:TypeDesc}{e:Nat}(h:fM P u=.ptr e):u=.pointer e:=by cases u <;>simp[fM]at h⊢;exact h
theorem sT{u:TypeDesc}{b:Bool}(h:fM P u=.iface b):∃ms:Array (String×TypeId),u=.interface ms/\ms.isEmpty=b:=by cases u <;>simp[fM]at h⊢;exact h
theorem eT{u:TypeDesc}{fs:List Fd}(h:fM P u=.struct fs):∃gs:Array Field,u=.struct gs/\fs=gs.toList.map (pg P):=by
 cases u <;>simp[fM]at h
 exact⟨_,rfl,h.symm⟩
theorem pf(u:TypeDesc)(w:World)(t:TypeId)(h:P.underlying t=some u):(isAgg t).run P w=.ok (fM P u).agg w:=by
 unfold isAgg
 rw[Sem.run_bind,run_underlying h,Result.andThen_ok]
 cases u <;>rfl
theorem run_typeInfo{t:TypeId}{i:TypeInfo}(h:P.info? t=some i)(w:World):(typeInfo t).run P w=.ok i w:=by
 simp[typeInfo,program,Sem.run,h]
theorem run_sizeOf{t:TypeId}{i:TypeInfo}(h:P.info? t=some i)(w:World):(sizeOf t).run P w=.ok i.size w:=by
 unfold sizeOf
 rw[Sem.run_bind,run_typeInfo h]
 rfl
theorem cZ{t:TypeId}{i:TypeInfo}{z:Value}(h:P.info? t=some i)(hz:i.zero=some z)(w:World):(zeroValue t).run P w=.ok z w:=by
 unfold zeroValue
 rw[Sem.run_bind,run_typeInfo h,Result.andThen_ok]
 simp[hz]
variable {σ:Sg} {m m':M} {w:World}
theorem dB.cells(h:dB P σ m w){b:Nat}{i:BI}(hb:σ b=some i){c:List Value}{e:TypeId}{g:Option Nat}(hg:m.get b=.cells c e g):
  ∃c':Array Value,w.heap[i.bX]?=some (.cells c' e (0,0))/\c.length<=c'.size/\aT σ c (c'.toList.take c.length)/\OX i c.length c'.size g:=by
 have:=h.obj b i hb
 rw[hg]at this
 exact this
theorem dB.ro(h:dB P σ m w){b:Nat}{i:BI}(hb:σ b=some i){c:List Value}(hg:m.get b=.ro c):
  ∃(c':Array Value) (e':TypeId) (fz:Nat×Nat),w.heap[i.bX]?=some (.cells c' e' fz)/\c.length<=c'.size/\∀(j:Nat) u u',c[j]?=some u->c'[j]?=some u'->one u=true->aJ σ u u':=by
 have:=h.obj b i hb
 rw[hg]at this
 exact this.2
theorem du(b o n:Nat):(⟨b,o,none⟩:Addr).add n=⟨b,o+n,none⟩:=by
 unfold Addr.add;split <;>simp_all
theorem fE(hs:dB P σ m w){a:Addr}{i:BI}(ha:σ a.block=some i){n:Nat}{cs:List Value}(h:loadCells m a n=some cs):
  ∃cs':List Value,(Go.loadCells ⟨i.bX,a.off,none⟩ n).run P w=.ok cs'.toArray w/\aT σ cs cs'/\cs.length=n/\a.spot=none:=by
 unfold loadCells at h
 split at h
 ·rename_i c e g hg
  cases hc:(a.spot.isNone && Nat.ble (a.off+n) c.length)with
  |false=>rw[hc]at h;simp at h
  |true=>
   rw[hc]at h
   simp only[cond_true,Option.some.injEq]at h
   subst h
   simp only[Bool.and_eq_true]at hc
   have hle:=Nat.le_of_ble_eq_true hc.2
   obtain⟨c',h1,h2,h3,_⟩:=hs.cells ha hg
   have hlen:((c.drop a.off).take n).length=n:=by simp;omega
   refine⟨((c'.toList.take c.length).drop a.off).take n,?_,(h3.drop _).take _,hlen,by simpa using hc.1⟩
   have hl:(((c'.toList.take c.length).drop a.off).take n).length=n:=by simp;omega
   have:=run_loadCells_list (P:=P) w ⟨i.bX,a.off,none⟩ (((c'.toList.take c.length).drop a.off).take n) (fun j v hj=>by
    rw[du]
    have hjn:j < n:=by
     have:=(List.getElem?_eq_some_iff.1 hj).1;omega
    rw[List.getElem?_take_of_lt hjn,List.getElem?_drop,List.getElem?_take_of_lt (by omega)]at hj
    simp only[World.cell?,h1]
    simpa using hj)
   rw[hl]at this
   exact this
 ·rename_i c hg
  cases hc:(a.spot.isNone && Nat.ble (a.off+n) c.length && ((c.drop a.off).take n).all one)with
  |false=>rw[hc]at h;simp at h
  |true=>
   rw[hc]at h
   simp only[cond_true,Option.some.injEq]at h
   subst h
   simp only[Bool.and_eq_true]at hc
   have hle:=Nat.le_of_ble_eq_true hc.1.2
   obtain⟨c',e',fz,h1,h2,h3⟩:=hs.ro ha hg
   have hlen:((c.drop a.off).take n).length=n:=by simp;omega
   have hl:((c'.toList.drop a.off).take n).length=n:=by simp;omega
   have hr:aT σ ((c.drop a.off).take n) ((c'.toList.drop a.off).take n):=⟨by rw[hlen,hl],fun j u u' x y=>by
    have hone:=List.all_eq_true.1 hc.2 u (List.mem_of_getElem? x)
    have hjn:j < n:=by
     have:=(List.getElem?_eq_some_iff.1 x).1;omega
    rw[List.getElem?_take_of_lt hjn,List.getElem?_drop]at x y
    exact h3 _ u u' x (by simpa using y) hone⟩
   refine⟨(c'.toList.drop a.off).take n,?_,hr,hlen,by simpa using hc.1.1⟩
   have:=run_loadCells_list (P:=P) w ⟨i.bX,a.off,none⟩ ((c'.toList.drop a.off).take n) (fun j v hj=>by
    rw[du]
    have hjn:j < n:=by
     have:=(List.getElem?_eq_some_iff.1 hj).1;omega
    rw[List.getElem?_take_of_lt hjn,List.getElem?_drop]at hj
    simp only[World.cell?,h1]
    simpa using hj)
   rw[hl]at this
   exact this
 ·cases h
theorem wX(hs:dB P σ m w){a:Addr}{i:BI}(ha:σ a.block=some i){v:Value}(h:cellAt m a=some v):
  ∃v',w.cell? ⟨i.bX,a.off,none⟩=some v'/\aJ σ v v'/\a.spot=none:=by
 unfold cellAt at h
 split at h
 ·rename_i c e g hg
  by_cases hsp:a.spot.isNone=true
  ·rw[if_pos hsp]at h
   obtain⟨c',h1,h2,h3,_⟩:=hs.cells ha hg
   obtain⟨u',hu,hr⟩:=h3.get h
   have hlt:=(List.getElem?_eq_some_iff.1 h).1
   rw[List.getElem?_take_of_lt hlt]at hu
   exact⟨u',by simp only[World.cell?,h1];simpa using hu,hr,by simpa using hsp⟩
  ·rw[if_neg hsp]at h;cases h
 ·rename_i c hg
  by_cases hsp:a.spot.isNone=true
  ·rw[if_pos hsp]at h
   obtain⟨c',e',fz,h1,h2,h3⟩:=hs.ro ha hg
   cases hx:c[a.off]? with
   |none=>rw[hx]at h;cases h
   |some u=>
    rw[hx]at h
    dsimp only at h
    cases hone:one u with
    |false=>rw[hone]at h;cases h
    |true=>
     rw[hone]at h
     simp only[cond_true,Option.some.injEq]at h
     subst h
     have hlt:=(List.getElem?_eq_some_iff.1 hx).1
     have hlt':a.off < c'.size:=by omega
     exact⟨c'[a.off],by simp only[World.cell?,h1];simp[hlt'],h3 _ _ _ hx (Array.getElem?_eq_getElem hlt') hone,by simpa using hsp⟩
  ·rw[if_neg hsp]at h;cases h
 ·cases h
theorem ni(hE:E.OK P)(hs:dB P σ m w){t:TypeId}{a:Addr}{i:BI}(ha:σ a.block=some i){v:Value}(h:loadVar E m t a=some v):
  ∃v',(Go.loadVar t ⟨i.bX,a.off,none⟩).run P w=.ok v' w/\aJ σ v v'/\a.spot=none:=by
 unfold loadVar at h
 split at h
 ·rename_i ti hti
  obtain⟨inf,u,f⟩:=hE.jO hti
  unfold Go.loadVar
  rw[Sem.run_bind,pf u w t f.dV,Result.andThen_ok,<-f.d]
  cases hag:ti.d.agg with
  |true=>
   rw[hag]at h
   simp only[cond_true,Option.map_eq_some_iff]at h
   obtain⟨cs,hcs,rfl⟩:=h
   obtain⟨cs',h1,h2,_,h4⟩:=fE hs ha hcs
   refine⟨.agg cs'.toArray,?_,h2.agg,h4⟩
   simp only[if_true,Sem.run_bind,run_sizeOf f.info,Result.andThen_ok]
   rw[<-f.size,h1]
   rfl
  |false=>
   rw[hag]at h
   simp only[cond_false]at h
   obtain⟨v',h1,h2,h3⟩:=wX hs ha h
   refine⟨v',?_,h2,h3⟩
   simp[h1]
 ·cases h
theorem As{σ:Sg}{c c' vs vs':List Value}{o:Nat}(hl:c.length<=c'.length)(h:aT σ c (c'.take c.length))(hv:aT σ vs vs')(ho:o+vs.length<=c.length):
  aT σ (c.take o++(vs++c.drop (o+vs.length))) ((c'.take o++vs'++c'.drop (o+vs'.length)).take c.length):=by
 have e:(c'.take o++vs'++c'.drop (o+vs'.length)).take c.length=(c'.take c.length).take o++(vs'++(c'.take c.length).drop (o+vs'.length)):=by
  have hlv:=hv.1
  rw[List.append_assoc,List.take_append,List.take_append,List.take_take,List.length_take]
  have h1:min o c'.length=o:=by omega
  have h2:List.take c.length (List.take o c')=List.take o c':=by rw[List.take_take];congr 1;omega
  rw[h1,List.take_of_length_le (l:=vs') (by omega),List.take_take]
  congr 1
  ·congr 1;omega
  ·congr 1
   rw[List.take_drop]
   congr 1
   congr 1;omega
 rw[e,<-hv.1]
 exact(h.take o).append (hv.append (h.drop _))
theorem fc(hs:dB P σ m w){a:Addr}{i:BI}(ha:σ a.block=some i){vs vs':List Value}(hv:aT σ vs vs')(h:storeCells m a vs=some m'):
  ∃w',(Go.storeCells ⟨i.bX,a.off,none⟩ vs').run P w=.ok () w'/\Ev P σ m w σ m' w'/\a.spot=none/\∀B,B≠i.bX->w'.heap[B]?=w.heap[B]?:=by
 unfold storeCells at h
 split at h
 ·rename_i c e g hg
  cases hc:(a.spot.isNone && Nat.ble (a.off+vs.length) c.length && vs.all one)with
  |false=>rw[hc]at h;simp at h
  |true=>
   rw[hc]at h
   simp only[cond_true,Option.some.injEq]at h
   subst h
   simp only[Bool.and_eq_true]at hc
   have hle:=Nat.le_of_ble_eq_true hc.1.2
   obtain⟨c',h1,h2,h3,h4⟩:=hs.cells ha hg
   have hone:=hv.lO hc.2
   have hrun:=run_storeCells_at (P:=P) i.bX a.off e vs' 0 c' w h1 (by rw[<-hv.1];omega) hone
   simp only[Nat.add_zero]at hrun
   have hoth:∀B,B≠i.bX->(w.setRow i.bX (c'.toList.take a.off++vs'++c'.toList.drop (a.off+vs'.length)).toArray).heap[B]?=w.heap[B]?:=by
    intro B hB
    simp only[World.setRow,Array.getElem?_modify]
    rw[if_neg (fun e=>hB e.symm)]
   refine⟨_,hrun,?_,by simpa using hc.1.1,hoth⟩
   have hlen:(c'.toList.take a.off++vs'++c'.toList.drop (a.off+vs'.length)).length=c'.size:=by
    have:=hv.1
    simp;omega
   refine Ev.write hs ha (by rw[hg];simp) ?_ ?_ ?_ rfl rfl rfl
   ·have hlc:(c.take a.off++(vs++c.drop (a.off+vs.length))).length=c.length:=by simp;omega
    refine⟨_,setRow_heap w i.bX c' _ e _ h1,?_,?_,?_⟩
    ·rw[hlc];simp only[List.size_toArray,hlen];exact h2
    ·rw[hlc]
     exact As (by simpa using h2) h3 hv (by omega)
    ·rw[hlc]
     simp only[List.size_toArray,hlen]
     exact h4
   ·exact hoth
   ·simp[World.setRow]
 ·cases h
theorem lH(hE:E.OK P)(hs:dB P σ m w){t:TypeId}{a:Addr}{i:BI}(ha:σ a.block=some i){v v':Value}(hv:aJ σ v v')(h:storeVar E m t a v=some m'):
  ∃w',(Go.storeVar t ⟨i.bX,a.off,none⟩ v').run P w=.ok () w'/\Ev P σ m w σ m' w'/\a.spot=none/\∀B,B≠i.bX->w'.heap[B]?=w.heap[B]?:=by
 unfold storeVar at h
 split at h
 ·rename_i ti hti
  obtain⟨inf,u,f⟩:=hE.jO hti
  have hc:=hv.cells
  cases hsz:Nat.beq (cells v).length ti.size with
  |false=>rw[hsz]at h;simp at h
  |true=>
   rw[hsz]at h
   simp only[cond_true]at h
   have he:=Nat.eq_of_beq_eq_true hsz
   obtain⟨w',h1,h2,h3⟩:=fc hs ha hc h
   refine⟨w',?_,h2,h3⟩
   unfold Go.storeVar
   rw[Sem.run_bind,run_sizeOf f.info,Result.andThen_ok]
   have hl:v'.cells.size=inf.size:=by rw[<-f.size,<-he,hc.1];simp
   simp[hl,h1]
 ·cases h
end
end Go.D
