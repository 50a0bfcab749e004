/- THE ABSTRACT RUN 'D': a computable run of the model's code over a store of its own, in which every choice that the model draws (the order inside a statement, th -/
import Derived.RangeFuncIn
import Derived.OrdersIn
import Derived.RangeFuncLeaves
import Derived.WalkKit
import Derived.ChangeKeysEq
import Derived.Laws.Append
import Derived.Laws.AppendOwn
import Derived.Laws.BytesString
import Derived.MapKept
namespace Go.D
open Go
inductive Tr (α:Type) where
 |e
 |n (v:Option α) (l r:Tr α)
 deriving Inhabited
noncomputable def Tr.get{α:Type}(t:Tr α):Nat->Option α:=
 Tr.rec (motive:=fun _=>Nat->Option α) (fun _=>none)
  (fun v _ _ gl gr i=>bif Nat.beq i 0 then v else bif Nat.beq ((i-1)%2) 0 then gl ((i-1)/2)else gr ((i-1)/2)) t
theorem Tr.sB{α:Type}(i:Nat):(Tr.e:Tr α).get i=none:=rfl
theorem Tr.kn{α:Type}(v:Option α)(l r:Tr α):(Tr.n v l r).get 0=v:=rfl
theorem Tr.fX{α:Type}(v:Option α)(l r:Tr α)(i:Nat):(Tr.n v l r).get (i+1)=bif Nat.beq (i%2) 0 then l.get (i/2)else r.get (i/2):=rfl
def Tr.single{α:Type}(x:α):Nat->Nat->Tr α
 |0,_=> .n (some x) .e .e
 |_+1,0=> .n (some x) .e .e
 |f+1,i+1=>bif Nat.beq (i%2) 0 then .n none (single x f (i/2)) .e else .n none .e (single x f (i/2))
noncomputable def Tr.set{α:Type}(t:Tr α):Nat->α->Tr α:=
 Tr.rec (motive:=fun _=>Nat->α->Tr α) (fun i x=>Tr.single x i i)
  (fun v l r sl sr i x=>bif Nat.beq i 0 then .n (some x) l r else bif Nat.beq ((i-1)%2) 0 then .n v (sl ((i-1)/2) x) r else .n v l (sr ((i-1)/2) x)) t
theorem Tr.wZ{α:Type}(i:Nat)(x:α):(Tr.e:Tr α).set i x=Tr.single x i i:=rfl
theorem Tr.lJ{α:Type}(v:Option α)(l r:Tr α)(x:α):(Tr.n v l r).set 0 x=.n (some x) l r:=rfl
theorem Tr.fS{α:Type}(v:Option α)(l r:Tr α)(i:Nat)(x:α):(Tr.n v l r).set (i+1) x=bif Nat.beq (i%2) 0 then .n v (l.set (i/2) x) r else .n v l (r.set (i/2) x):=rfl
structure Fd where
 ty:Nat
 off:Nat
 size:Nat
 blank:Bool
inductive Kd where
 |b |i |s
inductive TD where
 |bool
 |int (k:IntKind)
 |str
 |ptr (e:Nat)
 |slice (e:Nat)
 |array (n e:Nat)
 |map (k e:Nat)
 |struct (fs:List Fd)
 |func
 |iface (empty:Bool)
 |other
structure TI where
 d:TD
 size:Nat
 bytes:Nat
 es:Nat
 zero:Option Value
 cmp:Option (List Kd)
structure Nl where
 fn:Func
 pre:List Code
 id:Nat
 mf:Oper
 de:Oper
 post:Code
structure JZ where
 fn:Func
 id:Nat
 ops:Array Oper
 rest:Code
def jo:List Code->Code->Code
 |[],c=>c
 |a::as,c=> .seq a (jo as c)
structure Env where
 ty:Tr TI
 fn:Tr Func
 G:Nat
 df:Tr Nl
 cl:Tr JZ
def TD.agg:TD->Bool
 |.struct _ |.array _ _=>true
 |_=>false
def fI(P:Program):TypeDesc->TD
 |.bool=> .bool
 |.int k=> .int k
 |.string=> .str
 |.pointer e=> .ptr e
 |.slice e=> .slice e
 |.array n e=> .array n e
 |.map k e=> .map k e
 |.struct fs=> .struct (fs.toList.map fun f=>⟨f.type,f.offset,((P.info? f.type).map (·.size)).getD 0,f.name== "_" ||(P.info? f.type).isNone⟩)
 |.func _ _ _=> .func
 |.interface ms=> .iface ms.isEmpty
 |_=> .other
def kinds(g:TypeId->Option (List Kd)):List Field->Nat->Option (List Kd)
 |[],_=>some []
 |f::fs,off=>if f.name= "_" then none else if f.offset=off then
   match g f.type with
   |some ks=>match kinds g fs (off+ks.length)with
    |some r=>some (ks++r)
    |none=>none
   |none=>none
  else none
def kW(ks:List Kd):Nat->List Kd
 |0=> []
 |n+1=>ks++kW ks n
def sized(P:Program)(t:TypeId)(r:Option (List Kd)):Option (List Kd):=
 match r,P.info? t with
 |some ks,some i=>if ks.length=i.size then some ks else none
 |_,_=>none
def jE(P:Program):Nat->TypeId->Option (List Kd)
 |0,_=>none
 |d+1,t=>sized P t (match P.underlying t with
  |some .bool=>some [.b]
  |some (.int _)=>some [.i]
  |some .string=>some [.s]
  |some (.struct fs)=>if P.stoodInHeld t then none else kinds (jE P d) fs.toList 0
  |some (.array n e)=>match jE P d e with
   |some ks=>if n*ks.length<=64 then some (kW ks n)else none
   |none=>none
  |_=>none)
def sG(P:Program):TypeDesc->Nat
 |.slice e |.array _ e=>((P.info? e).map (·.size)).getD 0
 |_=>0
def Ce(P:Program)(t:TypeId):TypeDesc->Option (List Kd)
 |.struct _ |.array _ _=>if P.eqGuardType P.depth t then none else jE P 12 t
 |_=>none
def Lz(P:Program)(t:TypeId):Option TI:=do
 let i<-P.info? t
 let u<-P.underlying t
 some {d:=fI P u,size:=i.size,bytes:=i.bytes,es:=sG P u,zero:=i.zero,cmp:=Ce P t u}
inductive Ex where
 |normal
 |exit (id:Nat)
 |ret
 deriving DecidableEq,Inhabited
structure sZ where
 T:Tr Value
 ps:Array Tmp
 assign:Code
 body:Code
 st:LoopState
 ov:Option Ex
 G:Nat
 deriving Inhabited
inductive Ob where
 |dead
 |cells (c:List Value) (e:TypeId) (g:Option Nat)
 |map (es:List MapEntry) (clock:Nat)
 |loop (r:sZ)
 |ro (c:List Value)
 deriving Inhabited
structure M where
 st:Tr Ob
 n:Nat
 low:Nat
 deriving Inhabited
noncomputable def M.get(m:M)(b:Nat):Ob:=bif Nat.blt b m.n then(m.st.get b).getD .dead else .dead
noncomputable def M.push(m:M)(o:Ob):M:={m with st:=m.st.set m.n o,n:=m.n+1}
noncomputable def M.set(m:M)(b:Nat)(o:Ob):M:={m with st:=m.st.set b o,low:=min m.low b}
def bP:Value->Bool
 |.bool _ |.int _ _ |.float _ _ |.complex _ _ _ |.string _ |.nilFunc |.nilIface |.pointer none |.map none |.chan none |.slice none 0 0=>true
 |.func (.func _) a b=>a.toList.isEmpty && b.toList.isEmpty
 |.iface _ (.agg cs)=>cs.toList.isEmpty
 |_=>false
def eV:Value->Bool
 |.agg cs=>cs.toList.all bP
 |v=>bP v
def bD:Value->Bool
 |.tuple vs=>vs.toList.all eV
 |v=>eV v
def Tr.mP{α:Type}:Tr α->Nat->Nat->List (Nat×α)
 |.e,_,_=> []
 |.n v l r,a,b=>(match v with |some x=> [(b,x)] |none=> [])++(l.mP (2*a) (a+b)++r.mP (2*a) (2*a+b))
def nD(n G:Nat):Operand->Bool
 |.tmp t=>Nat.blt t n
 |.const v=>eV v
 |.global g=>Nat.blt g G
 |.func _=>true
def fG(n G:Nat)(o:Oper):Bool:=o.op.operands.toList.all (nD n G) && (match o.dst with |some d=>Nat.blt d n |none=>true)
def gT(ops:Array Oper)(o:Oper):List Tmp:=
 o.dst.toList++(o.op.operands.toList.filterMap (fun |.tmp t=>some t |_=>none)++(match o.guard with |some (j,_)=>((ops[j]?).bind (·.dst)).toList |none=> []))
def rV(ops:Array Oper):Bool:=
 let b:=Region.before ops
 (ops.toList.zipIdx.all fun(o,j)=>o.after.toList.all (fun e=> !Region.binds .any e ||Nat.blt e.on j) &&
  ops.toList.zipIdx.all fun(o',i)=> !(Nat.blt i j) ||(b.getD j 0).testBit i ||
   ((match o.dst with |some d=> !(gT ops o').contains d |none=>true) && (match o'.dst with |some d=> !(gT ops o).contains d |none=>true)))
def jZ:Code->Bool
 |.seq a b=>jZ a && jZ b
 |.cond _ x y=>jZ x && jZ y
 |.block _ c |.loop c |.scope c=>jZ c
 |.rangeFunc ..=>false
 |_=>true
def dh(n G:Nat):Code->Bool
 |.region _ ops d=>ops.toList.all (fG n G) && (!d ||rV ops)
 |.seq a b=>dh n G a && dh n G b
 |.cond c x y=>nD n G c && (dh n G x && dh n G y)
 |.block _ c |.loop c |.scope c=>dh n G c
 |.rangeFunc f ps a b=>nD n G f && (ps.toList.all (Nat.blt · n) && (dh n G a && dh n G b))
 |_=>true
def iP(G:Nat)(fn:Func):Bool:=
 (match fn.body with |some c=>dh fn.ntmps G c |none=>true) && (fn.name != "runtime.NumGoroutine" &&
 fn.results.toList.all fun |.tmp t=>Nat.blt t fn.ntmps |.cell a _=>Nat.blt a fn.ntmps)
noncomputable def Env.zw(E:Env):Bool:=
 ((E.ty.mP 1 0).all fun p=>(match p.2.zero with |some z=>bD z |none=>true) &&
  (match p.2.d with |.struct fs=>fs.all (fun f=>match E.ty.get f.ty with |some fi=>fi.size==f.size |none=>false) |_=>true)) &&
 ((E.fn.mP 1 0).all (fun p=>iP E.G p.2) && ((E.df.mP 1 0).all (fun p=>iP E.G p.2.fn) && (E.cl.mP 1 0).all fun p=>iP E.G p.2.fn))
def tI:Nat:=77
structure Env.OK(E:Env)(P:Program):Prop where
 st:E.fn.get tI=none/\E.df.get tI=none
 ty:∀t ti,E.ty.get t=some ti->Lz P t=some ti
 fn:∀f fn,E.fn.get f=some fn->P.funcs[f]?=some fn
 G:E.G=P.globals.size
 df:∀f d,E.df.get f=some d->P.funcs[f]?=some d.fn/\d.fn.body=some (jo d.pre (.seq (.region d.id #[d.mf,d.de] false) d.post))
 cl:∀f d,E.cl.get f=some d->P.funcs[f]?=some d.fn/\d.fn.body=some (.seq (.region d.id d.ops false) d.rest)
 zw:E.zw=true
 mixed:P.follows .mixedOrders=true
def one:Value->Bool
 |.agg _ |.tuple _=>false
 |_=>true
def cells:Value->List Value
 |.agg cs=>cs.toList
 |v=> [v]
noncomputable section
variable (E:Env)
def fQ(t:TypeId):Option Value:=(E.ty.get t).bind (·.zero)
def cellAt(m:M)(a:Addr):Option Value:=
 match m.get a.block with
 |.cells c _ _=>if a.spot.isNone then c[a.off]? else none
 |.ro c=>if a.spot.isNone then(match c[a.off]? with |some v=>bif one v then some v else none |none=>none)else none
 |_=>none
def loadCells(m:M)(a:Addr)(n:Nat):Option (List Value):=
 match m.get a.block with
 |.cells c _ _=>bif a.spot.isNone && Nat.ble (a.off+n) c.length then some ((c.drop a.off).take n)else none
 |.ro c=>bif a.spot.isNone && Nat.ble (a.off+n) c.length && ((c.drop a.off).take n).all one then some ((c.drop a.off).take n)else none
 |_=>none
def storeCells(m:M)(a:Addr)(vs:List Value):Option M:=
 match m.get a.block with
 |.cells c e g=>
  bif a.spot.isNone && Nat.ble (a.off+vs.length) c.length && vs.all one then
   some (m.set a.block (.cells (c.take a.off++(vs++c.drop (a.off+vs.length))) e g))
  else none
 |_=>none
def loadVar(m:M)(t:TypeId)(a:Addr):Option Value:=
 match E.ty.get t with
 |some ti=>bif ti.d.agg then(loadCells m a ti.size).map (fun cs=> .agg cs.toArray)else cellAt m a
 |none=>none
def storeVar(m:M)(t:TypeId)(a:Addr)(v:Value):Option M:=
 match E.ty.get t with
 |some ti=>bif Nat.beq (cells v).length ti.size then storeCells m a (cells v)else none
 |none=>none
def newVar(m:M)(t:TypeId)(v:Value):Value×M:=(.pointer (some ⟨m.n,0,none⟩),m.push (.cells (cells v) t none))
def part(t:TypeId)(cs:List Value)(off:Nat):Option Value:=
 match E.ty.get t with
 |some ti=>bif ti.d.agg then(bif Nat.ble (off+ti.size) cs.length then some (.agg ((cs.drop off).take ti.size).toArray)else none)else cs[off]?
 |none=>none
def BY:Kd->Value->Value->Option Bool
 |.b,.bool a,.bool b=>some (a==b)
 |.i,.int k a,.int k' b=>if k=k' then some (a==b)else none
 |.s,.string a,.string b=>some (a==b)
 |_,_,_=>none
def bR:List Kd->List Value->List Value->Option Bool
 |[],[],[]=>some true
 |k::ks,a::x,b::y=>
  match BY k a b,bR ks x y with
  |some c,some r=>some (c && r)
  |_,_=>none
 |_,_,_=>none
def eq?(t:TypeId)(x y:Value):Option Bool:=
 match E.ty.get t with
 |none=>none
 |some ti=>
  match ti.d,x,y with
  |.bool,.bool a,.bool b=>some (a==b)
  |.int _,.int k a,.int k' b=>if k=k' then some (a==b)else none
  |.str,.string a,.string b=>some (a==b)
  |.struct _,.agg xs,.agg ys=>match ti.cmp with |some ks=>bR ks xs.toList ys.toList |none=>none
  |.array _ _,.agg xs,.agg ys=>match ti.cmp with |some ks=>bR ks xs.toList ys.toList |none=>none
  |.slice _,.slice none _ _,.slice b _ _=>some b.isNone
  |.slice _,.slice (some _) _ _,.slice none _ _=>some false
  |.map _ _,.map none,.map b=>some b.isNone
  |.map _ _,.map (some _),.map none=>some false
  |.func,.nilFunc,.nilFunc=>some true
  |.func,.nilFunc,.func _ _ _=>some false
  |.func,.func _ _ _,.nilFunc=>some false
  |.ptr _,.pointer none,.pointer b=>some b.isNone
  |.ptr _,.pointer (some _),.pointer none=>some false
  |.iface true,.nilIface,.nilIface=>some true
  |_,_,_=>none
def gg(op:BinOp)(k:IntKind)(a b:Int):Option Value:=
 match op with
 |.add=>some (.int k (k.wrap (a+b)))
 |.sub=>some (.int k (k.wrap (a-b)))
 |.mul=>some (.int k (k.wrap (a*b)))
 |.quo=>if b=0 then none else some (.int k (k.wrap (a.tdiv b)))
 |.rem=>if b=0 then none else some (.int k (a.tmod b))
 |.and=>some (.int k (k.wrap (BitVec.ofInt k.bits a &&& BitVec.ofInt k.bits b).toNat))
 |.or=>some (.int k (k.wrap (BitVec.ofInt k.bits a |||BitVec.ofInt k.bits b).toNat))
 |.xor=>some (.int k (k.wrap (BitVec.ofInt k.bits a ^^^ BitVec.ofInt k.bits b).toNat))
 |.andNot=>some (.int k (k.wrap (BitVec.ofInt k.bits a &&& ~~~(BitVec.ofInt k.bits b)).toNat))
 |.eql=>some (.bool (a==b))
 |.neq=>some (.bool (a !=b))
 |.lss=>some (.bool (a < b))
 |.leq=>some (.bool (a<=b))
 |.gtr=>some (.bool (a >b))
 |.geq=>some (.bool (a>=b))
 |_=>none
def Ba(op:BinOp)(a b:ByteArray):Option Value:=
 match op with
 |.add=>if((a.size+b.size:Nat):Int) >IntKind.i64.max then none else some (.string (a++b))
 |.eql=>some (.bool (a.toList==b.toList))
 |.neq=>some (.bool !(a.toList==b.toList))
 |.lss=>some (.bool (Op.bytesLess a.toList b.toList))
 |_=>none
def aq(op:BinOp)(t:TypeId)(x y:Value):Option Value:=
 match op,x,y with
 |.shl,.int k a,.int _ b=>if b < 0 then none else some (.int k (k.wrap (a*2 ^ (min b.toNat k.bits))))
 |.shr,.int k a,.int _ b=>if b < 0 then none else some (.int k (a.fdiv (2 ^ (min b.toNat k.bits))))
 |op,.int k a,.int k' b=>if k=k' then gg op k a b else none
 |op,.string a,.string b=>Ba op a b
 |.eql,x,y=>(eq? E t x y).map .bool
 |.neq,x,y=>(eq? E t x y).map (fun b=> .bool !b)
 |_,_,_=>none
def fK(op:UnOp)(x:Value):Option Value:=
 match op,x with
 |.neg,.int k n=>some (.int k (k.wrap (0-n)))
 |.not,.bool b=>some (.bool !b)
 |_,_=>none
def Ia(src dst:TypeId)(x:Value):Option Value:=
 match E.ty.get src,E.ty.get dst,x with
 |some _,some ti,.int _ n=>match ti.d with |.int k=>some (.int k (k.wrap n)) |_=>none
 |some _,some ti,.string s=>match ti.d with |.str=>some (.string s) |_=>none
 |_,_,_=>none
def fill(place:Nat->Option (Nat×Nat))(cs:List Value):List (Nat×Value)->Option (List Value)
 |[]=>some cs
 |(i,v)::rest=>
  match place i with
  |none=>none
  |some (off,size)=>
   bif Nat.beq (cells v).length size && Nat.ble (off+size) cs.length then fill place (cs.take off++(cells v++cs.drop (off+size))) rest else none
def aO(t:TypeId)(parts:List (Nat×Value)):Option Value:=
 match E.ty.get t with
 |none=>none
 |some ti=>
  match ti.zero,ti.d with
  |some z,.struct fs=>(fill (fun i=>(fs[i]?).map fun f=>(f.off,f.size)) (cells z) parts).map fun cs=> .agg cs.toArray
  |some z,.array _ _=>bif Nat.beq ti.es 0 then none else(fill (fun i=>some (i*ti.es,ti.es)) (cells z) parts).map fun cs=> .agg cs.toArray
  |_,_=>none
def fJ(z:List Value):Nat->List Value
 |0=> []
 |n+1=>z++fJ z n
def az(m:M)(t:TypeId)(len:Nat)(parts:List (Nat×Value)):Option (Value×M):=
 match E.ty.get t with
 |none=>none
 |some ti=>
  match ti.d with
  |.slice e=>
   match fQ E e with
   |none=>none
   |some z=>
    bif Nat.beq (cells z).length ti.es && Nat.ble (len*ti.es) 1048576 then
     (fill (fun i=>some (i*ti.es,ti.es)) (fJ (cells z) len) parts).map fun cs=>(.slice (some ⟨m.n,0,none⟩) len len,m.push (.cells cs e none))
    else none
  |_=>none
def dK(m:M)(t:TypeId)(l c:Value):Option (Value×M):=
 match E.ty.get t with
 |none=>none
 |some ti=>
  match ti.d,l,c with
  |.slice e,.int _ l,.int _ c=>
   match E.ty.get e with
   |none=>none
   |some ei=>
    match ei.zero with
    |none=>none
    |some z=>
     if 0<=l/\l<=c/\c<=1048576/\ei.bytes<=65536/\(cells z).length=ei.size then
      some (.slice (some ⟨m.n,0,none⟩) l.toNat c.toNat,m.push (.cells (fJ (cells z) c.toNat) e none))
     else none
  |_,_,_=>none
def ae(s:TypeId)(x:Value)(i:Nat):Option Value:=
 match E.ty.get s,x with
 |some ti,.pointer (some a)=>
  match ti.d with
  |.struct fs=>match fs[i]? with
   |some f=>bif Nat.beq f.size 0 then none else some (.pointer (some (a.add f.off)))
   |none=>none
  |_=>none
 |_,_=>none
def vS(t:TypeId)(x:Value)(i:Nat):Option Value:=
 match E.ty.get t,x with
 |some ti,.agg cs=>
  match ti.d with
  |.struct fs=>match fs[i]? with
   |some f=>part E f.ty cs.toList f.off
   |none=>none
  |_=>none
 |_,_=>none
def ai(t:TypeId)(x ix:Value):Option Value:=
 match E.ty.get t with
 |none=>none
 |some ti=>
  match ti.d,x,ix with
  |.slice _,.slice (some a) n _,.int _ i=>if 0<=i/\i < n/\0 < ti.es then some (.pointer (some (a.add (i.toNat*ti.es))))else none
  |.array n _,.pointer (some a),.int _ i=>if 0<=i/\i < n/\0 < ti.es then some (.pointer (some (a.add (i.toNat*ti.es))))else none
  |_,_,_=>none
def index?(t:TypeId)(x ix:Value):Option Value:=
 match E.ty.get t with
 |none=>none
 |some ti=>
  match ti.d,x,ix with
  |.array n e,.agg cs,.int _ i=>if 0<=i/\i < n then part E e cs.toList (i.toNat*ti.es)else none
  |.str,.string s,.int _ i=>if 0<=i then(s[i.toNat]?).map (fun b=> .int .u8 b.toNat)else none
  |_,_,_=>none
def nP(x:Value)(y:Nat):Option Nat:=
 match x with
 |.int _ i=>if 0<=i/\i<=y then some i.toNat else none
 |_=>none
def cE(len cap:Nat)(lo hi mx:Option Value):Option (Nat×Nat×Nat):=
 match(match mx with |some v=>nP v cap |none=>some cap)with
 |none=>none
 |some m=>
  match(match hi,mx with |some v,_=>nP v m |none,none=>some len |none,some _=>none)with
  |none=>none
  |some h=>
   match(match lo with |some v=>nP v h |none=>some 0)with
   |none=>none
   |some l=>some (l,h,m)
def lI(m:M)(a:Addr):Bool:=match m.get a.block with |.cells _ _ none=>false |_=>true
def slice?(m:M)(t:TypeId)(x:Value)(lo hi mx:Option Value):Option Value:=
 match E.ty.get t with
 |none=>none
 |some ti=>
  match ti.d,x with
  |.str,.string s=>
   match mx,cE s.size s.size lo hi none with
   |none,some (l,h,_)=>some (.string (s.extract l h))
   |_,_=>none
  |.slice _,.slice none 0 0=>
   match cE 0 0 lo hi mx with
   |some _=>bif Nat.beq ti.es 0 then none else some (.slice none 0 0)
   |none=>none
  |.slice _,.slice (some a) n c=>
   match cE n c lo hi mx,m.get a.block with
   |some (l,h,k),.cells cs _ g=>
    bif Nat.beq ti.es 0 || !(Nat.ble n c)then none
    else match g with
     |none=>some (.slice (some (bif Nat.beq k l then a else a.add (l*ti.es))) (h-l) (k-l))
     |some k0=>
      bif Nat.beq k0 ti.es then
       some (.slice (some (bif Nat.beq k l && !(mx.isNone && Nat.beq (a.off+c*ti.es) cs.length)then a else a.add (l*ti.es))) (h-l) (k-l))
      else none
   |some (l,h,k),.ro _=>
    bif Nat.beq ti.es 0 || !(Nat.ble n c)then none else some (.slice (some (bif Nat.beq k l then a else a.add (l*ti.es))) (h-l) (k-l))
   |_,_=>none
  |.array n _,.pointer (some a)=>
   match cE n n lo hi mx with
   |some (l,h,k)=>bif lI m a ||Nat.beq ti.es 0 then none else some (.slice (some (bif Nat.beq k l then a else a.add (l*ti.es))) (h-l) (k-l))
   |none=>none
  |_,_=>none
def nF(m:M)(t:TypeId)(x:Value):Option Value:=
 match E.ty.get t with
 |none=>none
 |some ti=>
  match ti.d,x with
  |.str,.string s=>some (.int .i64 s.size)
  |.array n _,_=>some (.int .i64 n)
  |.slice _,.slice _ n _=>some (.int .i64 n)
  |.map _ _,.map none=>some (.int .i64 0)
  |.map _ _,.map (some r)=>match m.get r with |.map es _=>some (.int .i64 es.length) |_=>none
  |_,_=>none
def yX(f:Int->Int->Int)(k:IntKind)(x:Int):List Value->Option Value
 |[]=>some (.int k x)
 |.int _ y::rest=>yX f k (f x y) rest
 |_=>none
def db(f:Int->Int->Int):List Value->Option Value
 |.int k x::rest=>yX f k x rest
 |_=>none
def first?(m:M)(s n:Nat)(x:Value):Option (List Value):=
 match x with
 |.slice (some a) _ _=>bif Nat.beq n 0 then some []else loadCells m a (n*s)
 |.slice none _ _=>some []
 |.string b=>some ((b.extract 0 n).data.toList.map fun b=> .int .u8 b.toNat)
 |_=>none
def jP:Value->Option Nat
 |.slice _ n _=>some n
 |.string s=>some s.size
 |_=>none
def iH(m:M)(e k:Nat)(base:Option Addr)(sl sc need:Nat)(news:List Value):Option (Value×M):=
 match base with
 |none=>bif Nat.beq sl 0 && Nat.beq sc 0 then some (.slice (some ⟨m.n,0,none⟩) need need,m.push (.cells news e (some k)))else none
 |some a=>
  match m.get a.block,(bif Nat.beq sl 0 then some []else loadCells m a (sl*k))with
  |.cells c te g,some eO=>
   bif g.isNone ||(g==some k && Nat.blt (a.off+sc*k) c.length)then
    some (.slice (some ⟨m.n,0,none⟩) need need,m.push (.cells (eO++news) e (some k)))
   else bif g==some k && Nat.beq a.off 0 && a.spot.isNone && Nat.beq (sl*k) c.length && Nat.beq sc sl && Nat.beq te e then
    some (.slice (some ⟨m.n,0,none⟩) need need,(m.set a.block .dead).push (.cells (eO++news) e (some k)))
   else none
  |_,_=>none
def ff(o:Option Value)(n:Nat):Bool:=match o with |some z=>Nat.beq (cells z).length n |none=>false
def da(m:M)(t u:TypeId)(s x:Value):Option (Value×M):=
 match E.ty.get t,E.ty.get u,s,jP x with
 |some ti,some ui,.slice base sl sc,some n=>
  match ti.d,ui.d with
  |_,.int _=>none
  |.slice e,_=>
   match E.ty.get e,first? m ti.es n x with
   |some ei,some news=>
    bif Nat.beq ti.es 0 ||Nat.blt 65536 ei.bytes || !news.all one ||Nat.blt 268435456 (sl+n) || !Nat.beq news.length (n*ti.es) || !ff ei.zero ti.es then none
    else bif Nat.ble (sl+n) sc then
     match base with
     |some a=>(bif Nat.beq n 0 then some m else storeCells m (a.add (sl*ti.es)) news).map fun m=>(.slice (some a) (sl+n) sc,m)
     |none=>bif Nat.beq n 0 then some (.slice none sl sc,m)else none
    else iH m e ti.es base sl sc (sl+n) news
   |_,_=>none
  |_,_=>none
 |_,_,_,_=>none
def sO(m:M)(t:TypeId)(d x:Value):Option (Value×M):=
 match E.ty.get t,d,jP x with
 |some ti,.slice base dl _,some xl=>
  match ti.d,first? m ti.es (min xl dl) x with
  |.slice _,some cs=>
   bif Nat.beq ti.es 0 then none else
   match base with
   |some a=>(bif Nat.beq (min xl dl) 0 then some m else storeCells m a cs).map fun m=>(.int .i64 (min xl dl:Nat),m)
   |none=>some (.int .i64 (min xl dl:Nat),m)
  |_,_=>none
 |_,_,_=>none
def nL(m:M)(t:TypeId)(x:Value):Option (Value×M):=
 match E.ty.get t,x with
 |some _,.slice none _ _=>some (.tuple #[],m)
 |some ti,.slice (some a) n _=>
  bif Nat.beq n 0 then some (.tuple #[],m)else
  match ti.d with
  |.slice e=>match fQ E e with
   |some z=>(storeCells m a (fJ (cells z) n)).map fun m=>(.tuple #[],m)
   |none=>none
  |_=>none
 |_,_=>none
def scalar(t:TypeId):Bool:=match E.ty.get t with |some fi=>(match fi.d with |.bool |.int _ |.str=>true |_=>false) |none=>false
def keyed(kt:TypeId)(k:Value):Bool:=
 match E.ty.get kt with
 |some ti=>match ti.d,k with
  |.bool,.bool _ |.int _,.int _ _ |.str,.string _=>true
  |.struct fs,.agg cs=>ti.cmp.isSome && cs.toList.all bP && fs.all (fun f=> !f.blank && Nat.blt f.off cs.toList.length && scalar E f.ty)
  |_,_=>false
 |none=>false
def findKey(kt:TypeId)(k:Value):List MapEntry->Nat->Option (Option (Nat×Value))
 |[],_=>some none
 |e::es,i=>
  match eq? E kt k e.key with
  |some true=>some (some (i,e.val))
  |some false=>findKey kt k es (i+1)
  |none=>none
def dL(m:M)(t:TypeId)(x k:Value)(ok:Bool):Option Value:=
 match E.ty.get t with
 |none=>none
 |some ti=>
  match ti.d with
  |.map kt et=>
   match(match x with |.map none=>some [] |.map (some r)=>(match m.get r with |.map es _=>some es |_=>none) |_=>none)with
   |none=>none
   |some es=>
    bif keyed E kt k then
     match findKey E kt k es 0 with
     |some (some (_,v))=>some (bif ok then .tuple #[v,.bool true]else v)
     |some none=>(fQ E et).map fun z=>bif ok then .tuple #[z,.bool false]else z
     |none=>none
    else none
  |_=>none
def ew(m:M)(t:TypeId)(x k v:Value):Option M:=
 match E.ty.get t,x with
 |some ti,.map (some r)=>
  match ti.d,m.get r with
  |.map kt _,.map es clock=>
   bif keyed E kt k then
    match findKey E kt k es 0 with
    |some (some (i,_))=>some (m.set r (.map (es.modify i fun e=>{e with key:=k,val:=v}) clock))
    |some none=>some (m.set r (.map (es++ [{key:=k,val:=v,born:=clock}]) (clock+1)))
    |none=>none
   else none
  |_,_=>none
 |_,_=>none
def dF(m:M)(t:TypeId)(x k:Value):Option (Value×M):=
 match E.ty.get t,x with
 |some ti,.map (some r)=>
  match ti.d,m.get r with
  |.map kt et,.map es clock=>
   bif keyed E kt k then
    match findKey E kt k es 0 with
    |some (some (i,v))=>some (.tuple #[v,.int .i64 (((es[i]?).map (·.born)).getD 0)],m.set r (.map (es.modify i fun e=>{e with key:=k}) clock))
    |some none=>(fQ E et).map fun z=>(.tuple #[z,.int .i64 clock],m.set r (.map (es++ [{key:=k,val:=z,born:=clock}]) (clock+1)))
    |none=>none
   else none
  |_,_=>none
 |_,_=>none
def fA(b:Int):List MapEntry->Nat->Option Nat
 |[],_=>none
 |e::es,i=>bif decide ((e.born:Int)=b)then some i else fA b es (i+1)
def cD(m:M)(x s v:Value):Option M:=
 match x,s with
 |.map (some r),.int _ b=>
  match m.get r with
  |.map es clock=>match fA b es 0 with
   |some i=>some (m.set r (.map (es.modify i fun e=>{e with val:=v}) clock))
   |none=>none
  |_=>none
 |_,_=>none
def bytesOf:List Value->Option (List Int)
 |[]=>some []
 |.int .u8 n::r=>match bytesOf r with |some ns=>some (n::ns) |none=>none
 |_=>none
def AN(m:M)(src dst:TypeId)(x:Value):Option Value:=
 match E.ty.get src,E.ty.get dst with
 |some ti,some tj=>
  match ti.d,tj.d,x with
  |.slice e,.str,.slice b n _=>
   match E.ty.get e with
   |some te=>match te.d,b with
    |.int .u8,none=>some (.string .empty)
    |.int .u8,some a=>bif Nat.beq n 0 then none else match loadCells m a n with
     |some cs=>match bytesOf cs with
      |some ns=>some (.string (ns.foldl (fun r n=>r.push (UInt8.ofNat n.toNat)) ByteArray.empty))
      |none=>none
     |none=>none
    |_,_=>none
   |none=>none
  |_,_,_=>none
 |_,_=>none
def tb(m:M)(s d:TypeId)(x:Value):Option Value:=match Ia E s d x with |some v=>some v |none=>AN E m s d x
end
end Go.D
namespace Go.D
open Go
structure Fr where
 T:Tr Value
 m:M
 deriving Inhabited
noncomputable def gk(T:Tr Value)(t:Nat):Value:=(T.get t).getD undef
noncomputable def ev(T:Tr Value):Operand->Value
 |.tmp t=>gk T t
 |.const v=>v
 |.global g=> .pointer (some ⟨g,0,none⟩)
 |.func f=> .func (.func f) #[] #[]
abbrev aF:=Fn->List Value->M->Option (Value×M)
noncomputable section
variable (E:Env)
def an(m:M)(b:Builtin)(ts:List TypeId)(args:List Value):Option (Value×M):=
 match b,ts,args with
 |.append,[t,u],[s,x]=>da E m t u s x
 |.copy,t::_,[d,x]=>sO E m t d x
 |.clear,[t],[x]=>nL E m t x
 |.len,[t],[x]=>(nF E m t x).map (·,m)
 |.min,_,xs=>(db (fun x y=>if y < x then y else x) xs).map (·,m)
 |.max,_,xs=>(db (fun x y=>if y >x then y else x) xs).map (·,m)
 |.cap,[t],[x]=>match E.ty.get t with
  |some ti=>match ti.d,x with
   |.slice _,.slice (some a) _ c=>bif lI m a then none else some (.int .i64 c,m)
   |.slice _,.slice none _ c=>some (.int .i64 c,m)
   |_,_=>none
  |none=>none
 |_,_,_=>none
end
abbrev gn:=Env->aF->Tr Value->M->Option (Value×M)
noncomputable def uZ(x:Operand):gn:=fun _ _ T m=>some (ev T x,m)
noncomputable def nz(c a b:Operand):gn:=fun _ _ T m=>match ev T c with |.bool t=>some (bif t then ev T a else ev T b,m) |_=>none
noncomputable def oE(t:TypeId):gn:=fun E _ _ m=>match fQ E t with |some z=>some (newVar m t z) |none=>none
noncomputable def Gs(t:TypeId)(x:Operand):gn:=fun _ _ T m=>some (newVar m t (ev T x))
noncomputable def oD(t:TypeId)(ps:Array (Nat×Operand)):gn:=fun E _ T m=>match aO E t (ps.toList.map fun p=>(p.1,ev T p.2))with |some v=>some (v,m) |none=>none
noncomputable def kK(t:TypeId)(n:Nat)(ps:Array (Nat×Operand)):gn:=fun E _ T m=>az E m t n (ps.toList.map fun p=>(p.1,ev T p.2))
noncomputable def rU(t:TypeId)(a:Operand):gn:=fun E _ T m=>match ev T a with
 |.pointer (some a)=>(match loadVar E m t a with |some v=>some (v,m) |none=>none)
 |_=>none
noncomputable def kI(t:TypeId)(a x:Operand):gn:=fun E _ T m=>match ev T a with
 |.pointer (some a)=>(match storeVar E m t a (ev T x)with |some m=>some (undef,m) |none=>none)
 |_=>none
noncomputable def fE(x:Operand):gn:=fun _ _ T m=>match ev T x with |.pointer (some a)=>some (.pointer (some a),m) |.func (.func f) a b=>some (.func (.func f) a b,m) |_=>none
noncomputable def xY(op:BinOp)(t:TypeId)(x y:Operand):gn:=fun E _ T m=>match aq E op t (ev T x) (ev T y)with |some v=>some (v,m) |none=>none
noncomputable def Gr(op:UnOp)(x:Operand):gn:=fun _ _ T m=>match fK op (ev T x)with |some v=>some (v,m) |none=>none
noncomputable def Ak(s d:TypeId)(x:Operand):gn:=fun E _ T m=>match tb E m s d (ev T x)with |some v=>some (v,m) |none=>none
noncomputable def gG(f:Fn)(a b:Array Operand):gn:=fun _ _ T m=>match f with
 |.func _=>some (.func f (a.toList.map (ev T)).toArray (b.toList.map (ev T)).toArray,m)
 |_=>none
noncomputable def mw(r:Option Operand):gn:=fun _ _ _ m=>match r with |none=>some (.map (some m.n),m.push (.map [] 0)) |some _=>none
noncomputable def qi(t:TypeId)(l c:Operand):gn:=fun E _ T m=>dK E m t (ev T l) (ev T c)
noncomputable def uY(t:TypeId)(x:Operand)(lo hi mx:Option Operand):gn:=fun E _ T m=>match slice? E m t (ev T x) (lo.map (ev T)) (hi.map (ev T)) (mx.map (ev T))with |some v=>some (v,m) |none=>none
noncomputable def ic(s:TypeId)(x:Operand)(f:Nat):gn:=fun E _ T m=>match ae E s (ev T x) f with |some v=>some (v,m) |none=>none
noncomputable def oC(t:TypeId)(x:Operand)(f:Nat):gn:=fun E _ T m=>match vS E t (ev T x) f with |some v=>some (v,m) |none=>none
noncomputable def ib(t:TypeId)(x i:Operand):gn:=fun E _ T m=>match ai E t (ev T x) (ev T i)with |some v=>some (v,m) |none=>none
noncomputable def oB(t:TypeId)(x i:Operand):gn:=fun E _ T m=>match index? E t (ev T x) (ev T i)with |some v=>some (v,m) |none=>none
noncomputable def rT(t:TypeId)(x i:Operand)(ok:Bool):gn:=fun E _ T m=>match dL E m t (ev T x) (ev T i) ok with |some v=>some (v,m) |none=>none
noncomputable def eh(t:TypeId)(x k y:Operand):gn:=fun E _ T m=>match ew E m t (ev T x) (ev T k) (ev T y)with |some m=>some (undef,m) |none=>none
noncomputable def nA(t:TypeId)(x k:Operand):gn:=fun E _ T m=>dF E m t (ev T x) (ev T k)
noncomputable def iO(x s y:Operand):gn:=fun _ _ T m=>match cD m (ev T x) (ev T s) (ev T y)with |some m=>some (undef,m) |none=>none
noncomputable def lN(x:Operand)(t:TypeId)(ok:Bool):gn:=fun E _ T m=>match ev T x with
 |.nilIface=>bif ok then(match fQ E t with |some z=>some (.tuple #[z,.bool false],m) |none=>none)else none
 |.iface t' (.agg cs)=>bif ok && (Nat.beq t' t && cs.toList.isEmpty)then(match E.ty.get t with
  |some ti=>(match ti.d with |.struct _=>some (.tuple #[.agg #[],.bool true],m) |_=>none)
  |none=>none)else none
 |_=>none
noncomputable def ja(x:Operand)(i:Nat):gn:=fun _ _ T m=>match ev T x with |.tuple vs=>(match vs.toList[i]? with |some v=>some (v,m) |none=>none) |_=>none
noncomputable def kJ(c:Call):gn:=fun E call T m=>
 match c.callee with
 |.builtin b=>an E m b c.argTypes.toList (c.args.toList.map (ev T))
 |.value f=>match ev T f with
  |.func g first captured=>call g (first.toList++(c.args.toList.map (ev T)++captured.toList)) m
  |_=>none
 |_=>none
noncomputable def cS:Op->gn
 |.move x=>uZ x
 |.assign x=>uZ x
 |.pick c a b=>nz c a b
 |.alloc t=>oE t
 |.box t x=>Gs t x
 |.build t ps=>oD t ps
 |.buildSlice t n ps=>kK t n ps
 |.load t a=>rU t a
 |.store t a x=>kI t a x
 |.nilCheck x=>fE x
 |.binOp op t x y _=>xY op t x y
 |.unOp op _ x=>Gr op x
 |.convert s d x=>Ak s d x
 |.makeFunc f a b=>gG f a b
 |.makeMap _ r=>mw r
 |.makeSlice t l c=>qi t l c
 |.slice t x lo hi mx=>uY t x lo hi mx
 |.fieldAddr s x f=>ic s x f
 |.field t x f=>oC t x f
 |.indexAddr t x i=>ib t x i
 |.index t x i=>oB t x i
 |.lookup t x i ok=>rT t x i ok
 |.mapUpdate t x k y=>eh t x k y
 |.insert t x k y=>eh t x k y
 |.extract x i=>ja x i
 |.call c=>kJ c
 |.mapEntry t x k=>nA t x k
 |.entryStore _ x s y=>iO x s y
 |.typeAssert x _ t ok=>lN x t ok
 |_=>fun _ _ _ _=>none
noncomputable section
variable (E:Env)
def er:Op->Bool
 |.move _ |.assign _ |.pick .. |.build .. |.nilCheck _ |.binOp .. |.unOp .. |.makeFunc .. |.fieldAddr .. |.field .. |.indexAddr .. |.index .. |.extract ..=>true
 |_=>false
def bT(ops:Array Oper)(T:Tr Value)(o:Oper):Bool:=
 match o.guard with
 |none=>true
 |some (j,want)=>match(ops.toList[j]?).bind (·.dst)with
  |some d=>match gk T d with
   |.bool b=>b==want
   |_=>false
  |none=>false
def put(T:Tr Value)(dst:Option Tmp)(v:Value):Tr Value:=
 match dst with
 |some d=>T.set d v
 |none=>T
def th(call:aF)(ops:Array Oper)(l:List Oper):Fr->Option Fr:=
 List.rec (motive:=fun _=>Fr->Option Fr) (fun fr=>some fr)
  (fun o _ ih fr=>
   bif bT ops fr.T o then
    match cS o.op E call fr.T fr.m with
    |some (v,m)=>ih {T:=put fr.T o.dst v,m:=m}
    |none=>none
   else ih {fr with T:=put fr.T o.dst undef}) l
theorem xX(call:aF)(ops:Array Oper)(fr:Fr):th E call ops [] fr=some fr:=rfl
theorem kj(call:aF)(ops:Array Oper)(o:Oper)(rest:List Oper)(fr:Fr):th E call ops (o::rest) fr=
  bif bT ops fr.T o then
   match cS o.op E call fr.T fr.m with
   |some (v,m)=>th E call ops rest {T:=put fr.T o.dst v,m:=m}
   |none=>none
  else th E call ops rest {fr with T:=put fr.T o.dst undef}:=rfl
def dM(ops:Array Oper)(j:Nat):Bool:=
 let b:=Region.before ops
 ops.toList.zipIdx.all fun(o,i)=>i==j ||er o.op ||(b.getD j 0).testBit i ||(b.getD i 0).testBit j
def kM:Op->Bool
 |.call c=>(match c.callee with |.builtin .min=>true |.builtin .max=>true |_=>false)
 |_=>false
def lenOf:Op->Option Nat
 |.call c=>(match c.callee with |.builtin .len=>(match c.args.toList with |[.tmp t]=>some t |_=>none) |_=>none)
 |_=>none
def jX(ops:Array Oper)(j b:Nat)(T:Tr Value):Bool:=
 let bf:=Region.before ops
 let same:=fun i t=>ops.toList.zipIdx.all fun(q,k)=> !(Nat.ble i k && Nat.blt k j && q.dst==some t)
 ops.toList.zipIdx.all fun(o,i)=>i==j ||er o.op ||(bf.getD j 0).testBit i ||(bf.getD i 0).testBit j ||
  (Nat.blt i j && (match o.op with
   |.alloc _ |.box _ _=>true
   |.load _ (.tmp t)=>same i t && (match o.guard with
     |none=>true
     |some (g,_)=>match(ops.toList[g]?).bind (·.dst)with |some d=>same i d |none=>true) &&
    (!(bT ops T o) ||match gk T t with |.pointer (some a)=> !(a.block==b) |_=>false)
   |_=>kM o.op ||(match lenOf o.op with |some t=>same i t && (match gk T t with |.map _=>false |_=>true) |none=>false)))
def ma(m:M)(a:Addr):Option Nat:=match m.get a.block with |.cells [_,.slice (some r) _ _] _ _=>some r.block |_=>none
def eJ(m:M)(T:Tr Value):Op->Option Nat
 |.store _ a _=>match ev T a with |.pointer (some a)=>some a.block |_=>none
 |.call c=>match c.callee,c.args.toList with
  |.value f,[x]=>match ev T f,ev T x with
   |.func (.func g) first captured,.pointer (some a)=>bif Nat.beq g tI && first.isEmpty && captured.isEmpty then ma m a else none
   |_,_=>none
  |_,_=>none
 |_=>none
def rG(ops:Array Oper)(j:Nat)(m:M)(T:Tr Value)(o:Op):Bool:=match eJ m T o with |some b=>jX ops j b T |none=>false
def eZ(call:aF)(ops:Array Oper)(l:List Oper):Nat->Fr->Option Fr:=
 List.rec (motive:=fun _=>Nat->Fr->Option Fr) (fun _ fr=>some fr)
  (fun o _ ih j fr=>
   bif bT ops fr.T o then
    match cS o.op E call fr.T {fr.m with low:=fr.m.n}with
    |some (v,m)=>
     bif Nat.ble fr.m.n m.low ||(dM ops j ||rG ops j fr.m fr.T o.op)then
      ih (j+1) {T:=put fr.T o.dst v,m:={m with low:=min fr.m.low m.low}}
     else none
    |none=>none
   else ih (j+1) {fr with T:=put fr.T o.dst undef}) l
theorem uv(call:aF)(ops:Array Oper)(j:Nat)(fr:Fr):eZ E call ops [] j fr=some fr:=rfl
theorem eY(call:aF)(ops:Array Oper)(o:Oper)(rest:List Oper)(j:Nat)(fr:Fr):eZ E call ops (o::rest) j fr=
  bif bT ops fr.T o then
   match cS o.op E call fr.T {fr.m with low:=fr.m.n}with
   |some (v,m)=>
    bif Nat.ble fr.m.n m.low ||(dM ops j ||rG ops j fr.m fr.T o.op)then
     eZ E call ops rest (j+1) {T:=put fr.T o.dst v,m:={m with low:=min fr.m.low m.low}}
    else none
   |none=>none
  else eZ E call ops rest (j+1) {fr with T:=put fr.T o.dst undef}:=rfl
def ig(body:Fr->Option (Ex×Fr)):Nat->Fr->Option (Ex×Fr)
 |0,_=>none
 |n+1,fr=>
  match body fr with
  |some (.normal,fr)=>ig body n fr
  |r=>r
def aZ(call:aF)(n:Nat):Code->Fr->Option (Ex×Fr)
 |.skip,fr |.label _,fr=>some (.normal,fr)
 |.region _ ops d,fr=>(bif d then eZ E call ops ops.toList 0 fr else th E call ops ops.toList fr).map (Ex.normal,·)
 |.seq a b,fr=>
  match aZ call n a fr with
  |some (.normal,fr)=>aZ call n b fr
  |r=>r
 |.cond c x y,fr=>match ev fr.T c with
  |.bool t=>bif t then aZ call n x fr else aZ call n y fr
  |_=>none
 |.block id c,fr=>
  match aZ call n c fr with
  |some (.exit id',fr)=>bif Nat.beq id' id then some (.normal,fr)else some (.exit id',fr)
  |r=>r
 |.loop c,fr=>ig (aZ call n c) n fr
 |.scope c,fr=>aZ call n c fr
 |.rangeFunc g ps assign body,fr=>
  match ev fr.T g with
  |.func (.func h) first captured=>
   match call (.func h) (first.toList++(.func (.yield fr.m.n) #[] #[]::captured.toList)) (fr.m.push (.loop ⟨fr.T,ps,assign,body,.ready,none,E.G⟩))with
   |some (_,m)=>
    match m.get fr.m.n with
    |.loop r=>match r.st with
     |.busy=>none
     |_=>some (r.ov.getD .normal,{fr with m:=m.set fr.m.n (.loop {r with st:=.exhausted})})
    |_=>none
   |none=>none
  |_=>none
 |.exit id,fr=>some (.exit id,fr)
 |.ret,fr=>some (.ret,fr)
 |_,_=>none
def iY(T:Tr Value)(m:M):ResultVar->Option Value
 |.tmp t=>some (gk T t)
 |.cell a t=>match gk T a with |.pointer (some a)=>loadVar E m t a |_=>none
def eQ(T:Tr Value)(m:M):List ResultVar->Option (List Value)
 |[]=>some []
 |r::rs=>match iY E T m r,eQ T m rs with
  |some v,some vs=>some (v::vs)
  |_,_=>none
def result?(fn:Func)(T:Tr Value)(m:M):Option Value:=
 match eQ E T m fn.results.toList with
 |some [v]=>some v
 |some vs=>some (.tuple vs.toArray)
 |none=>none
def enter:List Value->Nat->Tr Value
 |[],_=> .e
 |v::vs,i=>(enter vs (i+1)).set i v
noncomputable def pD(T:Tr Value):List (Tmp×Value)->Tr Value
 |[]=>T
 |(t,v)::l=>pD (T.set t v) l
noncomputable def pH(exec:Code->Fr->Option (Ex×Fr))(G l:Nat)(args:List Value)(m:M):Option (Value×M):=
 match m.get l with
 |.loop r=>
  bif Nat.beq args.length r.ps.size && Nat.beq r.G G then
   match exec r.assign {T:=pD r.T (r.ps.toList.zip args),m:={m with low:=m.n}}with
   |some (.normal,fr)=>
    match fr.m.get l with
    |.loop r1=>match r1.st with
     |.ready=>
      match exec r.body {fr with m:=fr.m.set l (.loop {r1 with st:=.busy})}with
      |some (e,fr)=>
       match fr.m.get l with
       |.loop r2=>match e with
        |.normal=>some (.bool true,{fr.m.set l (.loop {r2 with st:=.ready,ov:=none})with low:=min m.low (fr.m.set l (.loop {r2 with st:=.ready,ov:=none})).low})
        |e=>some (.bool false,{fr.m.set l (.loop {r2 with st:=.done,ov:=some e})with low:=min m.low (fr.m.set l (.loop {r2 with st:=.done,ov:=some e})).low})
       |_=>none
      |none=>none
     |_=>none
    |_=>none
   |_=>none
  else none
 |_=>none
def uQ:Code->Option (List Code×(Nat×Oper×Oper)×Code)
 |.seq (.region id ops false) b=>
  match ops.toList with
  |[m,d]=>match d.op with
   |.defer _=>some ([],(id,m,d),b)
   |_=>(uQ b).map fun r=>(.region id ops false::r.1,r.2)
  |_=>(uQ b).map fun r=>(.region id ops false::r.1,r.2)
 |.seq a b=>(uQ b).map fun r=>(a::r.1,r.2)
 |_=>none
def tk(f:Func):Nl:=match f.body.bind uQ with
 |some (pre,(id,m,d),post)=>⟨f,pre,id,m,d,post⟩
 |none=>⟨f,[],0,default,default,.skip⟩
def yF(f:Func):JZ:=match f.body with
 |some (.seq (.region id ops false) r)=>⟨f,id,ops,r⟩
 |_=>⟨f,0, #[],.skip⟩
def pT(ex:Code->Fr->Option (Ex×Fr)):List Code->Fr->Option (Ex×Fr)
 |[],fr=>some (.normal,fr)
 |c::cs,fr=>match ex c fr with
  |some (.normal,fr)=>pT ex cs fr
  |r=>r
noncomputable def kH:List Oper->Tr Value->Option (Tr Value)
 |[],T=>some T
 |o::os,T=>match o.guard,o.op with
  |none,.call c=>match c.callee with
   |.builtin .recover=>bif c.args.toList.isEmpty then kH os (put T o.dst .nilIface)else none
   |_=>none
  |none,.assign x=>kH os (put T o.dst (ev T x))
  |none,.move x=>kH os (put T o.dst (ev T x))
  |_,_=>none
def AQ(ex:Code->Fr->Option (Ex×Fr))(g:Nat)(args:List Value)(m:M):Option M:=
 match E.cl.get g with
 |some c=>
  bif Nat.ble args.length c.fn.ntmps && (c.fn.results.toList.isEmpty && jZ c.rest)then
   match kH c.ops.toList (enter args 0)with
   |some T=>match ex c.rest {T:=T,m:={m with low:=m.n}}with
    |some (.exit _,_) |none=>none
    |some (_,fr)=>some {fr.m with low:=min m.low fr.m.low}
   |none=>none
  else none
 |none=>none
def AB(fn:Func)(m:M)(fr:Fr):Option (Value×M):=
 match result? E fn fr.T fr.m with
 |none=>none
 |some v=>bif bD v && Nat.ble m.n fr.m.low then some (v,m)else some (v,{fr.m with low:=min m.low fr.m.low})
def sQ(ex:Code->Fr->Option (Ex×Fr))(d:Nl)(args:List Value)(m:M):Option (Value×M):=
 bif Nat.ble args.length d.fn.ntmps then
  match pT ex d.pre {T:=enter args 0,m:={m with low:=m.n}}with
  |some (.ret,fr)=>AB E d.fn m fr
  |some (.normal,fr)=>
   match d.mf.guard,d.mf.dst,d.mf.op,d.de.guard,d.de.op with
   |none,some td,.makeFunc (.func g) fi ca,none,.defer c=>
    match c.callee with
    |.value (.tmp t)=>
     bif Nat.beq t td && (c.args.toList.isEmpty && fi.toList.isEmpty)then
      match ex d.post {T:=put (put fr.T (some td) (.func (.func g) #[] (ca.toList.map (ev fr.T)).toArray)) d.de.dst undef,m:=fr.m}with
      |some (.exit _,_) |none=>none
      |some (_,fr2)=>match AQ E ex g (ca.toList.map (ev fr.T)) fr2.m with
       |some m3=>AB E d.fn m {fr2 with m:=m3}
       |none=>none
     else none
    |_=>none
   |_,_,_,_,_=>none
  |_=>none
 else none
def bN(X:aF):Nat->aF
 |0,_,_,_=>none
 |n+1,.func f,args,m=>
  match X (.func f) args m with
  |some r=>some r
  |none=>
  match E.fn.get f with
  |none=>match E.df.get f with
   |some d=>sQ E (aZ E (bN X n) n) d args m
   |none=>none
  |some fn=>
   match fn.body with
   |none=>none
   |some body=>
    bif Nat.ble args.length fn.ntmps then
     match aZ E (bN X n) n body {T:=enter args 0,m:={m with low:=m.n}}with
     |some (.exit _,_) |none=>none
     |some (_,fr)=>
      match result? E fn fr.T fr.m with
      |none=>none
      |some v=>bif bD v && Nat.ble m.n fr.m.low then some (v,m)else some (v,{fr.m with low:=min m.low fr.m.low})
    else none
 |n+1,.yield l,args,m=>pH (aZ E (bN X n) n) E.G l args m
 |_+1,_,_,_=>none
end
end Go.D
namespace Go.D
open Go
theorem Tr.get_mem{α:Type}{x:α}:∀(t:Tr α) (i a b:Nat),t.get i=some x->(a*i+b,x)∈t.mP a b
 |.e,_,_,_,h=>by simp[Tr.sB]at h
 |.n v l r,0,a,b,h=>by
  simp only[Tr.kn,Tr.fX]at h
  subst h
  unfold Tr.mP
  simp
 |.n v l r,i+1,a,b,h=>by
  simp only[Tr.kn,Tr.fX]at h
  unfold Tr.mP
  cases h1:Nat.beq (i%2) 0 with
  |true=>
   rw[h1]at h
   simp only[cond_true]at h
   have hm:i%2=0:=Nat.eq_of_beq_eq_true h1
   have:=Tr.get_mem l (i/2) (2*a) (a+b) h
   have e:2*a*(i/2)+(a+b)=a*(i+1)+b:=by
    have h2:i=2*(i/2):=by omega
    have h3:2*a*(i/2)=a*i:=by
     rw[Nat.mul_comm 2 a,Nat.mul_assoc,<-h2]
    rw[h3,Nat.mul_add];omega
   rw[e]at this
   exact List.mem_append.2 (.inr (List.mem_append.2 (.inl this)))
  |false=>
   rw[h1]at h
   simp only[cond_false]at h
   have hm:i%2≠0:=Nat.ne_of_beq_eq_false h1
   have:=Tr.get_mem r (i/2) (2*a) (2*a+b) h
   have e:2*a*(i/2)+(2*a+b)=a*(i+1)+b:=by
    have h2:i=2*(i/2)+1:=by omega
    have h3:a*(i+1)=2*a*(i/2)+2*a:=by
     have:i+1=2*(i/2+1):=by omega
     rw[this,Nat.mul_left_comm,Nat.mul_add,Nat.mul_add,Nat.mul_assoc];omega
    omega
   rw[e]at this
   exact List.mem_append.2 (.inr (List.mem_append.2 (.inr this)))
theorem Tr.qx{α:Type}{f:Nat->Option α}(t:Tr α)(h:(t.mP 1 0).map (fun p=>f p.1)=(t.mP 1 0).map (fun p=>some p.2)){i:Nat}{x:α}(hi:t.get i=some x):f i=some x:=by
 have hm:=Tr.get_mem t i 1 0 hi
 simp only[Nat.one_mul,Nat.add_zero]at hm
 have:=List.map_inj_left.1 h _ hm
 simpa using this
theorem Tr.nG{α:Type}(x:α):∀(f i j:Nat),i<=f->(Tr.single x f i).get j=if j=i then some x else none
 |0,i,j,h=>by
  obtain rfl:i=0:=by omega
  unfold Tr.single
  cases j with
  |zero=>rfl
  |succ j=>simp only[Tr.fX];cases Nat.beq (j%2) 0 <;>simp[Tr.sB]
 |f+1,0,j,h=>by
  unfold Tr.single
  cases j with
  |zero=>rfl
  |succ j=>simp only[Tr.fX];cases Nat.beq (j%2) 0 <;>simp[Tr.sB]
 |f+1,i+1,j,h=>by
  unfold Tr.single
  cases h1:Nat.beq (i%2) 0 with
  |true=>
   have hm:i%2=0:=Nat.eq_of_beq_eq_true h1
   simp only[cond_true]
   cases j with
   |zero=>simp[Tr.kn]
   |succ j=>
    simp only[Tr.fX]
    cases h2:Nat.beq (j%2) 0 with
    |true=>
     have hj:j%2=0:=Nat.eq_of_beq_eq_true h2
     simp only[cond_true]
     rw[Tr.nG x f (i/2) (j/2) (by omega)]
     have:(j/2=i/2)↔(j+1=i+1):=by omega
     simp[this]
    |false=>
     have hj:j%2≠0:=Nat.ne_of_beq_eq_false h2
     simp only[cond_false,Tr.sB]
     rw[if_neg (by omega)]
  |false=>
   have hm:i%2≠0:=Nat.ne_of_beq_eq_false h1
   simp only[cond_false]
   cases j with
   |zero=>simp[Tr.kn]
   |succ j=>
    simp only[Tr.fX]
    cases h2:Nat.beq (j%2) 0 with
    |true=>
     have hj:j%2=0:=Nat.eq_of_beq_eq_true h2
     simp only[cond_true,Tr.sB]
     rw[if_neg (by omega)]
    |false=>
     have hj:j%2≠0:=Nat.ne_of_beq_eq_false h2
     simp only[cond_false]
     rw[Tr.nG x f (i/2) (j/2) (by omega)]
     have:(j/2=i/2)↔(j+1=i+1):=by omega
     simp[this]
theorem Tr.bL{α:Type}(x:α):∀(t:Tr α) (i j:Nat),(t.set i x).get j=if j=i then some x else t.get j
 |.e,i,j=>by
  simp only[Tr.wZ,Tr.lJ,Tr.fS]
  rw[Tr.nG x i i j (Nat.le_refl _)]
  simp[Tr.sB]
 |.n v l r,0,j=>by
  simp only[Tr.wZ,Tr.lJ,Tr.fS]
  cases j with
  |zero=>rfl
  |succ j=>simp[Tr.fX]
 |.n v l r,i+1,j=>by
  simp only[Tr.wZ,Tr.lJ,Tr.fS]
  cases h1:Nat.beq (i%2) 0 with
  |true=>
   have hm:i%2=0:=Nat.eq_of_beq_eq_true h1
   simp only[cond_true]
   cases j with
   |zero=>simp[Tr.kn]
   |succ j=>
    simp only[Tr.fX]
    cases h2:Nat.beq (j%2) 0 with
    |true=>
     have hj:j%2=0:=Nat.eq_of_beq_eq_true h2
     simp only[cond_true]
     rw[Tr.bL x l (i/2) (j/2)]
     have:(j/2=i/2)↔(j+1=i+1):=by omega
     simp[this]
    |false=>
     have hj:j%2≠0:=Nat.ne_of_beq_eq_false h2
     simp only[cond_false]
     rw[if_neg (by omega)]
  |false=>
   have hm:i%2≠0:=Nat.ne_of_beq_eq_false h1
   simp only[cond_false]
   cases j with
   |zero=>simp[Tr.kn]
   |succ j=>
    simp only[Tr.fX]
    cases h2:Nat.beq (j%2) 0 with
    |true=>
     have hj:j%2=0:=Nat.eq_of_beq_eq_true h2
     simp only[cond_true]
     rw[if_neg (by omega)]
    |false=>
     have hj:j%2≠0:=Nat.ne_of_beq_eq_false h2
     simp only[cond_false]
     rw[Tr.bL x r (i/2) (j/2)]
     have:(j/2=i/2)↔(j+1=i+1):=by omega
     simp[this]
theorem Tr.BC{α:Type}{p:Nat->α->Prop}(t:Tr α){l:List (Nat×α)}(h:t.mP 1 0=l)(hl:∀x∈l,p x.1 x.2){i:Nat}{x:α}(hi:t.get i=some x):p i x:=by
 have hm:=Tr.get_mem t i 1 0 hi
 simp only[Nat.one_mul,Nat.add_zero]at hm
 rw[h]at hm
 exact hl _ hm
end Go.D
namespace Go.D
open Go
structure BI where
 cG:Nat
 gr:Option (Nat×Nat×Nat)
abbrev Sg:=Nat->Option BI
inductive aJ (σ:Sg):Value->Value->Prop where
 |flat (v:Value) (h:bP v=true):aJ σ v v
 |ptr (a:Addr) (i:BI) (h:σ a.block=some i) (hs:a.spot=none):aJ σ (.pointer (some a)) (.pointer (some ⟨i.cG,a.off,none⟩))
 |slice (a:Addr) (i:BI) (n c:Nat) (h:σ a.block=some i) (hs:a.spot=none) (hg:i.gr=none):aJ σ (.slice (some a) n c) (.slice (some ⟨i.cG,a.off,none⟩) n c)
 |fm (a:Addr) (i:BI) (n c c' k sz N:Nat) (h:σ a.block=some i) (hs:a.spot=none) (hg:i.gr=some (k,sz,N)) (hc:c'=c\/(c<=c'/\a.off+c*k=sz/\a.off+c'*k=N)):aJ σ (.slice (some a) n c) (.slice (some ⟨i.cG,a.off,none⟩) n c')
 |empty (a a':Addr) (i:BI) (c' k sz N:Nat) (h:σ a.block=some i) (hg:i.gr=some (k,sz,N)) (ho:a.off=sz):aJ σ (.slice (some a) 0 0) (.slice (some a') 0 c')
 |map (r:Nat) (i:BI) (h:σ r=some i):aJ σ (.map (some r)) (.map (some i.cG))
 |func (f:FuncId) (a b a' b':Array Value) (ha:a.size=a'.size) (hb:b.size=b'.size) (h1:∀(j:Nat) u u',a[j]?=some u->a'[j]?=some u'->aJ σ u u') (h2:∀(j:Nat) u u',b[j]?=some u->b'[j]?=some u'->aJ σ u u'):aJ σ (.func (.func f) a b) (.func (.func f) a' b')
 |yield (l:Nat) (i:BI) (h:σ l=some i):aJ σ (.func (.yield l) #[] #[]) (.func (.yield i.cG) #[] #[])
 |agg (a a':Array Value) (ha:a.size=a'.size) (h1:∀(j:Nat) u u',a[j]?=some u->a'[j]?=some u'->aJ σ u u'):aJ σ (.agg a) (.agg a')
 |tuple (a a':Array Value) (ha:a.size=a'.size) (h1:∀(j:Nat) u u',a[j]?=some u->a'[j]?=some u'->aJ σ u u'):aJ σ (.tuple a) (.tuple a')
def aU(σ:Sg)(l l':List Value):Prop:=l.length=l'.length/\∀(j:Nat) u u',l[j]?=some u->l'[j]?=some u'->aJ σ u u'
def Sg.le(σ τ:Sg):Prop:=∀b i,σ b=some i->τ b=some i
theorem aJ.mono{σ τ:Sg}(hle:σ.le τ){v v':Value}(h:aJ σ v v'):aJ τ v v':=by
 induction h with
 |flat v h=>exact .flat v h
 |ptr a i h hs=>exact .ptr a i (hle _ _ h) hs
 |slice a i n c h hs hg=>exact .slice a i n c (hle _ _ h) hs hg
 |fm a i n c c' k sz N h hs hg hc=>exact .fm a i n c c' k sz N (hle _ _ h) hs hg hc
 |empty a a' i c' k sz N h hg ho=>exact .empty a a' i c' k sz N (hle _ _ h) hg ho
 |map r i h=>exact .map r i (hle _ _ h)
 |func f a b a' b' ha hb _ _ i1 i2=>exact .func f a b a' b' ha hb (fun j u u' h h'=>i1 j u u' h h') (fun j u u' h h'=>i2 j u u' h h')
 |yield l i h=>exact .yield l i (hle _ _ h)
 |agg a a' ha _ i1=>exact .agg a a' ha (fun j u u' h h'=>i1 j u u' h h')
 |tuple a a' ha _ i1=>exact .tuple a a' ha (fun j u u' h h'=>i1 j u u' h h')
theorem aU.mono{σ τ:Sg}(hle:σ.le τ){l l':List Value}(h:aU σ l l'):aU τ l l':=⟨h.1,fun j u u' a b=>(h.2 j u u' a b).mono hle⟩
theorem aU.nil{σ:Sg}:aU σ [] []:=⟨rfl,fun _ _ _ h=>by simp at h⟩
theorem aU.cons{σ:Sg}{v v':Value}{l l':List Value}(h:aJ σ v v')(ht:aU σ l l'):aU σ (v::l) (v'::l'):=
 ⟨by simp[ht.1],fun j u u' a b=>by
  cases j with
  |zero=>simp at a b;subst a;subst b;exact h
  |succ j=>exact ht.2 j u u' (by simpa using a) (by simpa using b)⟩
theorem aU.head{σ:Sg}{v v':Value}{l l':List Value}(h:aU σ (v::l) (v'::l')):aJ σ v v':=h.2 0 v v' rfl rfl
theorem aU.tail{σ:Sg}{v v':Value}{l l':List Value}(h:aU σ (v::l) (v'::l')):aU σ l l':=
 ⟨by simpa using h.1,fun j u u' a b=>h.2 (j+1) u u' (by simpa using a) (by simpa using b)⟩
theorem aU.cases{σ:Sg}{v:Value}{l x:List Value}(h:aU σ (v::l) x):∃v' l',x=v'::l'/\aJ σ v v'/\aU σ l l':=by
 cases x with
 |nil=>exact absurd h.1 (by simp)
 |cons v' l'=>exact⟨v',l',rfl,h.head,h.tail⟩
theorem aU.nil_eq{σ:Sg}{x:List Value}(h:aU σ [] x):x=[]:=List.eq_nil_of_length_eq_zero h.1.symm
theorem aU.append{σ:Sg}{a a' b b':List Value}(h:aU σ a a')(k:aU σ b b'):aU σ (a++b) (a'++b'):=
 ⟨by simp[h.1,k.1],fun j u u' x y=>by
  by_cases hj:j < a.length
  ·rw[List.getElem?_append_left hj]at x
   rw[List.getElem?_append_left (by rw[<-h.1];exact hj)]at y
   exact h.2 j u u' x y
  ·rw[List.getElem?_append_right (by omega)]at x
   rw[List.getElem?_append_right (by rw[<-h.1];omega)]at y
   rw[<-h.1]at y
   exact k.2 _ u u' x y⟩
theorem aU.take{σ:Sg}{a a':List Value}(h:aU σ a a')(n:Nat):aU σ (a.take n) (a'.take n):=
 ⟨by simp[h.1],fun j u u' x y=>by
  simp only[List.getElem?_take]at x y
  by_cases hj:j < n
  ·rw[if_pos hj]at x y;exact h.2 j u u' x y
  ·rw[if_neg hj]at x;cases x⟩
theorem aU.drop{σ:Sg}{a a':List Value}(h:aU σ a a')(n:Nat):aU σ (a.drop n) (a'.drop n):=
 ⟨by simp[h.1],fun j u u' x y=>by
  simp only[List.getElem?_drop]at x y
  exact h.2 _ u u' x y⟩
theorem aU.get{σ:Sg}{a a':List Value}(h:aU σ a a'){j:Nat}{u:Value}(hj:a[j]?=some u):∃u',a'[j]?=some u'/\aJ σ u u':=by
 have hlt:j < a'.length:=by rw[<-h.1];exact(List.getElem?_eq_some_iff.1 hj).1
 exact⟨a'[j],List.getElem?_eq_getElem hlt,h.2 j u _ hj (List.getElem?_eq_getElem hlt)⟩
theorem aU.of_flat{σ:Sg}{l:List Value}(h:l.all bP=true):aU σ l l:=
 ⟨rfl,fun j u u' a b=>by
  rw[a]at b;cases b
  exact .flat u (List.all_eq_true.1 h u (List.mem_of_getElem? a))⟩
theorem aU.agg{σ:Sg}{l l':List Value}(h:aU σ l l'):aJ σ (.agg l.toArray) (.agg l'.toArray):=
 .agg _ _ (by simpa using h.1) (fun j u u' a b=>h.2 j u u' (by simpa using a) (by simpa using b))
theorem aU.tuple{σ:Sg}{l l':List Value}(h:aU σ l l'):aJ σ (.tuple l.toArray) (.tuple l'.toArray):=
 .tuple _ _ (by simpa using h.1) (fun j u u' a b=>h.2 j u u' (by simpa using a) (by simpa using b))
theorem aJ.eb{σ:Sg}{v:Value}(h:eV v=true):aJ σ v v:=by
 cases v with
 |agg cs=>
  have:=aU.agg (σ:=σ) (aU.of_flat (l:=cs.toList) h)
  simpa using this
 |_=>exact .flat _ h
theorem aJ.undef{σ:Sg}:aJ σ undef undef:=.tuple _ _ rfl (fun j u u' a b=>by simp at a)
theorem aJ.cells{σ:Sg}{v v':Value}(h:aJ σ v v'):aU σ (cells v) v'.cells.toList:=by
 cases h with
 |agg a a' ha h1=>exact⟨by simpa[D.cells,Value.cells]using ha,fun j u u' x y=>h1 j u u' (by simpa[D.cells]using x) (by simpa[Value.cells]using y)⟩
 |flat v hv=>
  cases v with
  |agg cs=>simp[bP]at hv
  |_=>exact aU.cons (.flat _ hv) aU.nil
 |ptr a i h hs=>exact aU.cons (.ptr a i h hs) aU.nil
 |slice a i n c h hs hg=>exact aU.cons (.slice a i n c h hs hg) aU.nil
 |fm a i n c c' k sz N h hs hg hc=>exact aU.cons (.fm a i n c c' k sz N h hs hg hc) aU.nil
 |empty a a' i c' k sz N h hg ho=>exact aU.cons (.empty a a' i c' k sz N h hg ho) aU.nil
 |map r i h=>exact aU.cons (.map r i h) aU.nil
 |func f a b a' b' ha hb h1 h2=>exact aU.cons (.func f a b a' b' ha hb h1 h2) aU.nil
 |yield l i h=>exact aU.cons (.yield l i h) aU.nil
 |tuple a a' ha h1=>exact aU.cons (.tuple a a' ha h1) aU.nil
theorem aJ.one{σ:Sg}{v v':Value}(h:aJ σ v v')(h1:one v=true):v'.oneCell'=true:=by
 cases h with
 |flat v hv=>cases v <;>first |rfl |simp[D.one]at h1
 |agg=>simp[D.one]at h1
 |tuple=>simp[D.one]at h1
 |_=>rfl
theorem aU.nB{σ:Sg}{l l':List Value}(h:aU σ l l')(h1:l.all one=true):∀u∈l',u.oneCell'=true:=by
 intro u hu
 obtain⟨j,hj⟩:=List.mem_iff_getElem?.1 hu
 have hlt:j < l.length:=by rw[h.1];exact(List.getElem?_eq_some_iff.1 hj).1
 exact(h.2 j _ u (List.getElem?_eq_getElem hlt) hj).one (List.all_eq_true.1 h1 _ (List.getElem_mem hlt))
theorem aJ.aQ{σ:Sg}{v v':Value}(h:aJ σ v v')(h0:bP v=true):v'=v:=by
 cases h with
 |flat=>rfl
 |func f a b a' b' ha hb h1 h2=>
  simp[bP]at h0
  obtain⟨rfl,rfl⟩:=h0
  have e1:a'= #[]:=Array.eq_empty_of_size_eq_zero (by simpa using ha.symm)
  have e2:b'= #[]:=Array.eq_empty_of_size_eq_zero (by simpa using hb.symm)
  rw[e1,e2]
 |ptr=>simp[bP]at h0
 |slice=>simp[bP]at h0
 |fm=>simp[bP]at h0
 |empty=>simp[bP]at h0
 |map=>simp[bP]at h0
 |yield=>simp[bP]at h0
 |agg=>simp[bP]at h0
 |tuple=>simp[bP]at h0
def Nk(i:BI)(len size:Nat):Option Nat->Prop
 |none=>i.gr=none/\size=len
 |some k=>i.gr=some (k,len,size)/\0 < k/\0 < len
def pU:Ex->Code
 |.normal=> .skip
 |.exit id=> .exit id
 |.ret=> .ret
def ng(σ:Sg)(i:BI)(w:World):Ob->Prop
 |.dead=>True
 |.cells c e g=>∃c':Array Value,w.heap[i.cG]?=some (.cells c' e (0,0))/\c.length<=c'.size/\aU σ c (c'.toList.take c.length)/\Nk i c.length c'.size g
 |.map es clock=>i.gr=none/\∃es':Array MapEntry,w.heap[i.cG]?=some (.map es' clock)/\es.length=es'.size/\
   ∀(j:Nat) e e',es[j]?=some e->es'[j]?=some e'->e'.key=e.key/\e'.born=e.born/\eV e.key=true/\aJ σ e.val e'.val
 |.ro c=>i.gr=none/\∃(c':Array Value) (e':TypeId) (fz:Nat×Nat),w.heap[i.cG]?=some (.cells c' e' fz)/\c.length<=c'.size/\∀(j:Nat) u u',c[j]?=some u->c'[j]?=some u'->one u=true->aJ σ u u'
 |.loop r=>i.gr=none/\∃(r':Loop) (nt:Nat),w.heap[i.cG]?=some (.loop r')/\r'.state=r.st/\r'.pending=r.ov.map pU/\r'.params=r.ps/\r'.assign=r.assign/\r'.body=r.body/\
   r'.tmps.size=nt/\(∀t,t < nt->aJ σ ((r.T.get t).getD undef) (r'.tmps.getD t undef))/\dh nt r.G r.assign=true/\dh nt r.G r.body=true/\(∀p∈r.ps.toList,p < nt)/\r.ov≠some .normal
structure dN(P:Program)(σ:Sg)(m:M)(w:World):Prop where
 mI:∀b i,σ b=some i->b < m.n
 obj:∀b i,σ b=some i->ng σ i w (m.get b)
 lt:∀b i,σ b=some i->i.cG < w.heap.size
 inj:∀b b' i i',σ b=some i->σ b'=some i'->m.get b≠.dead->m.get b'≠.dead->i.cG=i'.cG->b=b'
 iy:∀g,g < P.globals.size->σ g=some ⟨g,none⟩
structure Ev(P:Program)(σ:Sg)(m:M)(w:World)(σ':Sg)(m':M)(w':World):Prop where
 ext:σ.le σ'
 nW:dN P σ' m' w'
 low:m'.low<=m.low
 EG:m.n<=m'.n
 hle:w.heap.size<=w'.heap.size
 new:∀b i,σ' b=some i->σ b=none->m.n<=b/\(w.heap.size<=i.cG\/∃b0 i0,σ b0=some i0/\i0.cG=i.cG/\m'.low<=b0)
 abs:∀b,b < m'.low->b < m.n->m'.get b=m.get b
 heap:∀B,B < w.heap.size->(∀b i,σ b=some i->i.cG=B->b < m'.low)->w'.heap[B]?=w.heap[B]?
 os:w'.os=w.os
 tape:w'.tape=w.tape
 output:w'.output=w.output
section
variable {P:Program} {σ σ' τ:Sg} {m m' m2:M} {w w' w2:World}
theorem Ev.refl(h:dN P σ m w):Ev P σ m w σ m w:=
 ⟨fun _ _ h=>h,h,Nat.le_refl _,Nat.le_refl _,Nat.le_refl _,fun b i h h'=>(by rw[h]at h';cases h'),fun _ _ _=>rfl,fun _ _ _=>rfl,rfl,rfl,rfl⟩
theorem Ev.trans(h:Ev P σ m w σ' m' w')(k:Ev P σ' m' w' τ m2 w2):Ev P σ m w τ m2 w2:=by
 refine⟨fun b i e=>k.ext b i (h.ext b i e),k.nW,Nat.le_trans k.low h.low,Nat.le_trans h.EG k.EG,Nat.le_trans h.hle k.hle,?_,?_,?_,k.os.trans h.os,k.tape.trans h.tape,k.output.trans h.output⟩
 ·intro b i hb hn
  have hl:=k.low
  cases hm:σ' b with
  |some i1=>
   have e:=k.ext b i1 hm
   rw[hb]at e;cases e
   obtain⟨h1,h2⟩:=h.new b i hm hn
   refine⟨h1,h2.imp id ?_⟩
   rintro⟨b0,i0,x,y,z⟩
   exact⟨b0,i0,x,y,by omega⟩
  |none=>
   obtain⟨h1,h2⟩:=k.new b i hb hm
   have:=h.EG
   refine⟨by omega,?_⟩
   rcases h2 with h2 |⟨b0,i0,x,y,z⟩
   ·have:=h.hle;exact .inl (by omega)
   ·cases h0:σ b0 with
    |some i1=>
     have e:=h.ext b0 i1 h0
     rw[x]at e;cases e
     exact .inr ⟨b0,i0,h0,y,z⟩
    |none=>
     obtain⟨_,h3⟩:=h.new b0 i0 x h0
     rcases h3 with h3 |⟨b1,i1,x1,y1,z1⟩
     ·exact .inl (by omega)
     ·exact .inr ⟨b1,i1,x1,by omega,by omega⟩
 ·intro b hb hn
  have hl:=k.low
  have:=h.EG
  rw[k.abs b hb (by omega),h.abs b (by omega) hn]
 ·intro B hB hp
  have hl:=k.low
  have:=h.hle
  rw[k.heap B (by omega) ?_,h.heap B hB (fun b i x y=>by have:=hp b i x y;omega)]
  intro b i x y
  cases hs:σ b with
  |some i1=>
   have e:=h.ext b i1 hs
   rw[x]at e;cases e
   exact hp b i hs y
  |none=>
   obtain⟨_,h3⟩:=h.new b i x hs
   rcases h3 with h3 |⟨b1,i1,x1,y1,z1⟩
   ·omega
   ·have:=hp b1 i1 x1 (by omega);omega
end
end Go.D
namespace Go.D
open Go
theorem dX{a b:Nat}:Nat.blt a b=decide (a < b):=by
 cases h:Nat.blt a b with
 |true=>
  have h2:Nat.ble (a+1) b=true:=h
  have:=Nat.le_of_ble_eq_true h2
  simp;omega
 |false=>
  have h2:Nat.ble (a+1) b=false:=h
  have:¬(a+1<=b):=fun hle=>by rw[Nat.ble_eq_true_of_le hle]at h2;cases h2
  simp;omega
theorem M.dW(m:M)(b:Nat):m.get b=if b < m.n then(m.st.get b).getD .dead else .dead:=by
 unfold M.get
 rw[dX]
 by_cases h:b < m.n <;>simp[h]
theorem M.eI(m:M)(o:Ob)(b:Nat):(m.push o).get b=if b=m.n then o else m.get b:=by
 rw[M.dW,M.dW]
 simp only[M.push,Tr.bL]
 by_cases h:b=m.n
 ·subst h;simp
 ·by_cases h1:b < m.n
  ·rw[if_pos (by omega),if_neg h,if_neg h,if_pos h1]
  ·rw[if_neg (by omega),if_neg h,if_neg h1]
theorem M.bL(m:M)(b:Nat)(o:Ob)(c:Nat)(hb:b < m.n):(m.set b o).get c=if c=b then o else m.get c:=by
 rw[M.dW,M.dW]
 simp only[M.set,Tr.bL]
 by_cases h:c=b
 ·subst h;simp[hb]
 ·simp[h]
theorem M.kb{m:M}{b:Nat}(h:m.get b≠.dead):b < m.n:=by
 rw[M.dW]at h
 by_cases hb:b < m.n
 ·exact hb
 ·rw[if_neg hb]at h;exact absurd rfl h
section
variable {P:Program} {σ σ' τ:Sg} {m m' m2:M} {w w' w2:World}
theorem ng.bt{i:BI}{ob:Ob}(h:ng σ i w ob)(hle:σ.le τ)(hw:w'.heap[i.cG]?=w.heap[i.cG]?):ng τ i w' ob:=by
 cases ob with
 |dead=>trivial
 |cells c e g=>
  obtain⟨c',h1,h2,h3,h4⟩:=h
  exact⟨c',hw.trans h1,h2,h3.mono hle,h4⟩
 |map es clock=>
  obtain⟨hg,es',h1,h2,h3⟩:=h
  refine⟨hg,es',hw.trans h1,h2,fun j e e' x y=>?_⟩
  obtain⟨a,b,c,d⟩:=h3 j e e' x y
  exact⟨a,b,c,d.mono hle⟩
 |loop r=>
  obtain⟨hg,r',nt,h1,h2,h3,h4,h5,h6,h7,h8,h9⟩:=h
  exact⟨hg,r',nt,hw.trans h1,h2,h3,h4,h5,h6,h7,fun t ht=>(h8 t ht).mono hle,h9⟩
 |ro c=>
  obtain⟨hg,c',e',fz,h1,h2,h3⟩:=h
  exact⟨hg,c',e',fz,hw.trans h1,h2,fun j u u' x y z=>(h3 j u u' x y z).mono hle⟩
def Sg.add(σ:Sg)(b:Nat)(i:BI):Sg:=fun c=>if c=b then some i else σ c
theorem Sg.add_same(b:Nat)(i:BI):(σ.add b i) b=some i:=by simp[Sg.add]
theorem Sg.pP{b:Nat}{i:BI}(h:σ b=none):σ.le (σ.add b i):=by
 intro c j hc
 unfold Sg.add
 by_cases hcb:c=b
 ·subst hcb;rw[h]at hc;cases hc
 ·rw[if_neg hcb];exact hc
theorem dN.jb(h:dN P σ m w):σ m.n=none:=by
 cases hs:σ m.n with
 |none=>rfl
 |some i=>have:=h.mI _ _ hs;omega
theorem Ev.mA{ob:Ob}{o:Obj}{gr:Option (Nat×Nat×Nat)}(h:dN P σ m w)
  (hh:ng (σ.add m.n ⟨w.heap.size,gr⟩) ⟨w.heap.size,gr⟩ (w.alloc o) ob):Ev P σ m w (σ.add m.n ⟨w.heap.size,gr⟩) (m.push ob) (w.alloc o):=by
 have hn:=h.jb
 have hle:=Sg.pP (i:=⟨w.heap.size,gr⟩) hn
 have hold:∀B,B < w.heap.size->(w.alloc o).heap[B]?=w.heap[B]?:=fun B hB=>heap_alloc_old w o hB
 have hpn:(m.push ob).n=m.n+1:=rfl
 have hsz:(w.alloc o).heap.size=w.heap.size+1:=by simp
 have hcase:∀b i,(σ.add m.n ⟨w.heap.size,gr⟩) b=some i->(b=m.n/\i=⟨w.heap.size,gr⟩)\/(b≠m.n/\σ b=some i):=by
  intro b i hb
  unfold Sg.add at hb
  by_cases hbn:b=m.n
  ·rw[if_pos hbn]at hb;exact .inl ⟨hbn,by injection hb with hb;exact hb.symm⟩
  ·rw[if_neg hbn]at hb;exact .inr ⟨hbn,hb⟩
 refine⟨hle,⟨?_,?_,?_,?_,?_⟩,Nat.le_refl _,by omega,by omega,?_,?_,fun B hB _=>hold B hB,rfl,rfl,rfl⟩
 ·intro b i hb
  rcases hcase b i hb with⟨rfl,_⟩ |⟨_,hb⟩
  ·omega
  ·have:=h.mI b i hb;omega
 ·intro b i hb
  rw[M.eI]
  rcases hcase b i hb with⟨rfl,rfl⟩ |⟨hne,hb⟩
  ·rw[if_pos rfl];exact hh
  ·rw[if_neg hne];exact(h.obj b i hb).bt hle (hold _ (h.lt b i hb))
 ·intro b i hb
  rcases hcase b i hb with⟨_,rfl⟩ |⟨_,hb⟩
  ·show w.heap.size < _;omega
  ·have:=h.lt b i hb;omega
 ·intro b b' i i' hb hb' hd hd' he
  rw[M.eI]at hd hd'
  rcases hcase b i hb with⟨rfl,rfl⟩ |⟨hne,hb⟩ <;>rcases hcase b' i' hb' with⟨rfl,rfl⟩ |⟨hne',hb'⟩
  ·rfl
  ·have:=h.lt b' i' hb';dsimp only at he;omega
  ·have:=h.lt b i hb;dsimp only at he;omega
  ·rw[if_neg hne]at hd;rw[if_neg hne']at hd';exact h.inj b b' i i' hb hb' hd hd' he
 ·intro g hg
  exact hle g _ (h.iy g hg)
 ·intro b i hb hs
  rcases hcase b i hb with⟨rfl,rfl⟩ |⟨_,hb⟩
  ·exact⟨Nat.le_refl _,.inl (Nat.le_refl _)⟩
  ·rw[hs]at hb;cases hb
 ·intro b _ hb
  rw[M.eI,if_neg (by omega)]
theorem Ev.write{b:Nat}{i:BI}{ob:Ob}(h:dN P σ m w)(hb:σ b=some i)(hd:m.get b≠.dead)(hh:ng σ i w' ob)
  (hw:∀B,B≠i.cG->w'.heap[B]?=w.heap[B]?) (hs:w'.heap.size=w.heap.size) (ho:w'.os=w.os) (ht:w'.tape=w.tape) (hu:w'.output=w.output):
  Ev P σ m w σ (m.set b ob) w':=by
 have hbn:=M.kb hd
 have hlow:(m.set b ob).low=min m.low b:=rfl
 refine⟨fun _ _ x=>x,⟨h.mI,?_,fun c j hc=>(by rw[hs];exact h.lt c j hc),?_,h.iy⟩,by omega,Nat.le_refl _,by omega,fun c j hc hn=>(by rw[hc]at hn;cases hn),?_,?_,ho,ht,hu⟩
 ·intro c j hc
  rw[M.bL _ _ _ _ hbn]
  by_cases hcb:c=b
  ·subst hcb;rw[hb]at hc;cases hc;rw[if_pos rfl];exact hh
  ·rw[if_neg hcb]
   by_cases hdc:m.get c=.dead
   ·rw[hdc];trivial
   ·exact(h.obj c j hc).bt (fun _ _ x=>x) (hw _ (fun e=>hcb (h.inj c b j i hc hb hdc hd e)))
 ·intro c c' j j' hc hc' hl hl' he
  rw[M.bL _ _ _ _ hbn]at hl hl'
  have live:∀x,(if x=b then ob else m.get x)≠.dead->m.get x≠.dead:=by
   intro x hx
   by_cases hxb:x=b
   ·subst hxb;exact hd
   ·rwa[if_neg hxb]at hx
  exact h.inj c c' j j' hc hc' (live _ hl) (live _ hl') he
 ·intro c hc hcn
  rw[M.bL _ _ _ _ hbn,if_neg (by omega)]
 ·intro B hB hp
  refine hw B (fun e=>?_)
  have:=hp b i hb e.symm
  omega
theorem Ev.Ls{b:Nat}{i:BI}{ob:Ob}{gr:Option (Nat×Nat×Nat)}(h:dN P σ m w)(hb:σ b=some i)(hd:m.get b≠.dead)
  (hh:ng (σ.add m.n ⟨i.cG,gr⟩) ⟨i.cG,gr⟩ w' ob)
  (hw:∀B,B≠i.cG->w'.heap[B]?=w.heap[B]?) (hs:w'.heap.size=w.heap.size) (ho:w'.os=w.os) (ht:w'.tape=w.tape) (hu:w'.output=w.output):
  Ev P σ m w (σ.add m.n ⟨i.cG,gr⟩) ((m.set b .dead).push ob) w':=by
 have hbn:=M.kb hd
 have hn:=h.jb
 have hle:=Sg.pP (i:=⟨i.cG,gr⟩) hn
 have hsn:(m.set b .dead).n=m.n:=rfl
 have hpn:((m.set b .dead).push ob).n=m.n+1:=rfl
 have hlow:((m.set b .dead).push ob).low=min m.low b:=rfl
 have hget:∀c,((m.set b .dead).push ob).get c=if c=m.n then ob else if c=b then .dead else m.get c:=by
  intro c
  rw[M.eI,hsn,M.bL _ _ _ _ hbn]
 have hcase:∀c j,(σ.add m.n ⟨i.cG,gr⟩) c=some j->(c=m.n/\j=⟨i.cG,gr⟩)\/(c≠m.n/\σ c=some j):=by
  intro c j hc
  unfold Sg.add at hc
  by_cases hcn:c=m.n
  ·rw[if_pos hcn]at hc;exact .inl ⟨hcn,by injection hc with hc;exact hc.symm⟩
  ·rw[if_neg hcn]at hc;exact .inr ⟨hcn,hc⟩
 refine⟨hle,⟨?_,?_,?_,?_,?_⟩,by omega,by omega,by omega,?_,?_,?_,ho,ht,hu⟩
 ·intro c j hc
  rcases hcase c j hc with⟨rfl,_⟩ |⟨_,hc⟩
  ·omega
  ·have:=h.mI c j hc;omega
 ·intro c j hc
  rw[hget]
  rcases hcase c j hc with⟨rfl,rfl⟩ |⟨hne,hc⟩
  ·rw[if_pos rfl];exact hh
  ·rw[if_neg hne]
   by_cases hcb:c=b
   ·rw[if_pos hcb];trivial
   ·rw[if_neg hcb]
    by_cases hdc:m.get c=.dead
    ·rw[hdc];trivial
    ·exact(h.obj c j hc).bt hle (hw _ (fun e=>hcb (h.inj c b j i hc hb hdc hd e)))
 ·intro c j hc
  rcases hcase c j hc with⟨_,rfl⟩ |⟨_,hc⟩
  ·have:=h.lt b i hb;rw[hs];exact this
  ·rw[hs];exact h.lt c j hc
 ·intro c c' j j' hc hc' hl hl' he
  rw[hget]at hl hl'
  rcases hcase c j hc with⟨rfl,rfl⟩ |⟨hne,hc⟩ <;>rcases hcase c' j' hc' with⟨rfl,rfl⟩ |⟨hne',hc'⟩
  ·rfl
  ·rw[if_neg hne']at hl'
   by_cases hcb:c'=b
   ·rw[if_pos hcb]at hl';exact absurd rfl hl'
   ·rw[if_neg hcb]at hl';exact absurd (h.inj b c' i j' hb hc' hd hl' he).symm hcb
  ·rw[if_neg hne]at hl
   by_cases hcb:c=b
   ·rw[if_pos hcb]at hl;exact absurd rfl hl
   ·rw[if_neg hcb]at hl;exact absurd (h.inj c b j i hc hb hl hd he) hcb
  ·rw[if_neg hne]at hl;rw[if_neg hne']at hl'
   by_cases hcb:c=b
   ·rw[if_pos hcb]at hl;exact absurd rfl hl
   ·by_cases hcb':c'=b
    ·rw[if_pos hcb']at hl';exact absurd rfl hl'
    ·rw[if_neg hcb]at hl;rw[if_neg hcb']at hl';exact h.inj c c' j j' hc hc' hl hl' he
 ·intro g hg
  exact hle g _ (h.iy g hg)
 ·intro c j hc hns
  rcases hcase c j hc with⟨rfl,rfl⟩ |⟨_,hc⟩
  ·exact⟨Nat.le_refl _,.inr ⟨b,i,hb,rfl,by omega⟩⟩
  ·rw[hns]at hc;cases hc
 ·intro c hc hcn
  rw[hget,if_neg (by omega),if_neg (by omega)]
 ·intro B hB hp
  refine hw B (fun e=>?_)
  have:=hp b i hb e.symm
  omega
theorem dN.of_heap(h:dN P σ m w)(he:w'.heap=w.heap):dN P σ m w':=
 ⟨h.mI,fun b i hb=>(h.obj b i hb).bt (fun _ _ x=>x) (by rw[he]),fun b i hb=>(by rw[he];exact h.lt b i hb),h.inj,h.iy⟩
theorem Ev.of_heap(h:dN P σ m w)(he:w'.heap=w.heap)(ho:w'.os=w.os)(ht:w'.tape=w.tape)(hu:w'.output=w.output):Ev P σ m w σ m w':=
 ⟨fun _ _ x=>x,h.of_heap he,Nat.le_refl _,Nat.le_refl _,(by rw[he];exact Nat.le_refl _),fun b i x y=>(by rw[x]at y;cases y),fun _ _ _=>rfl,fun _ _ _=>(by rw[he]),ho,ht,hu⟩
end
end Go.D
namespace Go.D
open Go
section
variable {E:Env} {P:Program}
structure VP(P:Program)(t:TypeId)(ti:TI)(i:TypeInfo)(u:TypeDesc):Prop where
 info:P.info? t=some i
 ed:P.underlying t=some u
 d:ti.d=fI P u
 size:ti.size=i.size
 bytes:ti.bytes=i.bytes
 zero:ti.zero=i.zero
 es:ti.es=sG P u
 cmp:ti.cmp=Ce P t u
theorem Env.OK.jJ(hE:E.OK P){t:TypeId}{ti:TI}(h:E.ty.get t=some ti):∃i u,VP P t ti i u:=by
 have h:=hE.ty t ti h
 unfold Lz at h
 cases hi:P.info? t with
 |none=>rw[hi]at h;simp at h
 |some i=>
  cases hu:P.underlying t with
  |none=>rw[hi,hu]at h;simp at h
  |some u=>
   rw[hi,hu]at h
   simp only[Option.bind_eq_bind,Option.bind_some,Option.some.injEq]at h
   subst h
   exact⟨i,u,hi,hu,rfl,rfl,rfl,rfl,rfl,rfl⟩
theorem aJ.eH{σ:Sg}{v:Value}(h:bD v=true):aJ σ v v:=by
 cases v with
 |tuple vs=>
  refine .tuple _ _ rfl fun j u u' a b=>?_
  rw[a]at b;cases b
  exact .eb (List.all_eq_true.1 h u (by simpa using Array.mem_of_getElem? a))
 |_=>exact .eb h
theorem Env.OK.flat(hE:E.OK P){t:TypeId}{ti:TI}{z:Value}(h:E.ty.get t=some ti)(hz:ti.zero=some z):bD z=true:=by
 have hc:=hE.zw
 unfold Env.zw at hc
 simp only[Bool.and_eq_true]at hc
 have:=List.all_eq_true.1 hc.1 _ (Tr.get_mem E.ty t 1 0 h)
 simp only[Bool.and_eq_true,hz]at this
 exact this.1
theorem Env.OK.Yl(hE:E.OK P){t:TypeId}{ti:TI}{fs:List Fd}{f:Fd}(h:E.ty.get t=some ti)(hd:ti.d=.struct fs)(hf:f∈fs):∃fi,E.ty.get f.ty=some fi/\fi.size=f.size:=by
 have hc:=hE.zw
 unfold Env.zw at hc
 simp only[Bool.and_eq_true]at hc
 have:=List.all_eq_true.1 hc.1 _ (Tr.get_mem E.ty t 1 0 h)
 simp only[Bool.and_eq_true,hd]at this
 have h2:=List.all_eq_true.1 this.2 f hf
 cases hg:E.ty.get f.ty with
 |none=>rw[hg]at h2;simp at h2
 |some fi=>rw[hg]at h2;exact⟨fi,rfl,by simpa using h2⟩
theorem Env.OK.code(hE:E.OK P){f:FuncId}{fn:Func}(h:E.fn.get f=some fn):iP P.globals.size fn=true:=by
 have hc:=hE.zw
 unfold Env.zw at hc
 simp only[Bool.and_eq_true]at hc
 have:=List.all_eq_true.1 hc.2.1 _ (Tr.get_mem E.fn f 1 0 h)
 rw[hE.G]at this
 exact this
theorem Env.OK.O7(hE:E.OK P){f:FuncId}{d:Nl}(h:E.df.get f=some d):iP P.globals.size d.fn=true:=by
 have hc:=hE.zw
 unfold Env.zw at hc
 simp only[Bool.and_eq_true]at hc
 have:=List.all_eq_true.1 hc.2.2.1 _ (Tr.get_mem E.df f 1 0 h)
 rw[hE.G]at this
 exact this
theorem Env.OK.O8(hE:E.OK P){f:FuncId}{d:JZ}(h:E.cl.get f=some d):iP P.globals.size d.fn=true:=by
 have hc:=hE.zw
 unfold Env.zw at hc
 simp only[Bool.and_eq_true]at hc
 have:=List.all_eq_true.1 hc.2.2.2 _ (Tr.get_mem E.cl f 1 0 h)
 rw[hE.G]at this
 exact this
theorem mC{u:TypeDesc}(h:fI P u=.bool):u=.bool:=by cases u <;>simp[fI]at h⊢
theorem jv{u:TypeDesc}{k:IntKind}(h:fI P u=.int k):u=.int k:=by cases u <;>simp[fI]at h⊢;exact h
theorem fV{u:TypeDesc}(h:fI P u=.str):u=.string:=by cases u <;>simp[fI]at h⊢
theorem cT{u:TypeDesc}{e:Nat}(h:fI P u=.slice e):u=.slice e:=by cases u <;>simp[fI]at h⊢;exact h
theorem gI{u:TypeDesc}{n e:Nat}(h:fI P u=.array n e):u=.array n e:=by cases u <;>simp[fI]at h⊢;exact h
theorem ju{u:TypeDesc}{k e:Nat}(h:fI P u=.map k e):u=.map k e:=by cases u <;>simp[fI]at h⊢;exact h
theorem pN{u:TypeDesc}(h:fI P u=.func):∃a b c,u=.func a b c:=by cases u <;>simp[fI]at h⊢
def oI(P:Program)(f:Field):Fd:=⟨f.type,f.offset,((P.info? f.type).map (·.size)).getD 0,f.name== "_" ||(P.info? f.type).isNone⟩
theorem yE{u:TypeDesc}{e:Nat}(h:fI P u=.ptr e):u=.pointer e:=by cases u <;>simp[fI]at h⊢;exact h
theorem rX{u:TypeDesc}{b:Bool}(h:fI P u=.iface b):∃ms:Array (String×TypeId),u=.interface ms/\ms.isEmpty=b:=by cases u <;>simp[fI]at h⊢;exact h
theorem eS{u:TypeDesc}{fs:List Fd}(h:fI P u=.struct fs):∃gs:Array Field,u=.struct gs/\fs=gs.toList.map (oI P):=by
 cases u <;>simp[fI]at h
 exact⟨_,rfl,h.symm⟩
theorem oH(u:TypeDesc)(w:World)(t:TypeId)(h:P.underlying t=some u):(isAgg t).run P w=.ok (fI P u).agg w:=by
 unfold isAgg
 rw[Sem.run_bind,run_underlying h,Result.andThen_ok]
 cases u <;>rfl
theorem run_typeInfo{t:TypeId}{i:TypeInfo}(h:P.info? t=some i)(w:World):(typeInfo t).run P w=.ok i w:=by
 simp[typeInfo,program,Sem.run,h]
theorem run_sizeOf{t:TypeId}{i:TypeInfo}(h:P.info? t=some i)(w:World):(sizeOf t).run P w=.ok i.size w:=by
 unfold sizeOf
 rw[Sem.run_bind,run_typeInfo h]
 rfl
theorem dq{t:TypeId}{i:TypeInfo}{z:Value}(h:P.info? t=some i)(hz:i.zero=some z)(w:World):(zeroValue t).run P w=.ok z w:=by
 unfold zeroValue
 rw[Sem.run_bind,run_typeInfo h,Result.andThen_ok]
 simp[hz]
variable {σ:Sg} {m m':M} {w:World}
theorem dN.cells(h:dN P σ m w){b:Nat}{i:BI}(hb:σ b=some i){c:List Value}{e:TypeId}{g:Option Nat}(hg:m.get b=.cells c e g):
  ∃c':Array Value,w.heap[i.cG]?=some (.cells c' e (0,0))/\c.length<=c'.size/\aU σ c (c'.toList.take c.length)/\Nk i c.length c'.size g:=by
 have:=h.obj b i hb
 rw[hg]at this
 exact this
theorem dN.ro(h:dN P σ m w){b:Nat}{i:BI}(hb:σ b=some i){c:List Value}(hg:m.get b=.ro c):
  ∃(c':Array Value) (e':TypeId) (fz:Nat×Nat),w.heap[i.cG]?=some (.cells c' e' fz)/\c.length<=c'.size/\∀(j:Nat) u u',c[j]?=some u->c'[j]?=some u'->one u=true->aJ σ u u':=by
 have:=h.obj b i hb
 rw[hg]at this
 exact this.2
theorem dz(b o n:Nat):(⟨b,o,none⟩:Addr).add n=⟨b,o+n,none⟩:=by
 unfold Addr.add;split <;>simp_all
theorem fB(hs:dN P σ m w){a:Addr}{i:BI}(ha:σ a.block=some i){n:Nat}{cs:List Value}(h:loadCells m a n=some cs):
  ∃cs':List Value,(Go.loadCells ⟨i.cG,a.off,none⟩ n).run P w=.ok cs'.toArray w/\aU σ cs cs'/\cs.length=n/\a.spot=none:=by
 unfold loadCells at h
 split at h
 ·rename_i c e g hg
  cases hc:(a.spot.isNone && Nat.ble (a.off+n) c.length)with
  |false=>rw[hc]at h;simp at h
  |true=>
   rw[hc]at h
   simp only[cond_true,Option.some.injEq]at h
   subst h
   simp only[Bool.and_eq_true]at hc
   have hle:=Nat.le_of_ble_eq_true hc.2
   obtain⟨c',h1,h2,h3,_⟩:=hs.cells ha hg
   have hlen:((c.drop a.off).take n).length=n:=by simp;omega
   refine⟨((c'.toList.take c.length).drop a.off).take n,?_,(h3.drop _).take _,hlen,by simpa using hc.1⟩
   have hl:(((c'.toList.take c.length).drop a.off).take n).length=n:=by simp;omega
   have:=run_loadCells_list (P:=P) w ⟨i.cG,a.off,none⟩ (((c'.toList.take c.length).drop a.off).take n) (fun j v hj=>by
    rw[dz]
    have hjn:j < n:=by
     have:=(List.getElem?_eq_some_iff.1 hj).1;omega
    rw[List.getElem?_take_of_lt hjn,List.getElem?_drop,List.getElem?_take_of_lt (by omega)]at hj
    simp only[World.cell?,h1]
    simpa using hj)
   rw[hl]at this
   exact this
 ·rename_i c hg
  cases hc:(a.spot.isNone && Nat.ble (a.off+n) c.length && ((c.drop a.off).take n).all one)with
  |false=>rw[hc]at h;simp at h
  |true=>
   rw[hc]at h
   simp only[cond_true,Option.some.injEq]at h
   subst h
   simp only[Bool.and_eq_true]at hc
   have hle:=Nat.le_of_ble_eq_true hc.1.2
   obtain⟨c',e',fz,h1,h2,h3⟩:=hs.ro ha hg
   have hlen:((c.drop a.off).take n).length=n:=by simp;omega
   have hl:((c'.toList.drop a.off).take n).length=n:=by simp;omega
   have hr:aU σ ((c.drop a.off).take n) ((c'.toList.drop a.off).take n):=⟨by rw[hlen,hl],fun j u u' x y=>by
    have hone:=List.all_eq_true.1 hc.2 u (List.mem_of_getElem? x)
    have hjn:j < n:=by
     have:=(List.getElem?_eq_some_iff.1 x).1;omega
    rw[List.getElem?_take_of_lt hjn,List.getElem?_drop]at x y
    exact h3 _ u u' x (by simpa using y) hone⟩
   refine⟨(c'.toList.drop a.off).take n,?_,hr,hlen,by simpa using hc.1.1⟩
   have:=run_loadCells_list (P:=P) w ⟨i.cG,a.off,none⟩ ((c'.toList.drop a.off).take n) (fun j v hj=>by
    rw[dz]
    have hjn:j < n:=by
     have:=(List.getElem?_eq_some_iff.1 hj).1;omega
    rw[List.getElem?_take_of_lt hjn,List.getElem?_drop]at hj
    simp only[World.cell?,h1]
    simpa using hj)
   rw[hl]at this
   exact this
 ·cases h
theorem wh(hs:dN P σ m w){a:Addr}{i:BI}(ha:σ a.block=some i){v:Value}(h:cellAt m a=some v):
  ∃v',w.cell? ⟨i.cG,a.off,none⟩=some v'/\aJ σ v v'/\a.spot=none:=by
 unfold cellAt at h
 split at h
 ·rename_i c e g hg
  by_cases hsp:a.spot.isNone=true
  ·rw[if_pos hsp]at h
   obtain⟨c',h1,h2,h3,_⟩:=hs.cells ha hg
   obtain⟨u',hu,hr⟩:=h3.get h
   have hlt:=(List.getElem?_eq_some_iff.1 h).1
   rw[List.getElem?_take_of_lt hlt]at hu
   exact⟨u',by simp only[World.cell?,h1];simpa using hu,hr,by simpa using hsp⟩
  ·rw[if_neg hsp]at h;cases h
 ·rename_i c hg
  by_cases hsp:a.spot.isNone=true
  ·rw[if_pos hsp]at h
   obtain⟨c',e',fz,h1,h2,h3⟩:=hs.ro ha hg
   cases hx:c[a.off]? with
   |none=>rw[hx]at h;cases h
   |some u=>
    rw[hx]at h
    dsimp only at h
    cases hone:one u with
    |false=>rw[hone]at h;cases h
    |true=>
     rw[hone]at h
     simp only[cond_true,Option.some.injEq]at h
     subst h
     have hlt:=(List.getElem?_eq_some_iff.1 hx).1
     have hlt':a.off < c'.size:=by omega
     exact⟨c'[a.off],by simp only[World.cell?,h1];simp[hlt'],h3 _ _ _ hx (Array.getElem?_eq_getElem hlt') hone,by simpa using hsp⟩
  ·rw[if_neg hsp]at h;cases h
 ·cases h
theorem mV(hE:E.OK P)(hs:dN P σ m w){t:TypeId}{a:Addr}{i:BI}(ha:σ a.block=some i){v:Value}(h:loadVar E m t a=some v):
  ∃v',(Go.loadVar t ⟨i.cG,a.off,none⟩).run P w=.ok v' w/\aJ σ v v'/\a.spot=none:=by
 unfold loadVar at h
 split at h
 ·rename_i ti hti
  obtain⟨inf,u,f⟩:=hE.jJ hti
  unfold Go.loadVar
  rw[Sem.run_bind,oH u w t f.ed,Result.andThen_ok,<-f.d]
  cases hag:ti.d.agg with
  |true=>
   rw[hag]at h
   simp only[cond_true,Option.map_eq_some_iff]at h
   obtain⟨cs,hcs,rfl⟩:=h
   obtain⟨cs',h1,h2,_,h4⟩:=fB hs ha hcs
   refine⟨.agg cs'.toArray,?_,h2.agg,h4⟩
   simp only[if_true,Sem.run_bind,run_sizeOf f.info,Result.andThen_ok]
   rw[<-f.size,h1]
   rfl
  |false=>
   rw[hag]at h
   simp only[cond_false]at h
   obtain⟨v',h1,h2,h3⟩:=wh hs ha h
   refine⟨v',?_,h2,h3⟩
   simp[h1]
 ·cases h
theorem zL{σ:Sg}{c c' vs vs':List Value}{o:Nat}(hl:c.length<=c'.length)(h:aU σ c (c'.take c.length))(hv:aU σ vs vs')(ho:o+vs.length<=c.length):
  aU σ (c.take o++(vs++c.drop (o+vs.length))) ((c'.take o++vs'++c'.drop (o+vs'.length)).take c.length):=by
 have e:(c'.take o++vs'++c'.drop (o+vs'.length)).take c.length=(c'.take c.length).take o++(vs'++(c'.take c.length).drop (o+vs'.length)):=by
  have hlv:=hv.1
  rw[List.append_assoc,List.take_append,List.take_append,List.take_take,List.length_take]
  have h1:min o c'.length=o:=by omega
  have h2:List.take c.length (List.take o c')=List.take o c':=by rw[List.take_take];congr 1;omega
  rw[h1,List.take_of_length_le (l:=vs') (by omega),List.take_take]
  congr 1
  ·congr 1;omega
  ·congr 1
   rw[List.take_drop]
   congr 1
   congr 1;omega
 rw[e,<-hv.1]
 exact(h.take o).append (hv.append (h.drop _))
theorem fg(hs:dN P σ m w){a:Addr}{i:BI}(ha:σ a.block=some i){vs vs':List Value}(hv:aU σ vs vs')(h:storeCells m a vs=some m'):
  ∃w',(Go.storeCells ⟨i.cG,a.off,none⟩ vs').run P w=.ok () w'/\Ev P σ m w σ m' w'/\a.spot=none/\∀B,B≠i.cG->w'.heap[B]?=w.heap[B]?:=by
 unfold storeCells at h
 split at h
 ·rename_i c e g hg
  cases hc:(a.spot.isNone && Nat.ble (a.off+vs.length) c.length && vs.all one)with
  |false=>rw[hc]at h;simp at h
  |true=>
   rw[hc]at h
   simp only[cond_true,Option.some.injEq]at h
   subst h
   simp only[Bool.and_eq_true]at hc
   have hle:=Nat.le_of_ble_eq_true hc.1.2
   obtain⟨c',h1,h2,h3,h4⟩:=hs.cells ha hg
   have hone:=hv.nB hc.2
   have hrun:=run_storeCells_at (P:=P) i.cG a.off e vs' 0 c' w h1 (by rw[<-hv.1];omega) hone
   simp only[Nat.add_zero]at hrun
   have hoth:∀B,B≠i.cG->(w.setRow i.cG (c'.toList.take a.off++vs'++c'.toList.drop (a.off+vs'.length)).toArray).heap[B]?=w.heap[B]?:=by
    intro B hB
    simp only[World.setRow,Array.getElem?_modify]
    rw[if_neg (fun e=>hB e.symm)]
   refine⟨_,hrun,?_,by simpa using hc.1.1,hoth⟩
   have hlen:(c'.toList.take a.off++vs'++c'.toList.drop (a.off+vs'.length)).length=c'.size:=by
    have:=hv.1
    simp;omega
   refine Ev.write hs ha (by rw[hg];simp) ?_ ?_ ?_ rfl rfl rfl
   ·have hlc:(c.take a.off++(vs++c.drop (a.off+vs.length))).length=c.length:=by simp;omega
    refine⟨_,setRow_heap w i.cG c' _ e _ h1,?_,?_,?_⟩
    ·rw[hlc];simp only[List.size_toArray,hlen];exact h2
    ·rw[hlc]
     exact zL (by simpa using h2) h3 hv (by omega)
    ·rw[hlc]
     simp only[List.size_toArray,hlen]
     exact h4
   ·exact hoth
   ·simp[World.setRow]
 ·cases h
theorem lF(hE:E.OK P)(hs:dN P σ m w){t:TypeId}{a:Addr}{i:BI}(ha:σ a.block=some i){v v':Value}(hv:aJ σ v v')(h:storeVar E m t a v=some m'):
  ∃w',(Go.storeVar t ⟨i.cG,a.off,none⟩ v').run P w=.ok () w'/\Ev P σ m w σ m' w'/\a.spot=none/\∀B,B≠i.cG->w'.heap[B]?=w.heap[B]?:=by
 unfold storeVar at h
 split at h
 ·rename_i ti hti
  obtain⟨inf,u,f⟩:=hE.jJ hti
  have hc:=hv.cells
  cases hsz:Nat.beq (cells v).length ti.size with
  |false=>rw[hsz]at h;simp at h
  |true=>
   rw[hsz]at h
   simp only[cond_true]at h
   have he:=Nat.eq_of_beq_eq_true hsz
   obtain⟨w',h1,h2,h3⟩:=fg hs ha hc h
   refine⟨w',?_,h2,h3⟩
   unfold Go.storeVar
   rw[Sem.run_bind,run_sizeOf f.info,Result.andThen_ok]
   have hl:v'.cells.size=inf.size:=by rw[<-f.size,<-he,hc.1];simp
   simp[hl,h1]
 ·cases h
end
end Go.D
namespace Go.D
open Go
section
variable {E:Env} {P:Program} {w:World}
theorem eX:∀{ks:List Kd} {xs ys:List Value} {b:Bool},bR ks xs ys=some b->xs.length=ks.length/\ys.length=ks.length
 |[],[],[],_,_=>⟨rfl,rfl⟩
 |[],[],_::_,_,h=>by simp[bR]at h
 |[],_::_,_,_,h=>by simp[bR]at h
 |_::_,[],_,_,h=>by simp[bR]at h
 |_::_,_::_,[],_,h=>by simp[bR]at h
 |k::ks,a::x,c::y,b,h=>by
  unfold bR at h
  split at h
  ·rename_i h1
   obtain⟨e1,e2⟩:=eX h1
   simp[e1,e2]
  ·cases h
theorem jB:∀{k1 k2:List Kd} {xs ys:List Value} {b:Bool},bR (k1++k2) xs ys=some b->
  ∃b1 b2,bR k1 (xs.take k1.length) (ys.take k1.length)=some b1/\bR k2 (xs.drop k1.length) (ys.drop k1.length)=some b2/\b=(b1 && b2)
 |[],_,_,_,b,h=>⟨true,b,by simp[bR],by simpa using h,by simp⟩
 |k::k1,k2,[],_,_,h=>by simp[bR]at h
 |k::k1,k2,_::_,[],_,h=>by simp[bR]at h
 |k::k1,k2,a::x,c::y,b,h=>by
  simp only[List.cons_append,bR]at h
  split at h
  ·rename_i b0 r h0 h1
   obtain⟨c1,c2,e1,e2,e3⟩:=jB h1
   simp only[Option.some.injEq]at h
   exact⟨b0 && c1,c2,by simp[bR,h0,e1],by simpa using e2,by rw[<-h,e3,Bool.and_assoc]⟩
  ·cases h
def valOf(u:TypeDesc)(cs:List Value):Value:=
 match u with
 |.struct _ |.array _ _=> .agg cs.toArray
 |_=>cs.headD undef
def Cm:TypeDesc->Nat->Prop
 |.struct _,_=>True
 |.array _ _,_=>True
 |_,n=>n=1
theorem nd(ks:List Kd):∀n:Nat,(kW ks n).length=n*ks.length
 |0=>by simp[kW]
 |n+1=>by unfold kW;rw[List.length_append,nd ks n,Nat.add_mul];omega
theorem oj{t:TypeId}{i:TypeInfo}{u:TypeDesc}(hi:P.info? t=some i)(hu:P.underlying t=some u)(cs:List Value)(off:Nat)(h:off+i.size<=cs.length)
  (h1:Cm u i.size):(Go.part t cs.toArray off).run P w=.ok (valOf u ((cs.drop off).take i.size)) w:=by
 have hext:cs.toArray.extract off (off+i.size)=((cs.drop off).take i.size).toArray:=by
  apply Array.ext'
  rw[Array.toList_extract,List.extract_eq_take_drop]
  congr 1
  omega
 have hag:=oH (P:=P) u w t hu
 unfold Go.part
 rw[Sem.run_bind,hag,Result.andThen_ok]
 have basic:(fI P u).agg=false->i.size=1->valOf u ((cs.drop off).take i.size)=cs[off]?.getD undef->
   (if(fI P u).agg=true then do let n<-sizeOf t;pure (Value.agg (cs.toArray.extract off (off+n)))else match cs.toArray[off]? with |some v=>pure v |none=>stuck "part: no such cell" :Sem Value).run P w=.ok (valOf u ((cs.drop off).take i.size)) w:=by
  intro ha hs hv
  have hlt:off < cs.length:=by omega
  rw[hv,ha]
  simp[List.getElem?_eq_getElem hlt]
 have head:i.size=1->((cs.drop off).take i.size).headD undef=cs[off]?.getD undef:=by
  intro hs
  have hlt:off < cs.length:=by omega
  rw[hs,List.drop_eq_getElem_cons hlt,List.getElem?_eq_getElem hlt]
  rfl
 cases u with
 |struct fs=>
  have:(fI P (.struct fs)).agg=true:=rfl
  simp only[this,if_true,Sem.run_bind,run_sizeOf hi,Result.andThen_ok,Sem.run_pure,hext,valOf]
 |array n e=>
  have:(fI P (.array n e)).agg=true:=rfl
  simp only[this,if_true,Sem.run_bind,run_sizeOf hi,Result.andThen_ok,Sem.run_pure,hext,valOf]
 |_=>exact basic rfl h1 (head h1)
theorem vV{d:Nat}{t:TypeId}{k:Kd}{u:TypeDesc}(hu:P.underlying t=some u)(hk:(u=.bool/\k=.b)\/((∃q,u=.int q)/\k=.i)\/(u=.string/\k=.s)){x y:Value}{b:Bool}
  (h:BY k x y=some b):(Op.equalIn (d+1) t x y).run P w=.ok b w:=by
 rcases hk with⟨rfl,rfl⟩ |⟨⟨q,rfl⟩,rfl⟩ |⟨rfl,rfl⟩
 ·cases x <;>cases y <;>simp[BY]at h
  subst h
  simp[Op.equalIn,run_underlying hu]
 ·cases x <;>cases y <;>simp[BY]at h
  obtain⟨rfl,rfl⟩:=h
  simp[Op.equalIn,run_underlying hu]
 ·cases x <;>cases y <;>simp[BY]at h
  subst h
  simp[Op.equalIn,run_underlying hu]
theorem nk{t:TypeId}{r:Option (List Kd)}{ks:List Kd}(h:sized P t r=some ks):∃i,P.info? t=some i/\r=some ks/\ks.length=i.size:=by
 unfold sized at h
 split at h
 ·rename_i ks' i h1
  split at h
  ·cases h;exact⟨i,h1,rfl,by assumption⟩
  ·cases h
 ·cases h
theorem sE(d:Nat)(xs ys:List Value)
  (ih:∀(t:TypeId) (ks:List Kd) (u:TypeDesc) (x y:List Value) (b:Bool),jE P d t=some ks->P.underlying t=some u->bR ks x y=some b->∀K,d<=K->(Op.equalIn K t (valOf u x) (valOf u y)).run P w=.ok b w)
  (K:Nat) (hK:d<=K):∀(fs:List Field) (off:Nat) (ks:List Kd) (b:Bool),kinds (jE P d) fs off=some ks->bR ks (xs.drop off) (ys.drop off)=some b->
   off+ks.length=xs.length->off+ks.length=ys.length->(Op.eqFields K xs.toArray ys.toArray fs).run P w=.ok b w
 |[],off,ks,b,h,he,_,_=>by
  simp only[kinds,Option.some.injEq]at h
  subst h
  have:=(eX he)
  have e1:xs.drop off=[]:=List.eq_nil_of_length_eq_zero (by simpa using this.1)
  have e2:ys.drop off=[]:=List.eq_nil_of_length_eq_zero (by simpa using this.2)
  rw[e1,e2]at he
  simp only[bR,Option.some.injEq]at he
  subst he
  simp[Op.eqFields]
 |f::fs,off,ks,b,h,he,hx,hy=>by
  unfold kinds at h
  by_cases hn:f.name= "_"
  ·rw[if_pos hn]at h;cases h
  ·rw[if_neg hn]at h
   by_cases ho:f.offset=off
   ·rw[if_pos ho]at h
    split at h
    ·rename_i k1 hk1
     split at h
     ·rename_i r hr
      cases h
      obtain⟨b1,b2,e1,e2,rfl⟩:=jB he
      cases d with
      |zero=>simp[jE]at hk1
      |succ d=>
       have hk1':=hk1
       unfold jE at hk1
       obtain⟨i,hi,hr0,hlen⟩:=nk hk1
       cases hu:P.underlying f.type with
       |none=>rw[hu]at hr0;simp at hr0
       |some u=>
        simp only[List.length_append]at hx hy
        have h1:Cm u i.size:=by
         rw[hu]at hr0
         cases u <;>simp at hr0 <;>first |trivial |(subst hr0;exact hlen.symm)
        have p1:=oj (w:=w) hi hu xs f.offset (by omega) h1
        have p2:=oj (w:=w) hi hu ys f.offset (by omega) h1
        have q:=ih f.type k1 u _ _ b1 hk1' hu (by rw[hlen]at e1;exact e1) K hK
        simp only[List.drop_drop]at e2
        unfold Op.eqFields
        rw[if_pos hn]
        simp only[Sem.run_bind,p1,p2,Result.andThen_ok]
        rw[ho,q]
        have rest:=sE (d+1) xs ys ih K hK fs (off+k1.length) r b2 hr e2 (by omega) (by omega)
        cases b1
        ·simp
        ·simp[rest]
     ·cases h
    ·cases h
   ·rw[if_neg ho]at h;cases h
theorem ug(d:Nat)(xs ys:List Value)(e:TypeId)(i:TypeInfo)(hi:P.info? e=some i)(u:TypeDesc)(hu:P.underlying e=some u)(k1:List Kd)(hk1:jE P d e=some k1)(hl:k1.length=i.size)
  (h1:Cm u i.size)
  (ih:∀(t:TypeId) (ks:List Kd) (u:TypeDesc) (x y:List Value) (b:Bool),jE P d t=some ks->P.underlying t=some u->bR ks x y=some b->∀K,d<=K->(Op.equalIn K t (valOf u x) (valOf u y)).run P w=.ok b w)
  (K:Nat) (hK:d<=K):∀(n j:Nat) (b:Bool),bR (kW k1 n) (xs.drop (j*i.size)) (ys.drop (j*i.size))=some b->
   (j+n)*i.size=xs.length->(j+n)*i.size=ys.length->(Op.eqItems K e i.size xs.toArray ys.toArray (List.range' j n)).run P w=.ok b w
 |0,j,b,he,hx,hy=>by
  simp only[Nat.add_zero]at hx hy
  rw[hx,List.drop_length,<-hx,hy,List.drop_length]at he
  simp only[kW,bR,Option.some.injEq]at he
  subst he
  simp[Op.eqItems]
 |n+1,j,b,he,hx,hy=>by
  unfold kW at he
  obtain⟨b1,b2,e1,e2,rfl⟩:=jB he
  have hmul:(j+(n+1))*i.size=j*i.size+i.size+n*i.size:=by
   rw[Nat.add_mul,Nat.add_mul,Nat.one_mul];omega
  have p1:=oj (w:=w) hi hu xs (j*i.size) (by omega) h1
  have p2:=oj (w:=w) hi hu ys (j*i.size) (by omega) h1
  have q:=ih e k1 u _ _ b1 hk1 hu (by rw[hl]at e1;exact e1) K hK
  rw[List.drop_drop,List.drop_drop,hl]at e2
  have hj:j*i.size+i.size=(j+1)*i.size:=by rw[Nat.add_mul,Nat.one_mul]
  rw[hj]at e2
  have rest:=ug d xs ys e i hi u hu k1 hk1 hl h1 ih K hK n (j+1) b2 e2 (by rw[<-hx];congr 1;omega) (by rw[<-hy];congr 1;omega)
  rw[List.range'_succ]
  unfold Op.eqItems
  simp only[Sem.run_bind,p1,p2,Result.andThen_ok,q]
  cases b1
  ·simp
  ·simp[rest]
theorem wg:∀(d:Nat) (t:TypeId) (ks:List Kd) (u:TypeDesc) (xs ys:List Value) (b:Bool),jE P d t=some ks->P.underlying t=some u->bR ks xs ys=some b->
  ∀K,d<=K->(Op.equalIn K t (valOf u xs) (valOf u ys)).run P w=.ok b w
 |0,_,_,_,_,_,_,h,_,_,_,_=>by simp[jE]at h
 |d+1,t,ks,u,xs,ys,b,h,hu,he,K,hK=>by
  obtain⟨K,rfl⟩:∃K',K=K'+1:=⟨K-1,by omega⟩
  unfold jE at h
  obtain⟨i,hi,hr,hlen⟩:=nk h
  rw[hu]at hr
  have one:∀k,ks=[k]->∃x y,xs=[x]/\ys=[y]/\BY k x y=some b:=by
   intro k hk
   subst hk
   have:=eX he
   match xs,ys,this,he with
   |[x],[y],_,he=>
    refine⟨x,y,rfl,rfl,?_⟩
    simp only[bR]at he
    split at he
    ·rename_i c r h1 h2
     simp only[Option.some.injEq]at h2 he
     subst h2;subst he
     simpa using h1
    ·cases he
  cases u with
  |bool=>
   simp only[Option.some.injEq]at hr
   obtain⟨x,y,rfl,rfl,hk⟩:=one _ hr.symm
   exact vV hu (.inl ⟨rfl,rfl⟩) hk
  |int q=>
   simp only[Option.some.injEq]at hr
   obtain⟨x,y,rfl,rfl,hk⟩:=one _ hr.symm
   exact vV hu (.inr (.inl ⟨⟨q,rfl⟩,rfl⟩)) hk
  |string=>
   simp only[Option.some.injEq]at hr
   obtain⟨x,y,rfl,rfl,hk⟩:=one _ hr.symm
   exact vV hu (.inr (.inr ⟨rfl,rfl⟩)) hk
  |struct fs=>
   simp only at hr
   by_cases hst:P.stoodInHeld t=true
   ·rw[if_pos hst]at hr;cases hr
   ·rw[if_neg hst]at hr
    have hfo:P.fieldsOf t=fs:=by unfold Program.fieldsOf;rw[hu]
    have hln:=eX he
    have:=run_equalIn_struct (P:=P) w K t xs.toArray ys.toArray (by rw[hfo];exact hu) (by simpa using hst)
    rw[hfo]at this
    show(Op.equalIn (K+1) t (.agg xs.toArray) (.agg ys.toArray)).run P w=_
    rw[this]
    exact sE d xs ys (fun t ks u x y b=>wg d t ks u x y b) K (by omega) fs.toList 0 ks b hr (by simpa using he) (by omega) (by omega)
  |array n e=>
   simp only at hr
   split at hr
   ·rename_i k1 hk1
    by_cases hn:n*k1.length<=64
    ·rw[if_pos hn]at hr
     cases hr
     have hln:=eX he
     cases d with
     |zero=>simp[jE]at hk1
     |succ d=>
      have hk1':=hk1
      unfold jE at hk1
      obtain⟨ie,hie,hr0,hlen1⟩:=nk hk1
      cases hue:P.underlying e with
      |none=>rw[hue]at hr0;simp at hr0
      |some ue=>
       have h1:Cm ue ie.size:=by
        rw[hue]at hr0
        cases ue <;>simp at hr0 <;>first |trivial |(subst hr0;exact hlen1.symm)
       have hcl:(kW k1 n).length=n*ie.size:=by rw[<-hlen1];exact nd k1 n
       have hco:P.cellsOf e=ie.size:=by unfold Program.cellsOf;rw[hie];rfl
       have:=run_equalIn_array (P:=P) w K xs.toArray ys.toArray hu hie
       rw[hco]at this
       show(Op.equalIn (K+1) t (.agg xs.toArray) (.agg ys.toArray)).run P w=_
       rw[this,List.range_eq_range']
       exact ug (d+1) xs ys e ie hie ue hue k1 hk1' hlen1 h1 (fun t ks u x y b=>wg (d+1) t ks u x y b) K (by omega) n 0 b (by simpa using he) (by simp;omega) (by simp;omega)
    ·rw[if_neg hn]at hr;cases hr
   ·cases hr
  |_=>simp at hr
end
end Go.D
namespace Go.D
open Go
section
variable {E:Env} {P:Program} {σ:Sg} {m m':M} {w:World}
theorem aJ.int{k:IntKind}{n:Int}{v':Value}(h:aJ σ (.int k n) v'):v'=.int k n:=h.aQ rfl
theorem aJ.bool{b:Bool}{v':Value}(h:aJ σ (.bool b) v'):v'=.bool b:=h.aQ rfl
theorem aJ.string{s:ByteArray}{v':Value}(h:aJ σ (.string s) v'):v'=.string s:=h.aQ rfl
theorem aJ.dV{a:Addr}{v':Value}(h:aJ σ (.pointer (some a)) v'):∃i,σ a.block=some i/\a.spot=none/\v'=.pointer (some ⟨i.cG,a.off,none⟩):=by
 cases h with
 |flat _ h=>simp[bP]at h
 |ptr _ i h hs=>exact⟨i,h,hs,rfl⟩
theorem aJ.dc{a:Addr}{n c:Nat}{v':Value}(h:aJ σ (.slice (some a) n c) v'):∃(i:BI) (a':Addr) (c':Nat),σ a.block=some i/\v'=.slice (some a') n c'/\
  ((a.spot=none/\a'=⟨i.cG,a.off,none⟩/\((i.gr=none/\c'=c)\/∃k sz N,i.gr=some (k,sz,N)/\(c'=c\/(c<=c'/\a.off+c*k=sz/\a.off+c'*k=N))))\/(n=0/\c=0/\∃k sz N,i.gr=some (k,sz,N)/\a.off=sz)):=by
 cases h with
 |flat _ h=>simp[bP]at h
 |slice _ i _ _ h hs hg=>exact⟨i,_,_,h,rfl,.inl ⟨hs,rfl,.inl ⟨hg,rfl⟩⟩⟩
 |fm _ i _ _ c' k sz N h hs hg hc=>exact⟨i,_,_,h,rfl,.inl ⟨hs,rfl,.inr ⟨k,sz,N,hg,hc⟩⟩⟩
 |empty _ a' i c' k sz N h hg ho=>exact⟨i,a',c',h,rfl,.inr ⟨rfl,rfl,k,sz,N,hg,ho⟩⟩
theorem aJ.dZ{n c:Nat}{v':Value}(h:aJ σ (.slice none n c) v'):n=0/\c=0/\v'=.slice none 0 0:=by
 cases h with
 |flat _ h=>
  unfold bP at h
  split at h <;>simp_all
theorem aJ.kN{r:Nat}{v':Value}(h:aJ σ (.map (some r)) v'):∃i,σ r=some i/\v'=.map (some i.cG):=by
 cases h with
 |flat _ h=>simp[bP]at h
 |map _ i h=>exact⟨i,h,rfl⟩
theorem aJ.pB{b:Option Addr}{n c:Nat}{v':Value}(h:aJ σ (.slice b n c) v'):∃b' c',v'=.slice b' n c'/\b'.isNone=b.isNone:=by
 cases b with
 |none=>obtain⟨rfl,rfl,rfl⟩:=h.dZ;exact⟨_,_,rfl,rfl⟩
 |some a=>obtain⟨_,a',c',_,rfl,_⟩:=h.dc;exact⟨_,_,rfl,rfl⟩
theorem aJ.Ji{b:Option Nat}{v':Value}(h:aJ σ (.map b) v'):∃b',v'=.map b'/\b'.isNone=b.isNone:=by
 cases b with
 |none=>exact⟨_,h.aQ rfl,rfl⟩
 |some r=>
  cases h with
  |flat _ h=>simp[bP]at h
  |map _ i h=>exact⟨_,rfl,rfl⟩
theorem aJ.BA{b:Option Addr}{v':Value}(h:aJ σ (.pointer b) v'):∃b',v'=.pointer b'/\b'.isNone=b.isNone:=by
 cases b with
 |none=>exact⟨_,h.aQ rfl,rfl⟩
 |some r=>obtain⟨_,_,_,rfl⟩:=h.dV;exact⟨_,rfl,rfl⟩
theorem aJ.map_nil{v':Value}(h:aJ σ (.map none) v'):v'=.map none:=h.aQ rfl
theorem aJ.iU{a:Array Value}{v':Value}(h:aJ σ (.agg a) v'):∃a':Array Value,v'=.agg a'/\aU σ a.toList a'.toList:=by
 cases h with
 |flat _ h=>simp[bP]at h
 |agg _ a' ha h1=>exact⟨a',rfl,by simpa using ha,fun j u u' x y=>h1 j u u' (by simpa using x) (by simpa using y)⟩
theorem aJ.py{a:Array Value}{v':Value}(h:aJ σ (.tuple a) v'):∃a':Array Value,v'=.tuple a'/\aU σ a.toList a'.toList:=by
 cases h with
 |flat _ h=>simp[bP]at h
 |tuple _ a' ha h1=>exact⟨a',rfl,by simpa using ha,fun j u u' x y=>h1 j u u' (by simpa using x) (by simpa using y)⟩
theorem aJ.sC{f:FuncId}{a b:Array Value}{v':Value}(h:aJ σ (.func (.func f) a b) v'):∃a' b':Array Value,v'=.func (.func f) a' b'/\aU σ a.toList a'.toList/\aU σ b.toList b'.toList:=by
 cases h with
 |flat _ h=>
  simp[bP]at h
  obtain⟨rfl,rfl⟩:=h
  exact⟨_,_,rfl,aU.nil,aU.nil⟩
 |func _ _ _ a' b' ha hb h1 h2=>
  exact⟨a',b',rfl,⟨by simpa using ha,fun j u u' x y=>h1 j u u' (by simpa using x) (by simpa using y)⟩,⟨by simpa using hb,fun j u u' x y=>h2 j u u' (by simpa using x) (by simpa using y)⟩⟩
theorem HQ{k:Kd}{x y x' y':Value}{b:Bool}(h:BY k x y=some b)(hx:aJ σ x x')(hy:aJ σ y y'):x'=x/\y'=y:=by
 unfold BY at h
 split at h
 ·exact⟨hx.bool,hy.bool⟩
 ·exact⟨hx.int,hy.int⟩
 ·exact⟨hx.string,hy.string⟩
 ·cases h
theorem oR:∀{ks:List Kd} {x y x' y':List Value} {b:Bool},bR ks x y=some b->aU σ x x'->aU σ y y'->x'=x/\y'=y
 |[],[],[],_,_,_,_,hx,hy=>⟨hx.nil_eq,hy.nil_eq⟩
 |[],[],_::_,_,_,_,h,_,_=>by simp[bR]at h
 |[],_::_,_,_,_,_,h,_,_=>by simp[bR]at h
 |_::_,[],_,_,_,_,h,_,_=>by simp[bR]at h
 |_::_,_::_,[],_,_,_,h,_,_=>by simp[bR]at h
 |k::ks,a::x,c::y,x',y',b,h,hx,hy=>by
  obtain⟨a',x1,rfl,ha,hx1⟩:=hx.cases
  obtain⟨c',y1,rfl,hc,hy1⟩:=hy.cases
  unfold bR at h
  split at h
  ·rename_i h1 h2
   obtain⟨q1,q2⟩:=HQ h1 ha hc
   obtain⟨q3,q4⟩:=oR h2 hx1 hy1
   rw[q1,q2,q3,q4]
   exact⟨rfl,rfl⟩
  ·cases h
theorem AD(hE:E.OK P){t:TypeId}{x y x' y':Value}{b:Bool}(h:eq? E t x y=some b)(hx:aJ σ x x')(hy:aJ σ y y'){d:Nat}(hd:12<=d+1):
  (Op.equalIn (d+1) t x' y').run P w=.ok b w:=by
 unfold eq? at h
 split at h
 ·cases h
 ·rename_i ti hti
  obtain⟨inf,u,f⟩:=hE.jJ hti
  rw[f.d]at h
  have aggs:∀(xs ys:Array Value) (ks:List Kd),x=.agg xs->y=.agg ys->ti.cmp=some ks->bR ks xs.toList ys.toList=some b->(∀cs,valOf u cs=.agg cs.toArray)->
    (Op.equalIn (d+1) t x' y').run P w=.ok b w:=by
   intro xs ys ks e1 e2 hks he hv
   subst e1;subst e2
   obtain⟨a',rfl,ha⟩:=hx.iU
   obtain⟨c',rfl,hc⟩:=hy.iU
   obtain⟨q1,q2⟩:=oR he ha hc
   have hcm:jE P 12 t=some ks:=by
    rw[f.cmp]at hks
    unfold Ce at hks
    split at hks
    ·split at hks
     ·cases hks
     ·exact hks
    ·split at hks
     ·cases hks
     ·exact hks
    ·cases hks
   have:=wg (w:=w) 12 t ks u _ _ b hcm f.ed he (d+1) hd
   rw[hv,hv]at this
   rw[<-q1,<-q2]at this
   simpa using this
  split at h
  ·rename_i hd
   cases h
   rw[hx.bool,hy.bool]
   simp[Op.equalIn,run_underlying (f.ed.trans (by rw[mC hd]))]
  ·rename_i hd
   split at h
   ·rename_i hk;subst hk
    cases h
    rw[hx.int,hy.int]
    simp[Op.equalIn,run_underlying (f.ed.trans (by rw[jv hd]))]
   ·cases h
  ·rename_i hd
   cases h
   rw[hx.string,hy.string]
   simp[Op.equalIn,run_underlying (f.ed.trans (by rw[fV hd]))]
  ·rename_i hd
   obtain⟨gs,rfl,_⟩:=eS hd
   split at h
   ·rename_i ks hks
    exact aggs _ _ ks rfl rfl hks h (fun _=>rfl)
   ·cases h
  ·rename_i hd
   obtain rfl:=gI hd
   split at h
   ·rename_i ks hks
    exact aggs _ _ ks rfl rfl hks h (fun _=>rfl)
   ·cases h
  ·rename_i hd
   cases h
   obtain⟨rfl,rfl,rfl⟩:=hx.dZ
   have hu:=f.ed.trans (by rw[cT hd])
   obtain⟨b',c',rfl,hb⟩:=hy.pB
   rw[<-hb]
   simp[Op.equalIn,run_underlying hu]
  ·rename_i hd
   cases h
   obtain⟨rfl,rfl,rfl⟩:=hy.dZ
   obtain⟨_,a',c',_,rfl,_⟩:=hx.dc
   have hu:=f.ed.trans (by rw[cT hd])
   simp[Op.equalIn,run_underlying hu]
  ·rename_i hd
   cases h
   rw[hx.map_nil]
   have hu:=f.ed.trans (by rw[ju hd])
   obtain⟨b',rfl,hb⟩:=hy.Ji
   rw[<-hb]
   simp[Op.equalIn,run_underlying hu]
  ·rename_i hd
   cases h
   rw[hy.map_nil]
   obtain⟨_,_,rfl⟩:=hx.kN
   have hu:=f.ed.trans (by rw[ju hd])
   simp[Op.equalIn,run_underlying hu]
  ·rename_i hd
   cases h
   obtain⟨a,c,e,rfl⟩:=pN hd
   rw[hx.aQ rfl,hy.aQ rfl]
   simp[Op.equalIn,run_underlying f.ed]
  ·rename_i hd
   cases h
   obtain⟨a,c,e,rfl⟩:=pN hd
   rw[hx.aQ rfl]
   cases hy <;>simp[Op.equalIn,run_underlying f.ed]
  ·rename_i hd
   cases h
   obtain⟨a,c,e,rfl⟩:=pN hd
   rw[hy.aQ rfl]
   cases hx <;>simp[Op.equalIn,run_underlying f.ed]
  ·rename_i hd
   cases h
   have hu:=f.ed.trans (by rw[yE hd])
   rw[hx.aQ rfl]
   obtain⟨b',rfl,hb⟩:=hy.BA
   rw[<-hb]
   simp[Op.equalIn,run_underlying hu]
  ·rename_i hd
   cases h
   have hu:=f.ed.trans (by rw[yE hd])
   rw[hy.aQ rfl]
   obtain⟨_,_,_,rfl⟩:=hx.dV
   simp[Op.equalIn,run_underlying hu]
  ·rename_i hd
   cases h
   obtain⟨ms,rfl,_⟩:=rX hd
   rw[hx.aQ rfl,hy.aQ rfl]
   simp[Op.equalIn,run_underlying f.ed]
  ·cases h
theorem lT(hE:E.OK P){t:TypeId}{x y x' y':Value}{b:Bool}(h:eq? E t x y=some b)(hx:aJ σ x x')(hy:aJ σ y y'):(Op.equal t x' y').run P w=.ok b w:=
 AD hE h hx hy (d:=9999) (by omega)
theorem qm(hE:E.OK P){t:TypeId}{x y x' y':Value}{b:Bool}(h:eq? E t x y=some b)(hx:aJ σ x x')(hy:aJ σ y y')(op:BinOp)(xo yo:Operand):(eqGuard op t xo yo x' y').run P w=.ok () w:=by
 unfold eq? at h
 split at h
 ·cases h
 ·rename_i ti hti
  obtain⟨inf,u,f⟩:=hE.jJ hti
  have calm:∀ks,ti.cmp=some ks->P.eqGuardType P.depth t=false:=by
   intro ks hks
   rw[f.cmp]at hks
   unfold Ce at hks
   split at hks
   ·split at hks
    ·cases hks
    ·rename_i hg;simpa using hg
   ·split at hks
    ·cases hks
    ·rename_i hg;simpa using hg
   ·cases hks
  split at h
  ·rw[hx.bool];rw[eqGuard_at_bool];rfl
  ·rw[hx.int];rw[eqGuard_at_int];rfl
  ·rw[hx.string];rw[eqGuard_at_string];rfl
  ·split at h
   ·rename_i ks hks
    obtain⟨a',rfl,ha⟩:=hx.iU
    obtain⟨c',rfl,hc⟩:=hy.iU
    exact run_eqGuard_agg w op t xo yo a' c' (calm ks hks)
   ·cases h
  ·split at h
   ·rename_i ks hks
    obtain⟨a',rfl,ha⟩:=hx.iU
    obtain⟨c',rfl,hc⟩:=hy.iU
    exact run_eqGuard_agg w op t xo yo a' c' (calm ks hks)
   ·cases h
  ·obtain⟨rfl,rfl,rfl⟩:=hx.dZ
   rw[eqGuard_at_slice];rfl
  ·obtain⟨_,a',c',_,rfl,_⟩:=hx.dc
   rw[eqGuard_at_slice];rfl
  ·rw[hx.map_nil,eqGuard_at_map];rfl
  ·obtain⟨_,_,rfl⟩:=hx.kN
   rw[eqGuard_at_map];rfl
  ·rw[hx.aQ rfl,eqGuard_at_nilFunc];rfl
  ·rw[hx.aQ rfl,eqGuard_at_nilFunc];rfl
  ·cases hx <;>(rw[eqGuard_at_func];rfl)
  ·rw[hx.aQ rfl]
   obtain⟨b',rfl,_⟩:=hy.BA
   unfold eqGuard;split <;>rfl
  ·obtain⟨_,_,_,rfl⟩:=hx.dV
   unfold eqGuard;split <;>rfl
  ·rename_i hd
   rw[f.d]at hd
   obtain⟨ms,rfl,he⟩:=rX hd
   rw[hx.aQ rfl,hy.aQ rfl]
   have hg:(Op.eqGuardIn (9999+1) t .nilIface .nilIface).run P w=.ok false w:=by
    unfold Op.eqGuardIn
    rw[Sem.run_bind,run_underlying f.ed]
    show Sem.run P (pure !ms.isEmpty) w=_
    rw[he];rfl
   have hg:(Op.eqGuardIn Op.maxDepth t .nilIface .nilIface).run P w=.ok false w:=hg
   generalize hG:Op.eqGuardIn Op.maxDepth t .nilIface .nilIface=G at hg
   have key:(do if<-G then unsupported (.noEntry "binop/eql: two nil values of an interface type with methods, neither of them the literal nil"):Sem Unit).run P w=.ok () w:=by
    rw[Sem.run_bind,hg];rfl
   unfold eqGuard
   rw[hG]
   cases op <;>try rfl
   all_goals (cases xo <;>cases yo <;>first |rfl |exact key)
  ·cases h
end
end Go.D
namespace Go.D
open Go
section
variable {E:Env} {P:Program} {σ:Sg} {m m':M} {w:World}
def ka:Value->Bool
 |.int _ _ |.float _ _ |.complex _ _ _ |.string _=>false
 |_=>true
theorem aJ.ka{x x':Value}(h:aJ σ x x'):ka x'=ka x:=by
 cases h <;>rfl
theorem zb{t:TypeId}{x y:Value}{b:Bool}(h:eq? E t x y=some b)(hi:∀k a k' b,x=.int k a->y=.int k' b->False)(hs:∀a b,x=.string a->y=.string b->False):ka x=true:=by
 unfold eq? at h
 cases hti:E.ty.get t with
 |none=>rw[hti]at h;simp at h
 |some ti=>
  rw[hti]at h
  obtain⟨d,_,_,_,_,_⟩:=ti
  cases x with
  |int k a=>cases d <;>cases y <;>first |(simp at h;done) |exact(hi _ _ _ _ rfl rfl).elim
  |string a=>cases d <;>cases y <;>first |(simp at h;done) |exact(hs _ _ rfl rfl).elim
  |float k a=>cases d <;>simp at h
  |complex k a b=>cases d <;>simp at h
  |_=>rfl
theorem sV{t:TypeId}{x y:Value}(h:ka x=true):binOp .eql t x y=(do pure (.bool (<-Op.equal t x y))):=by
 cases x <;>simp[ka]at h <;>cases y <;>rfl
theorem sU{t:TypeId}{x y:Value}(h:ka x=true):binOp .neq t x y=(do pure (.bool (!(<-Op.equal t x y)))):=by
 cases x <;>simp[ka]at h <;>cases y <;>rfl
theorem Bb{op:BinOp}{t:TypeId}{k:IntKind}{a b:Int}{v:Value}(h:gg op k a b=some v):(binOp op t (.int k a) (.int k b)).run P w=.ok v w/\bP v=true:=by
 unfold gg at h
 cases op <;>simp only[Option.some.injEq,reduceCtorEq]at h
 case quo=>
  split at h
  ·cases h
  ·cases h
   rename_i hb
   exact⟨by simp[binOp,Op.intDiv,hb],rfl⟩
 case rem=>
  split at h
  ·cases h
  ·cases h
   rename_i hb
   exact⟨by simp[binOp,Op.intDiv,hb],rfl⟩
 all_goals
  subst h
  exact⟨by simp[binOp,Op.intArith,Op.intBits,Op.intCmp],rfl⟩
theorem AZ{op:BinOp}{t:TypeId}{a b:ByteArray}{v:Value}(h:Ba op a b=some v):(binOp op t (.string a) (.string b)).run P w=.ok v w/\bP v=true:=by
 unfold Ba at h
 cases op <;>simp only[Option.some.injEq,reduceCtorEq]at h
 case add=>
  split at h
  ·cases h
  ·cases h
   rename_i hb
   exact⟨by simp only[binOp,Op.stringOp,if_neg hb];rfl,rfl⟩
 all_goals
  subst h
  exact⟨by simp[binOp,Op.stringOp],rfl⟩
theorem uD(hE:E.OK P){op:BinOp}{t:TypeId}{x y x' y' v:Value}(h:aq E op t x y=some v)(hx:aJ σ x x')(hy:aJ σ y y')(xo yo:Operand):
  (eqGuard op t xo yo x' y' >>=fun _=>binOp op t x' y').run P w=.ok v w/\bP v=true:=by
 unfold aq at h
 split at h
 ·rw[hx.int,hy.int]
  split at h
  ·cases h
  ·cases h
   rename_i hb
   exact⟨by rw[eqGuard_shl];simp[binOp,Op.shift,hb],rfl⟩
 ·rw[hx.int,hy.int]
  split at h
  ·cases h
  ·cases h
   rename_i hb
   exact⟨by rw[eqGuard_shr];simp[binOp,Op.shift,hb],rfl⟩
 ·rw[hx.int,hy.int]
  split at h
  ·rename_i hk;subst hk
   obtain⟨h1,h2⟩:=Bb (P:=P) (w:=w) (t:=t) h
   exact⟨by rw[eqGuard_at_int];simpa using h1,h2⟩
  ·cases h
 ·rw[hx.string,hy.string]
  obtain⟨h1,h2⟩:=AZ (P:=P) (w:=w) (t:=t) h
  exact⟨by rw[eqGuard_at_string];simpa using h1,h2⟩
 ·rename_i hi hs
  cases hq:eq? E t x y with
  |none=>rw[hq]at h;simp at h
  |some b=>
   rw[hq]at h
   simp only[Option.map_some,Option.some.injEq]at h
   subst h
   have hh:=zb hq (fun k a k' b e1 e2=>hi _ _ _ _ e1 e2) (fun a b e1 e2=>hs _ _ e1 e2)
   have hg:=qm (w:=w) hE hq hx hy .eql xo yo
   have he:=lT (w:=w) hE hq hx hy
   refine⟨?_,rfl⟩
   rw[sV (by rw[hx.ka];exact hh),Sem.run_bind,hg,Result.andThen_ok,Sem.run_bind,he]
   rfl
 ·rename_i hi hs
  cases hq:eq? E t x y with
  |none=>rw[hq]at h;simp at h
  |some b=>
   rw[hq]at h
   simp only[Option.map_some,Option.some.injEq]at h
   subst h
   have hh:=zb hq (fun k a k' b e1 e2=>hi _ _ _ _ e1 e2) (fun a b e1 e2=>hs _ _ e1 e2)
   have hg:=qm (w:=w) hE hq hx hy .neq xo yo
   have he:=lT (w:=w) hE hq hx hy
   refine⟨?_,rfl⟩
   rw[sU (by rw[hx.ka];exact hh),Sem.run_bind,hg,Result.andThen_ok,Sem.run_bind,he]
   rfl
 ·cases h
theorem wR{op:UnOp}{x x' v:Value}(h:fK op x=some v)(hx:aJ σ x x'):(Op.unary op x').run P w=.ok v w/\bP v=true:=by
 unfold fK at h
 split at h
 ·cases h;rw[hx.int];exact⟨by simp[Op.unary,Op.intArith],rfl⟩
 ·cases h;rw[hx.bool];exact⟨by simp[Op.unary],rfl⟩
 ·cases h
theorem AM(hE:E.OK P){s d:TypeId}{x x' v:Value}(h:Ia E s d x=some v)(hx:aJ σ x x'):(convert s d x').run P w=.ok v w/\bP v=true:=by
 unfold Ia at h
 split at h
 ·rename_i si ti k n hs ht
  obtain⟨_,us,fs⟩:=hE.jJ hs
  obtain⟨_,ut,ft⟩:=hE.jJ ht
  split at h
  ·rename_i hd
   cases h
   rw[ft.d]at hd
   rw[hx.int]
   have hu:=ft.ed.trans (by rw[jv hd])
   refine⟨?_,rfl⟩
   simp[convert,run_underlying fs.ed,run_underlying hu,Conv.intToInt]
  ·cases h
 ·rename_i si ti b hs ht
  obtain⟨_,us,fs⟩:=hE.jJ hs
  obtain⟨_,ut,ft⟩:=hE.jJ ht
  split at h
  ·rename_i hd
   cases h
   rw[ft.d]at hd
   rw[hx.string]
   have hu:=ft.ed.trans (by rw[fV hd])
   refine⟨?_,rfl⟩
   simp[convert,run_underlying fs.ed,run_underlying hu]
  ·cases h
 ·cases h
theorem rM(hE:E.OK P){t:TypeId}{cs cs':List Value}{off:Nat}{v:Value}(h:part E t cs off=some v)(hc:aU σ cs cs'):
  ∃v',(Go.part t cs'.toArray off).run P w=.ok v' w/\aJ σ v v':=by
 unfold part at h
 split at h
 ·rename_i ti hti
  obtain⟨i,u,f⟩:=hE.jJ hti
  have hag:=oH (P:=P) u w t f.ed
  rw[<-f.d]at hag
  unfold Go.part
  rw[Sem.run_bind,hag,Result.andThen_ok]
  cases ha:ti.d.agg with
  |true=>
   rw[ha]at h
   simp only[cond_true]at h
   cases hb:Nat.ble (off+ti.size) cs.length with
   |false=>rw[hb]at h;simp at h
   |true=>
    rw[hb]at h
    simp only[cond_true,Option.some.injEq]at h
    subst h
    refine⟨.agg ((cs'.drop off).take ti.size).toArray,?_,((hc.drop off).take ti.size).agg⟩
    have hext:cs'.toArray.extract off (off+i.size)=((cs'.drop off).take ti.size).toArray:=by
     apply Array.ext'
     rw[Array.toList_extract,List.extract_eq_take_drop,f.size]
     congr 1
     omega
    simp only[if_true,Sem.run_bind,run_sizeOf f.info,Result.andThen_ok,Sem.run_pure,hext]
  |false=>
   rw[ha]at h
   simp only[cond_false]at h
   obtain⟨u',hu,hr⟩:=hc.get h
   exact⟨u',by simp[hu],hr⟩
 ·cases h
theorem qo(hE:E.OK P){t:TypeId}{x x' v:Value}{n:Nat}(h:vS E t x n=some v)(hx:aJ σ x x'):∃v',(Instr.field t x' n).run P w=.ok v' w/\aJ σ v v':=by
 unfold vS at h
 split at h
 ·rename_i ti cs hti
  obtain⟨i,u,f⟩:=hE.jJ hti
  split at h
  ·rename_i fs hd
   rw[f.d]at hd
   obtain⟨gs,rfl,rfl⟩:=eS hd
   split at h
   ·rename_i fd hfd
    simp only[List.getElem?_map,Option.map_eq_some_iff]at hfd
    obtain⟨g,hg,rfl⟩:=hfd
    obtain⟨cs',rfl,hc⟩:=hx.iU
    obtain⟨v',h1,h2⟩:=rM (w:=w) hE h hc
    refine⟨v',?_,h2⟩
    have hg':gs[n]?=some g:=by simpa using hg
    simp only[Instr.field,Sem.run_bind,run_underlying f.ed,Result.andThen_ok,hg',asAgg,Sem.run_pure]
    simpa[oI]using h1
   ·cases h
  ·cases h
 ·cases h
theorem lq(hE:E.OK P){t:TypeId}{x x' v:Value}{n:Nat}(h:ae E t x n=some v)(hx:aJ σ x x'):∃v',(Instr.fieldAt t x' n).run P w=.ok v' w/\aJ σ v v':=by
 unfold ae at h
 split at h
 ·rename_i ti a hti
  obtain⟨i,u,f⟩:=hE.jJ hti
  split at h
  ·rename_i fs hd
   rw[f.d]at hd
   obtain⟨gs,rfl,rfl⟩:=eS hd
   split at h
   ·rename_i fd hfd
    simp only[List.getElem?_map,Option.map_eq_some_iff]at hfd
    obtain⟨g,hg,rfl⟩:=hfd
    obtain⟨bi,hb,hsp,rfl⟩:=hx.dV
    cases hz:Nat.beq (oI P g).size 0 with
    |true=>rw[hz]at h;simp at h
    |false=>
     rw[hz]at h
     simp only[cond_false,Option.some.injEq]at h
     subst h
     have hne:=Nat.ne_of_beq_eq_false hz
     cases hi:P.info? g.type with
     |none=>simp[oI,hi]at hne
     |some gi=>
      have hgs:gi.size≠0:=by simpa[oI,hi]using hne
      have hg':gs[n]?=some g:=by simpa using hg
      obtain⟨bl,o,sp⟩:=a
      simp only at hsp hb
      subst hsp
      refine⟨.pointer (some ⟨bi.cG,o+g.offset,none⟩),?_,?_⟩
      ·simp only[Instr.fieldAt,Sem.run_bind,run_underlying f.ed,Result.andThen_ok,hg',Instr.sureAddr,Sem.run_pure,fieldPlace,run_sizeOf hi,if_neg hgs,dz]
      ·have:((oI P g).off)=g.offset:=rfl
       rw[this,dz]
       exact .ptr ⟨bl,o+g.offset,none⟩ bi hb rfl
   ·cases h
  ·cases h
 ·cases h
theorem lS{u:TypeDesc}{e:Nat}(hu:sG P u=0->False)(he:u=.slice e\/∃n,u=.array n e):∃ei,P.info? e=some ei/\sG P u=ei.size:=by
 rcases he with rfl |⟨n,rfl⟩
 ·cases hi:P.info? e with
  |none=>simp[sG,hi]at hu
  |some ei=>exact⟨ei,rfl,by simp[sG,hi]⟩
 ·cases hi:P.info? e with
  |none=>simp[sG,hi]at hu
  |some ei=>exact⟨ei,rfl,by simp[sG,hi]⟩
theorem ll(hE:E.OK P){t:TypeId}{x x' y y' v:Value}(h:ai E t x y=some v)(hx:aJ σ x x')(hy:aJ σ y y'):∃v',(Instr.indexAt t x' y').run P w=.ok v' w/\aJ σ v v':=by
 unfold ai at h
 split at h
 ·cases h
 ·rename_i ti hti
  obtain⟨i,u,f⟩:=hE.jJ hti
  split at h
  ·rename_i e a n c k j hd
   rw[f.d]at hd
   obtain rfl:=cT hd
   split at h
   ·rename_i hc
    cases h
    obtain⟨ei,hei,hes⟩:=lS (P:=P) (u:=.slice e) (by rw[<-f.es];omega) (.inl rfl)
    rw[hy.int]
    obtain⟨bi,a',c',hb,rfl,hcase⟩:=hx.dc
    rcases hcase with⟨hsp,rfl,_⟩ |⟨rfl,rfl,_⟩
    ·obtain⟨bl,o,sp⟩:=a
     simp only at hsp hb
     subst hsp
     refine⟨.pointer (some ⟨bi.cG,o+j.toNat*ei.size,none⟩),?_,?_⟩
     ·have h2:0<=j/\j < (n:Int):=⟨hc.1,hc.2.1⟩
      simp only[Instr.indexAt,Sem.run_bind,asIntOf,Sem.run_pure,Result.andThen_ok,run_underlying f.ed,if_pos h2,run_sizeOf hei,dz]
     ·rw[f.es,hes,dz]
      exact .ptr ⟨bl,o+j.toNat*ei.size,none⟩ bi hb rfl
    ·exfalso
     have:=hc.2.1
     have:=hc.1
     simp at*
     omega
   ·cases h
  ·rename_i n e a k j hd
   rw[f.d]at hd
   obtain rfl:=gI hd
   split at h
   ·rename_i hc
    cases h
    obtain⟨ei,hei,hes⟩:=lS (P:=P) (u:=.array n e) (by rw[<-f.es];omega) (.inr ⟨n,rfl⟩)
    rw[hy.int]
    obtain⟨bi,hb,hsp,rfl⟩:=hx.dV
    obtain⟨bl,o,sp⟩:=a
    simp only at hsp hb
    subst hsp
    refine⟨.pointer (some ⟨bi.cG,o+j.toNat*ei.size,none⟩),?_,?_⟩
    ·have h2:0<=j/\j < (n:Int):=⟨hc.1,hc.2.1⟩
     simp only[Instr.indexAt,Sem.run_bind,asIntOf,Sem.run_pure,Result.andThen_ok,run_underlying f.ed,Instr.sureAddr,if_pos h2,run_sizeOf hei,dz]
    ·rw[f.es,hes,dz]
     exact .ptr ⟨bl,o+j.toNat*ei.size,none⟩ bi hb rfl
   ·cases h
  ·cases h
theorem ql(hE:E.OK P){t:TypeId}{x x' y y' v:Value}(h:index? E t x y=some v)(hx:aJ σ x x')(hy:aJ σ y y'):∃v',(Instr.index t x' y').run P w=.ok v' w/\aJ σ v v':=by
 unfold index? at h
 split at h
 ·cases h
 ·rename_i ti hti
  obtain⟨i,u,f⟩:=hE.jJ hti
  split at h
  ·rename_i n e cs k j hd
   rw[f.d]at hd
   obtain rfl:=gI hd
   split at h
   ·rename_i hc
    rw[hy.int]
    obtain⟨cs',rfl,hcs⟩:=hx.iU
    obtain⟨v',h1,h2⟩:=rM (w:=w) hE h hcs
    refine⟨v',?_,h2⟩
    have hp:=h
    unfold part at hp
    split at hp
    ·rename_i ei hei
     obtain⟨ie,ue,fe⟩:=hE.jJ hei
     have hes:ti.es=ie.size:=by rw[f.es];simp[sG,fe.info]
     have h3:(0:Int)<=j/\j < (n:Int):=hc
     simp only[Instr.index,Sem.run_bind,asIntOf,Sem.run_pure,Result.andThen_ok,run_underlying f.ed,if_pos h3,run_sizeOf fe.info]
     rw[<-hes]
     simpa using h1
    ·cases hp
   ·cases h
  ·rename_i s k j hd
   rw[f.d]at hd
   obtain rfl:=fV hd
   split at h
   ·rename_i hc
    simp only[Option.map_eq_some_iff]at h
    obtain⟨b,hb,rfl⟩:=h
    rw[hy.int,hx.string]
    refine⟨.int .u8 b.toNat,?_,.flat _ rfl⟩
    simp only[Instr.index,Sem.run_bind,asIntOf,Sem.run_pure,Result.andThen_ok,run_underlying f.ed,if_pos hc,hb]
   ·cases h
  ·cases h
end
end Go.D
namespace Go.D
open Go
def tC(P:Program)(σ:Sg)(m:M)(w:World)(s:Sem Value)(v:Value)(m':M):Prop:=
 ∃σ' w' v',s.run P w=.ok v' w'/\aJ σ' v v'/\Ev P σ m w σ' m' w'
section
variable {E:Env} {P:Program} {σ:Sg} {m m':M} {w:World}
theorem tC.pure(hs:dN P σ m w){s:Sem Value}{v v':Value}(h:s.run P w=.ok v' w)(hv:aJ σ v v'):tC P σ m w s v m:=⟨σ,w,v',h,hv,Ev.refl hs⟩
def LN(len size:Nat):Option Nat->Option (Nat×Nat×Nat)
 |none=>none
 |some k=>some (k,len,size)
theorem BH(hs:dN P σ m w){c:List Value}{c':Array Value}{e:TypeId}{g:Option Nat}(hl:c.length<=c'.size)(h:aU σ c (c'.toList.take c.length))
  (hg:Nk ⟨w.heap.size,LN c.length c'.size g⟩ c.length c'.size g):
  Ev P σ m w (σ.add m.n ⟨w.heap.size,LN c.length c'.size g⟩) (m.push (.cells c e g)) (w.alloc (.cells c' e)):=by
 refine Ev.mA hs ⟨c',?_,hl,h.mono (Sg.pP hs.jb),hg⟩
 exact heap_alloc_new w _
theorem mz(hs:dN P σ m w){c:List Value}{c':Array Value}{e:TypeId}(h:aU σ c c'.toList):
  Ev P σ m w (σ.add m.n ⟨w.heap.size,none⟩) (m.push (.cells c e none)) (w.alloc (.cells c' e)):=by
 have hl:c.length=c'.size:=by simpa using h.1
 refine BH (g:=none) hs (by omega) ?_ ⟨rfl,hl.symm⟩
 rw[List.take_of_length_le (by simp;omega)]
 exact h
theorem Ew(hs:dN P σ m w){t:TypeId}{v v':Value}(hv:aJ σ v v'):tC P σ m w (Instr.box t v') (newVar m t v).1 (newVar m t v).2:=by
 refine⟨_,_,.pointer (some ⟨w.heap.size,0,none⟩),?_,?_,mz hs hv.cells (e:=t)⟩
 ·simp[Instr.box,Go.newVar,newRow]
 ·exact .ptr ⟨m.n,0,none⟩ _ (Sg.add_same _ _) rfl
theorem zr(hE:E.OK P)(hs:dN P σ m w){t:TypeId}{z:Value}(hz:fQ E t=some z):tC P σ m w (Instr.alloc t true (.tuple #[])) (newVar m t z).1 (newVar m t z).2:=by
 unfold fQ at hz
 cases ht:E.ty.get t with
 |none=>rw[ht]at hz;simp at hz
 |some ti=>
  rw[ht]at hz
  simp only[Option.bind_some]at hz
  obtain⟨i,u,f⟩:=hE.jJ ht
  have hr:=dq (w:=w) f.info (by rw[<-f.zero];exact hz)
  refine⟨_,_,.pointer (some ⟨w.heap.size,0,none⟩),?_,?_,mz hs (aJ.eH (hE.flat ht hz)).cells (e:=t)⟩
  ·simp[Instr.alloc,hr,Go.newVar,newRow]
  ·exact .ptr ⟨m.n,0,none⟩ _ (Sg.add_same _ _) rfl
theorem oO(off:Nat):∀(l:List Value) (k:Nat) (cs:Array Value),off+k+l.length<=cs.size->
  (l.zipIdx k).foldl (fun cs p=>cs.setIfInBounds (off+p.2) p.1) cs=(cs.toList.take (off+k)++(l++cs.toList.drop (off+k+l.length))).toArray
 |[],k,cs,_=>by simp
 |v::l,k,cs,h=>by
  simp only[List.length_cons]at h
  simp only[List.zipIdx_cons,List.foldl_cons]
  rw[oO off l (k+1) (cs.setIfInBounds (off+k) v) (by simp;omega)]
  have e:=list_seg_step cs.toList (off+k) v l (by simp;omega)
  simp only[Array.toList_setIfInBounds,List.length_cons]
  have e1:off+(k+1)=off+k+1:=by omega
  rw[e1]
  simp only[List.append_assoc]at e
  rw[e]
theorem kR{place place':Nat->Option (Nat×Nat)}(hp:∀i o,place i=some o->place' i=some o){T:Operand->Value}{A:Operand->Value}:
  ∀(ps:List (Nat×Operand)) (cs:List Value) (cs':Array Value) (out:List Value),(∀p∈ps,aJ σ (T p.2) (A p.2))->aU σ cs cs'.toList->
   fill place cs (ps.map fun p=>(p.1,T p.2))=some out->∃out':Array Value,Instr.fill place' cs' (ps.map fun p=>(p.1,A p.2))=some out'/\aU σ out out'.toList
 |[],cs,cs',out,_,hc,h=>by
  simp only[List.map_nil,fill,Option.some.injEq]at h
  subst h
  exact⟨cs',rfl,hc⟩
 |p::ps,cs,cs',out,hv,hc,h=>by
  simp only[List.map_cons,fill]at h
  split at h
  ·cases h
  ·rename_i off size ho
   have hx:=hv p List.mem_cons_self
   have hxc:=hx.cells
   cases hb:(Nat.beq (cells (T p.2)).length size && Nat.ble (off+size) cs.length)with
   |false=>rw[hb]at h;simp at h
   |true=>
    rw[hb]at h
    simp only[cond_true]at h
    simp only[Bool.and_eq_true]at hb
    have h1:=Nat.eq_of_beq_eq_true hb.1
    have h2:=Nat.le_of_ble_eq_true hb.2
    have hl1:=hxc.1
    have hl2:=hc.1
    simp only[Array.length_toList]at hl1 hl2
    have hsp:=oO off (A p.2).cells.toList 0 cs' (by simp;omega)
    simp only[Nat.add_zero]at hsp
    have hfold:((A p.2).cells.zipIdx.foldl (fun cs (x:Value×Nat)=>cs.setIfInBounds (off+x.2) x.1) cs')=(cs'.toList.take off++((A p.2).cells.toList++cs'.toList.drop (off+(A p.2).cells.toList.length))).toArray:=by
     rw[<-hsp,<-Array.foldl_toList]
     simp
    have hrel:aU σ (cs.take off++(cells (T p.2)++cs.drop (off+size))) (cs'.toList.take off++((A p.2).cells.toList++cs'.toList.drop (off+(A p.2).cells.toList.length))):=by
     have:(A p.2).cells.toList.length=size:=by simp;omega
     rw[this]
     exact(hc.take off).append (hxc.append (hc.drop _))
    obtain⟨out',e1,e2⟩:=kR hp ps _ (cs'.toList.take off++((A p.2).cells.toList++cs'.toList.drop (off+(A p.2).cells.toList.length))).toArray out (fun q hq=>hv q (List.mem_cons_of_mem _ hq)) (by simpa using hrel) h
    refine⟨out',?_,e2⟩
    simp only[List.map_cons,Instr.fill,hp _ _ ho]
    rw[if_neg (by simp;omega)]
    rw[<-e1]
    congr 1
theorem qu(hE:E.OK P){T A:Operand->Value}{t:TypeId}{ps:Array (Nat×Operand)}{v:Value}(hv:∀p∈ps.toList,aJ σ (T p.2) (A p.2))
  (h:aO E t (ps.toList.map fun p=>(p.1,T p.2))=some v):∃v',(Instr.build t (ps.map fun p=>(p.1,A p.2))).run P w=.ok v' w/\aJ σ v v':=by
 unfold aO at h
 split at h
 ·cases h
 ·rename_i ti hti
  obtain⟨i,u,f⟩:=hE.jJ hti
  split at h
  ·rename_i z fs hz hd
   have hflat:=hE.flat hti hz
   have hd':=hd
   rw[f.d]at hd
   obtain⟨gs,rfl,rfl⟩:=eS hd
   simp only[Option.map_eq_some_iff]at h
   obtain⟨cs,hcs,rfl⟩:=h
   have hr:=dq (w:=w) f.info (by rw[<-f.zero];exact hz)
   have hplaces:(gs.mapM (m:=Sem) fun f=>do pure (f.offset,<-sizeOf f.type)).run P w=.ok (gs.map fun g=>(g.offset,(oI P g).size)) w:=by
    have key:∀(l:List Field),(∀g∈l,∃gi,P.info? g.type=some gi)->(l.mapM (m:=Sem) fun f=>do pure (f.offset,<-sizeOf f.type)).run P w=.ok (l.map fun g=>(g.offset,(oI P g).size)) w:=by
     intro l
     induction l with
     |nil=>intro _;rfl
     |cons g l ih=>
      intro hl
      obtain⟨gi,hgi⟩:=hl g List.mem_cons_self
      have h2:=ih (fun g hg=>hl g (List.mem_cons_of_mem _ hg))
      rw[List.mapM_cons]
      simp only[Sem.run_bind,run_sizeOf hgi,Result.andThen_ok,Sem.run_pure,h2,List.map_cons]
      simp[oI,hgi]
    have:=key gs.toList (fun g hg=>by
     obtain⟨fi,h1,_⟩:=hE.Yl hti hd' (List.mem_map_of_mem (f:=oI P) hg)
     obtain⟨gi,gu,gf⟩:=hE.jJ h1
     exact⟨gi,gf.info⟩)
    rw[Array.mapM_eq_mapM_toList,Sem.run_map,this]
    simp only[Result.andThen_ok]
    congr 1
    apply Array.ext'
    simp
   obtain⟨out',e1,e2⟩:=kR (σ:=σ) (place':=((gs.map fun g=>(g.offset,(oI P g).size))[·]?)) (by
    intro j o ho
    simp only[List.getElem?_map,Option.map_map,Option.map_eq_some_iff]at ho
    obtain⟨g,hg,rfl⟩:=ho
    have:gs[j]?=some g:=by simpa using hg
    simp[this,oI]) ps.toList (cells z) z.cells cs hv (aJ.eH hflat).cells hcs
   refine⟨.agg out',?_,?_⟩
   ·simp only[Instr.build,Sem.run_bind,hr,Result.andThen_ok,run_underlying f.ed,hplaces]
    have:(ps.map fun p=>(p.1,A p.2)).toList=ps.toList.map fun p=>(p.1,A p.2):=by simp
    rw[this,e1]
    rfl
   ·have:=e2.agg;simpa using this
  ·rename_i z n e hz hd
   have hflat:=hE.flat hti hz
   rw[f.d]at hd
   obtain rfl:=gI hd
   cases hb:Nat.beq ti.es 0 with
   |true=>rw[hb]at h;simp at h
   |false=>
    rw[hb]at h
    have hne:=Nat.ne_of_beq_eq_false hb
    simp only[cond_false,Option.map_eq_some_iff]at h
    obtain⟨cs,hcs,rfl⟩:=h
    have hr:=dq (w:=w) f.info (by rw[<-f.zero];exact hz)
    obtain⟨ei,hei,hes⟩:=lS (P:=P) (u:=.array n e) (by rw[<-f.es];exact hne) (.inr ⟨n,rfl⟩)
    obtain⟨out',e1,e2⟩:=kR (σ:=σ) (place':=fun j=>some (j*ei.size,ei.size)) (by
     intro j o ho
     rw[f.es,hes]at ho
     exact ho) ps.toList (cells z) z.cells cs hv (aJ.eH hflat).cells hcs
    refine⟨.agg out',?_,?_⟩
    ·simp only[Instr.build,Sem.run_bind,hr,Result.andThen_ok,run_underlying f.ed,run_sizeOf hei]
     have:(ps.map fun p=>(p.1,A p.2)).toList=ps.toList.map fun p=>(p.1,A p.2):=by simp
     rw[this,e1]
     rfl
    ·have:=e2.agg;simpa using this
  ·cases h
end
end Go.D
namespace Go.D
open Go
section
variable {E:Env} {P:Program} {σ:Sg} {m m':M} {w:World}
theorem iK(z:List Value):∀n:Nat,(fJ z n).length=n*z.length
 |0=>by simp[fJ]
 |n+1=>by unfold fJ;rw[List.length_append,iK z n,Nat.add_mul];omega
theorem tD(z:List Value):∀(n i:Nat),i < n*z.length->(fJ z n)[i]?=z[i%z.length]?
 |0,i,h=>by simp at h
 |n+1,i,h=>by
  unfold fJ
  by_cases hi:i < z.length
  ·rw[List.getElem?_append_left hi,Nat.mod_eq_of_lt hi]
  ·rw[List.getElem?_append_right (by omega),tD z n _ (by rw[Nat.add_mul]at h;omega)]
   congr 1
   rw[<-Nat.mod_eq_sub_mod (by omega)]
theorem mg{z z':List Value}(h:aU σ z z'):∀n:Nat,aU σ (fJ z n) (fJ z' n)
 |0=>aU.nil
 |n+1=>h.append (mg h n)
theorem lK(z:Array Value)(n:Nat):((Array.range (n*z.size)).map fun i=>z[i%z.size]!)=(fJ z.toList n).toArray:=by
 apply Array.ext'
 apply List.ext_getElem?
 intro i
 simp only[Array.toList_map,List.getElem?_map,Array.toList_range]
 by_cases hi:i < n*z.size
 ·rw[List.getElem?_range hi,tD z.toList n i (by simpa using hi)]
  have hz:0 < z.size:=by
   rcases Nat.eq_zero_or_pos z.size with h |h
   ·rw[h]at hi;simp at hi
   ·exact h
  have hm:i%z.size < z.size:=Nat.mod_lt _ hz
  simp[hm]
 ·rw[List.getElem?_eq_none (by simp;omega),List.getElem?_eq_none (by rw[iK];simpa using hi)]
  rfl
theorem range_zero':Array.range 0= #[]:=rfl
theorem qb(hE:E.OK P)(hs:dN P σ m w){T A:Operand->Value}{t:TypeId}{n:Nat}{ps:Array (Nat×Operand)}{v:Value}(hv:∀p∈ps.toList,aJ σ (T p.2) (A p.2))
  (h:az E m t n (ps.toList.map fun p=>(p.1,T p.2))=some (v,m')):tC P σ m w (Instr.buildSlice t n (ps.map fun p=>(p.1,A p.2))) v m':=by
 unfold az at h
 split at h
 ·cases h
 ·rename_i ti hti
  obtain⟨i,u,f⟩:=hE.jJ hti
  split at h
  ·rename_i e hd
   rw[f.d]at hd
   obtain rfl:=cT hd
   split at h
   ·cases h
   ·rename_i z hz
    unfold fQ at hz
    cases he:E.ty.get e with
    |none=>rw[he]at hz;simp at hz
    |some ei=>
     rw[he]at hz
     simp only[Option.bind_some]at hz
     obtain⟨ie,ue,fe⟩:=hE.jJ he
     have hes:ti.es=ie.size:=by rw[f.es];simp[sG,fe.info]
     cases hb:(Nat.beq (cells z).length ti.es && Nat.ble (n*ti.es) 1048576)with
     |false=>rw[hb]at h;simp at h
     |true=>
      rw[hb]at h
      simp only[cond_true,Option.map_eq_some_iff,Prod.mk.injEq]at h
      obtain⟨cs,hcs,rfl,rfl⟩:=h
      simp only[Bool.and_eq_true]at hb
      have h1:=Nat.eq_of_beq_eq_true hb.1
      have h2:=Nat.le_of_ble_eq_true hb.2
      have hzr:=(aJ.eH (σ:=σ) (hE.flat he hz)).cells
      have hzl:z.cells.size=ie.size:=by have:=hzr.1;simp at this;omega
      have hr:=dq (w:=w) fe.info (by rw[<-fe.zero];exact hz)
      obtain⟨out',e1,e2⟩:=kR (σ:=σ) (place':=fun j=>some (j*ie.size,ie.size)) (by
       intro j o ho
       rw[hes]at ho
       exact ho) ps.toList (fJ (cells z) n) (fJ z.cells.toList n).toArray cs hv (by simpa using mg hzr n) hcs
      refine⟨_,_,.slice (some ⟨w.heap.size,0,none⟩) n n,?_,?_,mz hs e2 (e:=e)⟩
      ·have hfill:Instr.fill (fun i=>some (i*ie.size,ie.size)) ((Array.range (n*ie.size)).map (z.cells[·%z.cells.size]!)) (ps.map fun p=>(p.1,A p.2)).toList=some out':=by
        have:=lK z.cells n
        rw[hzl]at this⊢
        rw[this,Array.toList_map]
        exact e1
       by_cases h0:n*ie.size=0
       ·have hz0:(fJ z.cells.toList n).toArray= #[]:=by
         apply Array.ext'
         exact List.eq_nil_of_length_eq_zero (by rw[iK];simp only[Array.length_toList];rw[hzl];exact h0)
        have hfill':Instr.fill (fun i=>some (i*ie.size,ie.size)) ((Array.range (n*ie.size)).map ((#[]:Array Value)[·%(#[]:Array Value).size]!)) (ps.map fun p=>(p.1,A p.2)).toList=some out':=by
         rw[<-hfill,h0]
         simp[range_zero']
        simp only[Instr.buildSlice,Sem.run_bind,run_underlying f.ed,Result.andThen_ok,run_sizeOf fe.info,Sem.run_ite]
        rw[if_neg (by rw[hes]at h2;omega)]
        simp only[Sem.run_pure,Result.andThen_ok,h0,if_true]
        rw[h0]at hfill'
        rw[hfill']
        simp[newRow]
       ·simp only[Instr.buildSlice,Sem.run_bind,run_underlying f.ed,Result.andThen_ok,run_sizeOf fe.info,Sem.run_ite]
        rw[if_neg (by rw[hes]at h2;omega)]
        simp only[Sem.run_pure,Result.andThen_ok,h0,if_false,hr]
        rw[hfill]
        simp[newRow]
      ·exact .slice ⟨m.n,0,none⟩ _ n n (Sg.add_same _ _) rfl rfl
  ·cases h
theorem qC(hE:E.OK P)(hs:dN P σ m w){t:TypeId}{l l' c c' v:Value}(hl:aJ σ l l')(hc:aJ σ c c')(h:dK E m t l c=some (v,m')):
  tC P σ m w (Instr.makeSlice t l' c') v m':=by
 unfold dK at h
 split at h
 ·cases h
 ·rename_i ti hti
  obtain⟨i,u,f⟩:=hE.jJ hti
  split at h
  ·rename_i e k l k' c hd
   rw[f.d]at hd
   obtain rfl:=cT hd
   split at h
   ·cases h
   ·rename_i ei he
    obtain⟨ie,ue,fe⟩:=hE.jJ he
    split at h
    ·cases h
    ·rename_i z hz
     split at h
     ·rename_i hcond
      obtain⟨h1,h2,h3,h4,h5⟩:=hcond
      cases h
      rw[hl.int,hc.int]
      have hzr:=(aJ.eH (σ:=σ) (hE.flat he hz)).cells
      have hzl:z.cells.size=ie.size:=by have:=hzr.1;have:=fe.size;simp at*;omega
      have hr:=dq (w:=w) fe.info (by rw[<-fe.zero];exact hz)
      have hb:(ie.bytes:Int)*c<=68719476736:=by
       have:(ie.bytes:Int)<=65536:=by have:=fe.bytes;omega
       calc (ie.bytes:Int)*c<=65536*1048576:=Int.mul_le_mul this h3 (by omega) (by omega)
        _=68719476736:=by decide
      have hw1:IntKind.i64.wrap l=l:=by rw[IntKind.wrap_i64];omega
      have hw2:IntKind.i64.wrap c=c:=by rw[IntKind.wrap_i64];omega
      refine⟨_,_,.slice (some ⟨w.heap.size,0,none⟩) l.toNat c.toNat,?_,?_,mz hs (c':=(fJ z.cells.toList c.toNat).toArray) (by simpa using mg hzr c.toNat) (e:=e)⟩
      ·have hrz:=lK z.cells c.toNat
       rw[hzl]at hrz
       simp only[Instr.makeSlice,Sem.run_bind,run_underlying f.ed,Result.andThen_ok,asInt,asIntOf,Sem.run_pure,run_typeInfo fe.info,hw1,hw2,Sem.run_ite]
       have ht:¬((decide (c < 0) ||decide ((ie.bytes:Int)*c >2 ^ 48))=true\/l < 0\/l >c):=by
        simp only[Bool.or_eq_true,decide_eq_true_eq]
        omega
       rw[if_neg (by simpa[or_assoc]using ht)]
       simp only[Result.andThen_ok,run_askRoom,run_sizeOf fe.info]
       by_cases h0:c.toNat*ie.size=0
       ·have hz0:(fJ z.cells.toList c.toNat).toArray= #[]:=by
         apply Array.ext'
         exact List.eq_nil_of_length_eq_zero (by rw[iK];simp only[Array.length_toList];rw[hzl];exact h0)
        rw[hz0]
        simp[h0,newRow,range_zero']
       ·simp only[if_neg h0,hr,Result.andThen_ok]
        rw[hzl,hrz]
        simp[newRow]
      ·exact .slice ⟨m.n,0,none⟩ _ _ _ (Sg.add_same _ _) rfl rfl
     ·cases h
  ·cases h
end
end Go.D
namespace Go.D
open Go
section
variable {E:Env} {P:Program} {σ:Sg} {m m':M} {w:World}
theorem im{x x':Value}{y n:Nat}(h:nP x y=some n)(hx:aJ σ x x')(y':Nat)(hy:y<=y')(c:BoundsCode):(Instr.sliceBound x' y' c).run P w=.ok n w/\n<=y:=by
 unfold nP at h
 split at h
 ·rename_i k i
  split at h
  ·rename_i hc
   cases h
   rw[hx.int]
   refine⟨?_,by omega⟩
   have h2:0<=i/\i<=(y':Int):=by omega
   simp only[Instr.sliceBound,Sem.run_bind,asIntOf,Sem.run_pure,Result.andThen_ok,if_pos h2]
  ·cases h
 ·cases h
def sY(σ:Sg)(x x':Option Value):Prop:=match x,x' with
 |none,none=>True
 |some v,some v'=>aJ σ v v'
 |_,_=>False
theorem eD{len cap:Nat}{lo hi mx lo' hi' mx':Option Value}{l h k:Nat}(e:cE len cap lo hi mx=some (l,h,k))(h1:sY σ lo lo')(h2:sY σ hi hi')(h3:sY σ mx mx')
  (hlc:len<=cap) (b:Bool) (cap':Nat) (hc:cap<=cap'):
  (Instr.sliceBounds b len cap' lo' hi' mx').run P w=.ok (l,h,if mx.isNone then cap' else k) w/\l<=h/\h<=k/\k<=cap/\(mx=none->k=cap):=by
 unfold cE at e
 split at e
 ·cases e
 ·rename_i m hm
  split at e
  ·cases e
  ·rename_i h' hh
   split at e
   ·cases e
   ·rename_i l' hl
    cases e
    cases mx with
    |some vm=>
     cases mx' with
     |none=>exact h3.elim
     |some vm'=>
      obtain⟨r1,r2⟩:=im (P:=P) (w:=w) hm h3 cap' hc (if b then .slice3Acap else .slice3Alen)
      cases hi with
      |none=>simp at hh
      |some vh=>
       cases hi' with
       |none=>exact h2.elim
       |some vh'=>
        simp only at hh
        obtain⟨s1,s2⟩:=im (P:=P) (w:=w) hh h2 k (Nat.le_refl _) .slice3B
        cases lo with
        |none=>
         cases lo' with
         |some _=>exact h1.elim
         |none=>
          simp only[Option.some.injEq]at hl
          subst hl
          refine⟨?_,by omega,s2,r2,by simp⟩
          simp only[Instr.sliceBounds,Sem.run_bind,r1,s1,Sem.run_pure,Result.andThen_ok]
          rfl
        |some vl=>
         cases lo' with
         |none=>exact h1.elim
         |some vl'=>
          simp only at hl
          obtain⟨t1,t2⟩:=im (P:=P) (w:=w) hl h1 h (Nat.le_refl _) .slice3C
          refine⟨?_,t2,s2,r2,by simp⟩
          simp[Instr.sliceBounds,Sem.run_bind,r1,s1,t1]
    |none=>
     cases mx' with
     |some _=>exact h3.elim
     |none=>
      simp only[Option.some.injEq]at hm
      subst hm
      have hhk:(match hi' with |some v=>Instr.sliceBound v cap' (if b then .sliceAcap else .sliceAlen) |none=>pure len:Sem Nat).run P w=.ok h w/\h<=cap:=by
       cases hi with
       |none=>
        cases hi' with
        |some _=>exact h2.elim
        |none=>simp only[Option.some.injEq]at hh;subst hh;exact⟨rfl,hlc⟩
       |some vh=>
        cases hi' with
        |none=>exact h2.elim
        |some vh'=>exact im (P:=P) (w:=w) hh h2 cap' hc _
      have hll:(match lo' with |some v=>Instr.sliceBound v h .sliceB |none=>pure 0:Sem Nat).run P w=.ok l w/\l<=h:=by
       cases lo with
       |none=>
        cases lo' with
        |some _=>exact h1.elim
        |none=>simp only[Option.some.injEq]at hl;subst hl;exact⟨rfl,by omega⟩
       |some vl=>
        cases lo' with
        |none=>exact h1.elim
        |some vl'=>exact im (P:=P) (w:=w) hl h1 h (Nat.le_refl _) _
      refine⟨?_,hll.2,hhk.2,Nat.le_refl _,fun _=>rfl⟩
      have e1:=hhk.1
      have e2:=hll.1
      simp only[Instr.sliceBounds,Sem.run_bind,Sem.run_pure,Result.andThen_ok]
      cases hi' <;>cases lo' <;>simp_all
theorem bC{a:Addr}(hs:a.spot=none)(n:Nat):a.add n=⟨a.block,a.off+n,none⟩:=by
 obtain⟨b,o,s⟩:=a
 simp only at hs
 subst hs
 rw[dz]
theorem mb(a:Addr)(n:Nat):(a.add n).block=a.block/\(a.add n).off=a.off+n:=by
 unfold Addr.add
 split <;>simp_all
theorem eF{t e:TypeId}{ei:TypeInfo}{a:Option Addr}{n c l h k:Nat}{lo hi mx:Option Value}(hu:P.underlying t=some (.slice e))(he:P.info? e=some ei)
  (hb:(Instr.sliceBounds true n c lo hi mx).run P w=.ok (l,h,k) w):(Instr.sliceAt t (.slice a n c) lo hi mx).run P w=.ok (.slice (if k=l then a else a.map (·.add (l*ei.size))) (h-l) (k-l)) w:=by
 simp only[Instr.sliceAt,Instr.slice,Sem.run_bind,run_underlying hu,Result.andThen_ok,hb,run_sizeOf he,Sem.run_pure]
theorem wW(hE:E.OK P)(hs:dN P σ m w){t:TypeId}{x x' v:Value}{lo hi mx lo' hi' mx':Option Value}(h:slice? E m t x lo hi mx=some v)(hx:aJ σ x x')(h1:sY σ lo lo')(h2:sY σ hi hi')(h3:sY σ mx mx'):
  ∃v',(Instr.sliceAt t x' lo' hi' mx').run P w=.ok v' w/\aJ σ v v':=by
 unfold slice? at h
 split at h
 ·cases h
 ·rename_i ti hti
  obtain⟨i,u,f⟩:=hE.jJ hti
  split at h
  ·rename_i s hd
   rw[f.d]at hd
   obtain rfl:=fV hd
   rw[hx.string]
   split at h
   ·rename_i l hh _ hb
    cases h
    cases mx' with
    |some _=>exact h3.elim
    |none=>
     obtain⟨r,_⟩:=eD (P:=P) (w:=w) hb h1 h2 (mx':=none) trivial (Nat.le_refl _) false s.size (Nat.le_refl _)
     refine⟨.string (s.extract l hh),?_,.flat _ rfl⟩
     simp[Instr.sliceAt,Instr.slice,run_underlying f.ed,r]
   ·cases h
  ·rename_i e hd
   rw[f.d]at hd
   obtain rfl:=cT hd
   rw[hx.aQ rfl]
   split at h
   ·rename_i p hb
    obtain⟨l,hh,k⟩:=p
    cases hz:Nat.beq ti.es 0 with
    |true=>rw[hz]at h;simp at h
    |false=>
     rw[hz]at h
     simp only[cond_false,Option.some.injEq]at h
     subst h
     obtain⟨ei,hei,hes⟩:=lS (P:=P) (u:=.slice e) (by rw[<-f.es];exact Nat.ne_of_beq_eq_false hz) (.inl rfl)
     obtain⟨r,q1,q2,q3,_⟩:=eD (P:=P) (w:=w) hb h1 h2 h3 (Nat.le_refl _) true 0 (Nat.le_refl _)
     obtain rfl:k=0:=by omega
     obtain rfl:hh=0:=by omega
     obtain rfl:l=0:=by omega
     have r':(Instr.sliceBounds true 0 0 lo' hi' mx').run P w=.ok (0,0,0) w:=by simpa using r
     refine⟨.slice none 0 0,?_,.flat _ rfl⟩
     rw[eF f.ed hei r']
     rfl
   ·cases h
  ·rename_i e a n c hd
   rw[f.d]at hd
   obtain rfl:=cT hd
   split at h
   ·rename_i l hh k cs te g hb hg
    cases hz:(Nat.beq ti.es 0 || !(Nat.ble n c))with
    |true=>rw[hz]at h;simp at h
    |false=>
     rw[hz]at h
     simp only[Bool.or_eq_false_iff,Bool.not_eq_false']at hz
     have hnc:=Nat.le_of_ble_eq_true hz.2
     have hes0:=Nat.ne_of_beq_eq_false hz.1
     obtain⟨ei,hei,hes⟩:=lS (P:=P) (u:=.slice e) (by rw[<-f.es];exact hes0) (.inl rfl)
     have hsz:ti.es=ei.size:=by rw[f.es,hes]
     simp only[cond_false]at h
     obtain⟨bi,a',c',hbi,rfl,hcase⟩:=hx.dc
     obtain⟨row,hrow,hlen,_,hgr⟩:=hs.cells hbi hg
     cases g with
     |none=>
      obtain⟨hgn,hsz'⟩:=hgr
      simp only[Option.some.injEq]at h
      subst h
      rcases hcase with⟨hsp,rfl,hh2⟩ |⟨_,_,k0,sz,N,hk0,_⟩
      ·rcases hh2 with⟨_,rfl⟩ |⟨k0,sz,N,hk0,_⟩
       ·obtain⟨r,q1,q2,q3,q4⟩:=eD (P:=P) (w:=w) hb h1 h2 h3 hnc true c' (Nat.le_refl _)
        have r':(Instr.sliceBounds true n c' lo' hi' mx').run P w=.ok (l,hh,k) w:=by
         rw[r];cases mx with
         |none=>simp[q4 rfl]
         |some _=>simp
        refine⟨_,eF f.ed hei r',?_⟩
        by_cases hkl:k=l
        ·subst hkl
         simp only[Nat.beq_refl,cond_true,if_true]
         exact .slice a bi _ _ hbi hsp hgn
        ·have:Nat.beq k l=false:=by
          cases hq:Nat.beq k l with
          |true=>exact absurd (Nat.eq_of_beq_eq_true hq) hkl
          |false=>rfl
         rw[this,if_neg hkl]
         simp only[cond_false,Option.map_some,dz,bC hsp]
         rw[hsz]
         exact .slice ⟨a.block,a.off+l*ei.size,none⟩ bi _ _ hbi rfl hgn
       ·rw[hgn]at hk0;cases hk0
      ·rw[hgn]at hk0;cases hk0
     |some k0=>
      obtain⟨hgn,hk0,hpos⟩:=hgr
      dsimp only at h
      cases hq:Nat.beq k0 ti.es with
      |false=>rw[hq]at h;simp at h
      |true=>
       rw[hq]at h
       have hke:=Nat.eq_of_beq_eq_true hq
       simp only[cond_true,Option.some.injEq]at h
       subst h
       have hD:∀A:Addr,(if k=l/\¬(mx=none/\a.off+c*ti.es=cs.length)then a else a.add (l*ti.es))=A->
         (bif Nat.beq k l && !(mx.isNone && Nat.beq (a.off+c*ti.es) cs.length)then a else a.add (l*ti.es))=A:=by
        rintro A rfl
        by_cases c1:k=l
        ·by_cases c2:mx=none
         ·by_cases c3:a.off+c*ti.es=cs.length
          ·simp[c1,c2,c3]
          ·have:Nat.beq (a.off+c*ti.es) cs.length=false:=by
            cases hq2:Nat.beq (a.off+c*ti.es) cs.length with
            |true=>exact absurd (Nat.eq_of_beq_eq_true hq2) c3
            |false=>rfl
           simp[c1,c2,c3,this]
         ·cases mx with
          |none=>exact absurd rfl c2
          |some _=>simp[c1]
        ·have:Nat.beq k l=false:=by
          cases hq2:Nat.beq k l with
          |true=>exact absurd (Nat.eq_of_beq_eq_true hq2) c1
          |false=>rfl
         simp[c1,this]
       rw[hD _ rfl]
       rcases hcase with⟨hsp,rfl,hh2⟩ |⟨rfl,rfl,k1,sz,N,hk1,hoff⟩
       ·rcases hh2 with⟨hgn',_⟩ |⟨k1,sz,N,hk1,hcc⟩
        ·rw[hgn]at hgn';cases hgn'
        ·rw[hgn]at hk1
         simp only[Option.some.injEq,Prod.mk.injEq]at hk1
         obtain⟨rfl,rfl,rfl⟩:=hk1
         have hcc':c<=c':=by
          rcases hcc with rfl |⟨e0,e1,e2⟩
          ·exact Nat.le_refl _
          ·exact e0
         obtain⟨r,q1,q2,q3,q4⟩:=eD (P:=P) (w:=w) hb h1 h2 h3 hnc true c' hcc'
         refine⟨_,eF f.ed hei r,?_⟩
         have hmx:mx=none\/∃y,mx=some y:=by cases mx <;>simp
         rcases hmx with rfl |⟨y,rfl⟩
         ·obtain rfl:=q4 rfl
          simp only[Option.isNone_none,if_true,true_and]
          by_cases hend:a.off+k*ti.es=cs.length
          ·rw[if_neg (by simp[hend])]
           by_cases hkl:k=l
           ·subst hkl
            obtain rfl:hh=k:=by omega
            simp only[Nat.sub_self]
            obtain⟨b1,b2⟩:=mb a (hh*ti.es)
            by_cases hc2:c'=hh
            ·rw[if_pos hc2]
             exact .empty _ _ bi _ k0 _ _ (by rw[b1];exact hbi) hgn (by rw[b2];exact hend)
            ·rw[if_neg hc2]
             exact .empty _ _ bi _ k0 _ _ (by rw[b1];exact hbi) hgn (by rw[b2];exact hend)
           ·rw[if_neg (by omega),bC hsp,<-hsz]
            simp only[Option.map_some,dz]
            refine .fm ⟨a.block,a.off+l*ti.es,none⟩ bi _ _ _ k0 _ _ hbi rfl hgn ?_
            rcases hcc with rfl |⟨e0,e1,e2⟩
            ·exact .inl rfl
            ·refine .inr ⟨by omega,?_,?_⟩
             ·dsimp only
              rw[<-hke,Nat.sub_mul,Nat.add_assoc,Nat.add_sub_cancel' (Nat.mul_le_mul_right _ (by omega))]
              exact e1
             ·dsimp only
              rw[<-hke,Nat.sub_mul,Nat.add_assoc,Nat.add_sub_cancel' (Nat.mul_le_mul_right _ (by omega))]
              exact e2
          ·have hc2:c'=k:=by
            rcases hcc with rfl |⟨e0,e1,e2⟩
            ·rfl
            ·rw[hke]at e1;exact absurd e1 hend
           subst hc2
           simp only[hend,not_false_eq_true,and_true]
           by_cases hkl:c'=l
           ·rw[if_pos hkl,if_pos hkl]
            exact .fm a bi _ _ _ k0 _ _ hbi hsp hgn (.inl rfl)
           ·rw[if_neg hkl,if_neg hkl,bC hsp,<-hsz]
            simp only[Option.map_some,dz]
            exact .fm ⟨a.block,a.off+l*ti.es,none⟩ bi _ _ _ k0 _ _ hbi rfl hgn (.inl rfl)
         ·simp only[Option.isNone_some,Bool.false_eq_true,if_false,reduceCtorEq,false_and,not_false_eq_true,and_true]
          by_cases hkl:k=l
          ·rw[if_pos hkl,if_pos hkl]
           exact .fm a bi _ _ _ k0 _ _ hbi hsp hgn (.inl rfl)
          ·rw[if_neg hkl,if_neg hkl,bC hsp,<-hsz]
           simp only[Option.map_some,dz]
           exact .fm ⟨a.block,a.off+l*ti.es,none⟩ bi _ _ _ k0 _ _ hbi rfl hgn (.inl rfl)
       ·rw[hgn]at hk1
        simp only[Option.some.injEq,Prod.mk.injEq]at hk1
        obtain⟨rfl,rfl,rfl⟩:=hk1
        obtain⟨r,q1,q2,q3,q4⟩:=eD (P:=P) (w:=w) hb h1 h2 h3 hnc true c' (Nat.zero_le _)
        obtain rfl:k=0:=by omega
        obtain rfl:hh=0:=by omega
        obtain rfl:l=0:=by omega
        refine⟨_,eF f.ed hei r,?_⟩
        obtain⟨b1,b2⟩:=mb a (0*ti.es)
        have hA:σ (if 0=0/\¬(mx=none/\a.off+0*ti.es=cs.length)then a else a.add (0*ti.es)).block=some bi/\(if 0=0/\¬(mx=none/\a.off+0*ti.es=cs.length)then a else a.add (0*ti.es)).off=cs.length:=by
         split
         ·exact⟨hbi,hoff⟩
         ·exact⟨by rw[b1];exact hbi,by rw[b2,hoff];simp⟩
        have hR:∃a2,(if(if mx.isNone then c' else 0)=0 then some a' else(some a').map (·.add (0*ei.size)))=some a2:=by
         by_cases hq2:(if mx.isNone then c' else 0)=0
         ·exact⟨_,if_pos hq2⟩
         ·exact⟨_,if_neg hq2⟩
        obtain⟨a2,ha2⟩:=hR
        rw[ha2]
        exact .empty _ _ bi _ k0 _ _ hA.1 hgn hA.2
   ·rename_i l hh k cs hb hg
    cases hz:(Nat.beq ti.es 0 || !(Nat.ble n c))with
    |true=>rw[hz]at h;simp at h
    |false=>
     rw[hz]at h
     simp only[Bool.or_eq_false_iff,Bool.not_eq_false']at hz
     have hnc:=Nat.le_of_ble_eq_true hz.2
     have hes0:=Nat.ne_of_beq_eq_false hz.1
     obtain⟨ei,hei,hes⟩:=lS (P:=P) (u:=.slice e) (by rw[<-f.es];exact hes0) (.inl rfl)
     have hsz:ti.es=ei.size:=by rw[f.es,hes]
     simp only[cond_false,Option.some.injEq]at h
     subst h
     obtain⟨bi,a',c',hbi,rfl,hcase⟩:=hx.dc
     have hgn:bi.gr=none:=by
      have:=hs.obj _ _ hbi
      rw[hg]at this
      exact this.1
     rcases hcase with⟨hsp,rfl,hh2⟩ |⟨_,_,k0,sz,N,hk0,_⟩
     ·rcases hh2 with⟨_,rfl⟩ |⟨k0,sz,N,hk0,_⟩
      ·obtain⟨r,q1,q2,q3,q4⟩:=eD (P:=P) (w:=w) hb h1 h2 h3 hnc true c' (Nat.le_refl _)
       have r':(Instr.sliceBounds true n c' lo' hi' mx').run P w=.ok (l,hh,k) w:=by
        rw[r];cases mx with
        |none=>simp[q4 rfl]
        |some _=>simp
       refine⟨_,eF f.ed hei r',?_⟩
       by_cases hkl:k=l
       ·subst hkl
        simp only[Nat.beq_refl,cond_true,if_true]
        exact .slice a bi _ _ hbi hsp hgn
       ·have:Nat.beq k l=false:=by
         cases hq:Nat.beq k l with
         |true=>exact absurd (Nat.eq_of_beq_eq_true hq) hkl
         |false=>rfl
        rw[this,if_neg hkl]
        simp only[cond_false,Option.map_some,dz,bC hsp]
        rw[hsz]
        exact .slice ⟨a.block,a.off+l*ei.size,none⟩ bi _ _ hbi rfl hgn
      ·rw[hgn]at hk0;cases hk0
     ·rw[hgn]at hk0;cases hk0
   ·cases h
  ·rename_i n e a hd
   rw[f.d]at hd
   obtain rfl:=gI hd
   split at h
   ·rename_i l hh k hb
    cases hz:(lI m a ||Nat.beq ti.es 0)with
    |true=>rw[hz]at h;simp at h
    |false=>
     rw[hz]at h
     simp only[cond_false,Option.some.injEq]at h
     subst h
     simp only[Bool.or_eq_false_iff]at hz
     obtain⟨ei,hei,hes⟩:=lS (P:=P) (u:=.array n e) (by rw[<-f.es];exact Nat.ne_of_beq_eq_false hz.2) (.inr ⟨n,rfl⟩)
     have hsz:ti.es=ei.size:=by rw[f.es,hes]
     obtain⟨bi,hbi,hsp,rfl⟩:=hx.dV
     have hgn:bi.gr=none:=by
      have h0:=hz.1
      unfold lI at h0
      split at h0
      ·rename_i cs te hg
       obtain⟨_,_,_,_,hgr⟩:=hs.cells hbi hg
       exact hgr.1
      ·cases h0
     obtain⟨r,q1,q2,q3,q4⟩:=eD (P:=P) (w:=w) hb h1 h2 h3 (Nat.le_refl _) false n (Nat.le_refl _)
     have r':(Instr.sliceBounds false n n lo' hi' mx').run P w=.ok (l,hh,k) w:=by
      rw[r];cases mx with
      |none=>simp[q4 rfl]
      |some _=>simp
     refine⟨.slice (some (if k=l then⟨bi.cG,a.off,none⟩else(⟨bi.cG,a.off,none⟩:Addr).add (l*ei.size))) (hh-l) (k-l),by simp only[Instr.sliceAt,Sem.run_bind,run_underlying f.ed,Result.andThen_ok,Instr.sureAddr,Sem.run_pure,r',run_sizeOf hei],?_⟩
     by_cases hkl:k=l
     ·subst hkl
      simp only[Nat.beq_refl,cond_true,if_true]
      exact .slice a bi _ _ hbi hsp hgn
     ·have:Nat.beq k l=false:=by
       cases hq:Nat.beq k l with
       |true=>exact absurd (Nat.eq_of_beq_eq_true hq) hkl
       |false=>rfl
      rw[this,if_neg hkl]
      simp only[cond_false,dz,bC hsp]
      rw[hsz]
      exact .slice ⟨a.block,a.off+l*ei.size,none⟩ bi _ _ hbi rfl hgn
   ·cases h
  ·cases h
end
end Go.D
namespace Go.D
open Go
section
variable {E:Env} {P:Program} {σ:Sg} {m m':M} {w:World}
theorem fH{a b:Nat}(h:a≠b):Nat.beq a b=false:=by
 cases hq:Nat.beq a b with
 |true=>exact absurd (Nat.eq_of_beq_eq_true hq) h
 |false=>rfl
theorem aU.Gw{l:List Value}(h:∀v∈l,bP v=true):aU σ l l:=⟨rfl,fun j u u' a b=>by
 rw[a]at b;cases b
 exact .flat _ (h u (List.mem_of_getElem? a))⟩
theorem lQ(hs:dN P σ m w){s n:Nat}{x x':Value}{cs:List Value}(h:first? m s n x=some cs)(hx:aJ σ x x')(hn:∀l,jP x=some l->n<=l):
  ∃cs':List Value,(Builtin.firstCells s n x').run P w=.ok cs'.toArray w/\aU σ cs cs':=by
 unfold first? at h
 split at h
 ·rename_i a len cap
  obtain⟨bi,a',c',hbi,rfl,hcase⟩:=hx.dc
  by_cases h0:n=0
  ·subst h0
   simp only[Nat.beq_refl,cond_true,Option.some.injEq]at h
   subst h
   refine⟨[],?_,aU.nil⟩
   have:=run_loadCells_list (P:=P) w a' [] (by simp)
   simpa[Builtin.firstCells]using this
  ·rw[fH h0]at h
   simp only[cond_false]at h
   rcases hcase with⟨hsp,rfl,_⟩ |⟨rfl,_,_⟩
   ·obtain⟨cs',h1,h2,_,_⟩:=fB hs hbi h
    exact⟨cs',by simpa[Builtin.firstCells]using h1,h2⟩
   ·have:=hn 0 rfl;omega
 ·cases h
  obtain⟨_,_,rfl⟩:=hx.dZ
  exact⟨[],by simp[Builtin.firstCells],aU.nil⟩
 ·rename_i b
  cases h
  rw[hx.string]
  refine⟨((b.extract 0 n).data.toList.map fun b=> .int .u8 b.toNat),?_,aU.Gw ?_⟩
  ·simp only[Builtin.firstCells,Sem.run_pure]
   congr 1
   apply Array.ext'
   simp
  ·intro v hv
   obtain⟨b,_,rfl⟩:=List.mem_map.1 hv
   rfl
 ·cases h
theorem oL{x x':Value}{n:Nat}(h:jP x=some n)(hx:aJ σ x x'):(Builtin.lenOf x').run P w=.ok n w:=by
 unfold jP at h
 split at h
 ·cases h
  obtain⟨b',c',rfl,_⟩:=hx.pB
  rfl
 ·cases h
  rw[hx.string];rfl
 ·cases h
theorem fT{t u ty e:TypeId}{i:TypeInfo}{uu:TypeDesc}(ht:P.underlying t=some (.slice e))(hi:P.info? e=some i)(hu:P.underlying u=some uu)(hni:∀k,uu≠.int k)
  {base:Option Addr} {sl sc n:Nat} {x:Value} {new:List Value} {w':World} (hl:(Builtin.lenOf x).run P w=.ok n w) (hf:(Builtin.firstCells i.size n x).run P w=.ok new.toArray w) (hle:sl+n<=sc)
  (hst:(match base with |some a=>Go.storeCells (a.add (sl*i.size)) new |none=>pure ()).run P w=.ok () w'):
  (Builtin.append_ #[t,u] ty #[.slice base sl sc,x]).run P w=.ok (.slice base (sl+n) sc) w':=by
 cases base with
 |none=>
  simp only[Sem.run_pure]at hst
  cases hst
  simp[Builtin.append_,run_underlying ht,run_underlying hu,run_sizeOf hi,hl,hf,hle]
 |some a=>
  simp only at hst
  simp[Builtin.append_,run_underlying ht,run_underlying hu,run_sizeOf hi,hl,hf,hle,hst]
theorem rD{t u ty e:TypeId}{i:TypeInfo}{uu:TypeDesc}{z:Value}(ht:P.underlying t=some (.slice e))(hi:P.info? e=some i)(hu:P.underlying u=some uu)(hni:∀k,uu≠.int k)
  (hz:i.zero=some z) {base:Option Addr} {sl sc n:Nat} {x:Value} {eO new:List Value} (hl:(Builtin.lenOf x).run P w=.ok n w) (ho:(Builtin.firstCells i.size sl (.slice base sl sc)).run P w.drew=.ok eO.toArray w.drew)
  (hf:(Builtin.firstCells i.size n x).run P w.drew=.ok new.toArray w.drew) (hgt:sc < sl+n) (hb:i.bytes<=65536) (hn:sl+n<=268435456):
  ∃N,sl+n<=N/\(Builtin.append_ #[t,u] ty #[.slice base sl sc,x]).run P w=.ok (.slice (some ⟨w.heap.size,0,none⟩) (sl+n) N) (w.drew.alloc (.cells (eO++new++(Builtin.zeroCells z.cells (N-(sl+n))).toList).toArray e)):=by
 refine⟨grownCap w (sl+n) sc e,grownCap_ge _ _ _ _,?_⟩
 have h1:¬(sl+n<=sc):=by omega
 have hfit:=growslice_fits (bytes:=i.bytes) hgt (by
  calc (sl+n)*i.bytes<=268435456*65536:=Nat.mul_le_mul hn hb
   _<=_:=by decide)
 have h48':¬(281474976710656 < Builtin.nextslicecap (sl+n) sc*i.bytes):=by omega
 have h63':¬(9223372036854775807 < ((sl:Int)+(n:Int))):=by omega
 simp[Builtin.append_,run_underlying ht,run_underlying hu,sizeOf,typeInfo,zeroValue,hi,hz,hl,h1,h48',h63',Question.forced,hf,ho,newRow,grownCap]
 congr 2
 apply Array.ext'
 simp
theorem DD(hs:dN P σ m w){eO news old' new' rest:List Value}{e k sl n N:Nat}(h1:aU σ eO old')(h2:aU σ news new')(l1:eO.length=sl*k)(l2:news.length=n*k)(hk:0 < k)(hn:0 < sl+n)
  (hN:sl+n<=N) (lr:rest.length=(N-(sl+n))*k):
  Ev P σ m w (σ.add m.n ⟨w.heap.size,some (k,(sl+n)*k,N*k)⟩) (m.push (.cells (eO++news) e (some k))) (w.drew.alloc (.cells (old'++new'++rest).toArray e))/\
  aJ (σ.add m.n ⟨w.heap.size,some (k,(sl+n)*k,N*k)⟩) (.slice (some ⟨m.n,0,none⟩) (sl+n) (sl+n)) (.slice (some ⟨w.heap.size,0,none⟩) (sl+n) N):=by
 have hlen:(eO++news).length=(sl+n)*k:=by rw[List.length_append,l1,l2,Nat.add_mul]
 have hlen':(old'++new').length=(sl+n)*k:=by rw[<-hlen,(h1.append h2).1]
 have hsz:((old'++new'++rest).toArray).size=N*k:=by
  rw[List.size_toArray,List.length_append,hlen',lr,<-Nat.add_mul]
  congr 1;omega
 have hpos:0 < (sl+n)*k:=Nat.mul_pos hn hk
 have hle:(sl+n)*k<=N*k:=Nat.mul_le_mul_right _ hN
 have hs':dN P σ m w.drew:=hs.of_heap rfl
 have hrow:=BH (g:=some k) (e:=e) (c:=eO++news) (c':=(old'++new'++rest).toArray) hs' (by rw[hlen,hsz];exact hle) (by
  rw[hlen,<-hlen']
  simp only[List.take_left']
  exact h1.append h2) (by
  refine⟨?_,hk,by rw[hlen];exact hpos⟩
  rfl)
 have he:LN (eO++news).length ((old'++new'++rest).toArray).size (some k)=some (k,(sl+n)*k,N*k):=by rw[hlen,hsz];rfl
 rw[he]at hrow
 refine⟨(Ev.of_heap hs rfl rfl rfl rfl:Ev P σ m w σ m w.drew).trans hrow,?_⟩
 exact .fm ⟨m.n,0,none⟩ ⟨w.heap.size,_⟩ _ _ _ k ((sl+n)*k) (N*k) (Sg.add_same _ _) rfl rfl (.inr ⟨hN,by simp,by simp⟩)
theorem wB(hE:E.OK P)(hs:dN P σ m w){t u ty:TypeId}{s x s' x' v:Value}(h:da E m t u s x=some (v,m'))(hx:aJ σ s s')(hy:aJ σ x x'):
  tC P σ m w (Builtin.append_ #[t,u] ty #[s',x']) v m':=by
 unfold da at h
 split at h
 ·rename_i ti ui base sl sc n hti hui hlx
  obtain⟨i,ut,f⟩:=hE.jJ hti
  obtain⟨iu,uu,fu⟩:=hE.jJ hui
  split at h
  ·cases h
  ·rename_i e hd hni
   rw[f.d]at hd
   obtain rfl:=cT hd
   have hni':∀k,uu≠.int k:=by
    rintro k rfl
    exact hni k fu.d
   split at h
   ·rename_i ei news hei hfn
    obtain⟨ie,ue,fe⟩:=hE.jJ hei
    have hsz:ti.es=ie.size:=by rw[f.es];simp[sG,fe.info]
    cases hb:(Nat.beq ti.es 0 ||Nat.blt 65536 ei.bytes || !news.all one ||Nat.blt 268435456 (sl+n) || !Nat.beq news.length (n*ti.es) || !ff ei.zero ti.es)with
    |true=>rw[hb]at h;simp at h
    |false=>
     rw[hb]at h
     simp only[cond_false]at h
     simp only[Bool.or_eq_false_iff,Bool.not_eq_false']at hb
     obtain⟨⟨⟨⟨⟨b1,b2⟩,b3⟩,b4⟩,b5⟩,b6⟩:=hb
     have hes0:=Nat.ne_of_beq_eq_false b1
     have hby:ie.bytes<=65536:=by rw[dX]at b2;have:=fe.bytes;simp at b2;omega
     have hneed:sl+n<=268435456:=by rw[dX]at b4;simp at b4;omega
     have hnl:=Nat.eq_of_beq_eq_true b5
     obtain⟨z,hz,hzl⟩:∃z,ie.zero=some z/\z.cells.size=ie.size:=by
      cases hzz:ei.zero with
      |none=>rw[hzz]at b6;simp[ff]at b6
      |some z=>
       rw[hzz]at b6
       have:=Nat.eq_of_beq_eq_true b6
       have hzr:=(aJ.eH (σ:=σ) (hE.flat hei hzz)).cells.1
       refine⟨z,by rw[<-fe.zero];exact hzz,?_⟩
       simp only[Array.length_toList]at hzr
       omega
     have hln:=fun w=>oL (P:=P) (w:=w) hlx hy
     have hfirst:=fun(w:World) (hs:dN P σ m w)=>lQ (P:=P) hs hfn hy (fun l hl=>by rw[hlx]at hl;cases hl;exact Nat.le_refl _)
     rw[hsz]at hfirst hnl
     cases hfit:Nat.ble (sl+n) sc with
     |true=>
      rw[hfit]at h
      have hle:=Nat.le_of_ble_eq_true hfit
      simp only[cond_true]at h
      obtain⟨new',hf',hr'⟩:=hfirst w hs
      cases base with
      |none=>
       obtain⟨rfl,rfl,rfl⟩:=hx.dZ
       simp only at h
       obtain rfl:n=0:=by omega
       simp only[Nat.beq_refl,cond_true,Option.some.injEq,Prod.mk.injEq]at h
       obtain⟨rfl,rfl⟩:=h
       refine tC.pure hs (fT f.ed fe.info fu.ed hni' (base:=none) (hln w) hf' (Nat.le_refl _) rfl) (.flat _ rfl)
      |some a=>
       obtain⟨bi,a',c',hbi,rfl,hcase⟩:=hx.dc
       by_cases h0:n=0
       ·subst h0
        simp only[Nat.beq_refl,cond_true,Option.map_some,Option.some.injEq,Prod.mk.injEq]at h
        obtain⟨rfl,rfl⟩:=h
        have hnil:new'=[]:=by
         have:=hr'.1
         rw[hnl]at this
         simpa using this.symm
        subst hnil
        have hcc':sl+0<=c':=by
         rcases hcase with⟨_,_,⟨_,rfl⟩ |⟨k,sz,N,hk,rfl |⟨e0,e1,e2⟩⟩⟩ |⟨rfl,_⟩ <;>omega
        refine tC.pure hs (fT f.ed fe.info fu.ed hni' (base:=some a') (hln w) hf' hcc' rfl) hx
       ·rw[fH h0]at h
        simp only[cond_false,Option.map_eq_some_iff,Prod.mk.injEq]at h
        obtain⟨m2,hst,rfl,rfl⟩:=h
        rcases hcase with⟨hsp,rfl,hcc⟩ |⟨rfl,rfl,_⟩
        ·have hcc':sl+n<=c':=by
          rcases hcc with⟨_,rfl⟩ |⟨k,sz,N,hk,rfl |⟨e0,e1,e2⟩⟩ <;>omega
         rw[bC hsp,hsz]at hst
         obtain⟨w',hw1,hw2,_⟩:=fg (a:=⟨a.block,a.off+sl*ie.size,none⟩) hs hbi hr' hst
         refine⟨σ,w',_,fT f.ed fe.info fu.ed hni' (base:=some ⟨bi.cG,a.off,none⟩) (hln w) hf' hcc' (by simp only[dz];exact hw1),?_,hw2⟩
         rcases hcc with⟨hg,rfl⟩ |⟨k,sz,N,hk,hc⟩
         ·exact .slice a bi _ _ hbi hsp hg
         ·exact .fm a bi _ _ _ k sz N hbi hsp hk hc
        ·omega
     |false=>
      rw[hfit]at h
      have hgt:sc < sl+n:=by
       rcases Nat.lt_or_ge sc (sl+n)with hh |hh
       ·exact hh
       ·rw[Nat.ble_eq_true_of_le hh]at hfit;cases hfit
      simp only[cond_false]at h
      have hkp:0 < ti.es:=by omega
      have fresh:∀(m1:M) (base':Option Addr) (c':Nat) (eO old':List Value),Ev P σ m w σ m1 w->m1.n=m.n->
        (Builtin.firstCells ie.size sl (.slice base' sl c')).run P w.drew=.ok old'.toArray w.drew->aU σ eO old'->eO.length=sl*ti.es->c' < sl+n->
        s'=.slice base' sl c'->v=.slice (some ⟨m.n,0,none⟩) (sl+n) (sl+n)->m'=m1.push (.cells (eO++news) e (some ti.es))->tC P σ m w (Builtin.append_ #[t,u] ty #[s',x']) v m':=by
       rintro m1 base' c' eO old' he hmn ho hro hol hc rfl rfl rfl
       obtain⟨new',hf',hr'⟩:=hfirst w.drew (hs.of_heap rfl)
       obtain⟨N,hN,hrun⟩:=rD (ty:=ty) f.ed fe.info fu.ed hni' hz (hln w) ho hf' hc hby hneed
       obtain⟨g1,g2⟩:=DD (e:=e) (rest:=(Builtin.zeroCells z.cells (N-(sl+n))).toList) he.nW hro hr' hol (by rw[hnl,hsz]) hkp (by omega) hN (by
        rw[Array.length_toList,size_zeroCells,hzl,hsz])
       refine⟨_,_,_,hrun,?_,he.trans g1⟩
       rw[hmn]at g2⊢
       exact g2
      unfold iH at h
      split at h
      ·cases hq:(Nat.beq sl 0 && Nat.beq sc 0)with
       |false=>rw[hq]at h;simp at h
       |true=>
        rw[hq]at h
        simp only[cond_true,Option.some.injEq,Prod.mk.injEq]at h
        simp only[Bool.and_eq_true]at hq
        obtain rfl:=Nat.eq_of_beq_eq_true hq.1
        obtain rfl:=Nat.eq_of_beq_eq_true hq.2
        obtain⟨rfl,rfl⟩:=h
        refine fresh m none 0 [] [] (Ev.refl hs) rfl (by simp[Builtin.firstCells]) aU.nil (by simp) hgt (hx.aQ rfl) rfl rfl
      ·rename_i a
       obtain⟨bi,a',c',hbi,hx',hcase⟩:=hx.dc
       split at h
       ·rename_i cs te g eO hg hold
        obtain⟨row,hrow,hlen,hrr,hgr⟩:=hs.cells hbi hg
        have hfo:∀w1,dN P σ m w1->∃old',(Builtin.firstCells ie.size sl (.slice (some a') sl c')).run P w1=.ok (old':List Value).toArray w1/\aU σ eO old':=by
         intro w1 h1
         have hfirst0:first? m ti.es sl (.slice (some a) sl sc)=some eO:=hold
         have:=lQ (P:=P) h1 hfirst0 hx (fun l hl=>by cases hl;exact Nat.le_refl _)
         rw[hx',hsz]at this
         exact this
        have hol:eO.length=sl*ti.es:=by
         by_cases h0:sl=0
         ·subst h0
          simp only[Nat.beq_refl,cond_true,Option.some.injEq]at hold
          subst hold;simp
         ·rw[fH h0]at hold
          simp only[cond_false]at hold
          obtain⟨_,_,_,hl,_⟩:=fB hs hbi hold
          exact hl
        obtain⟨old',hfo',hro⟩:=hfo w.drew (hs.of_heap rfl)
        cases hq:(g.isNone ||(g==some ti.es && Nat.blt (a.off+sc*ti.es) cs.length))with
        |true=>
         rw[hq]at h
         simp only[cond_true,Option.some.injEq,Prod.mk.injEq]at h
         obtain⟨rfl,rfl⟩:=h
         refine fresh m (some a') c' eO old' (Ev.refl hs) rfl hfo' hro hol ?_ hx' rfl rfl
         cases g with
         |none=>
          have hg0:=hgr.1
          rcases hcase with⟨_,_,⟨_,rfl⟩ |⟨k,sz,N,hk,_⟩⟩ |⟨_,_,k,sz,N,hk,_⟩
          ·exact hgt
          ·rw[hg0]at hk;cases hk
          ·rw[hg0]at hk;cases hk
         |some k0=>
          obtain⟨hgr1,hgr2,hgr3⟩:=hgr
          simp only[Option.isNone_some,Bool.false_or,Bool.and_eq_true,beq_iff_eq,Option.some.injEq]at hq
          obtain⟨rfl,hq⟩:=hq
          rw[dX]at hq
          simp only[decide_eq_true_eq]at hq
          rcases hcase with⟨_,_,⟨_,rfl⟩ |⟨k,sz,N,hk,hcc⟩⟩ |⟨_,rfl,k,sz,N,hk,hoff⟩
          ·exact hgt
          ·rw[hgr1]at hk
           simp only[Option.some.injEq,Prod.mk.injEq]at hk
           obtain⟨rfl,rfl,rfl⟩:=hk
           rcases hcc with rfl |⟨e0,e1,e2⟩
           ·exact hgt
           ·omega
          ·rw[hgr1]at hk
           simp only[Option.some.injEq,Prod.mk.injEq]at hk
           obtain⟨rfl,rfl,rfl⟩:=hk
           omega
        |false=>
         rw[hq]at h
         simp only[cond_false]at h
         cases hq2:(g==some ti.es && Nat.beq a.off 0 && a.spot.isNone && Nat.beq (sl*ti.es) cs.length && Nat.beq sc sl && Nat.beq te e)with
         |false=>rw[hq2]at h;simp at h
         |true=>
          rw[hq2]at h
          simp only[cond_true,Option.some.injEq,Prod.mk.injEq]at h
          obtain⟨rfl,rfl⟩:=h
          simp only[Bool.and_eq_true]at hq2
          obtain⟨⟨⟨⟨⟨q1,q2⟩,q3⟩,q4⟩,q5⟩,q6⟩:=hq2
          obtain rfl:=Nat.eq_of_beq_eq_true q6
          have q1:g=some ti.es:=by simpa using q1
          subst q1
          have q2:=Nat.eq_of_beq_eq_true q2
          have q4:=Nat.eq_of_beq_eq_true q4
          obtain rfl:=Nat.eq_of_beq_eq_true q5
          obtain⟨hgr1,hgr2,hgr3⟩:=hgr
          have hdead:m.get a.block≠.dead:=by rw[hg];simp
          by_cases hc2:c' < sc+n
          ·have hw:=Ev.write (w':=w) (ob:=.dead) hs hbi hdead trivial (fun _ _=>rfl) rfl rfl rfl rfl
           exact fresh _ (some a') c' eO old' hw rfl hfo' hro hol hc2 hx' rfl rfl
          ·
           have hsl:sc≠0:=by rintro rfl;simp at q4;omega
           rcases hcase with⟨hsp,rfl,hcc⟩ |⟨rfl,_⟩
           ·rcases hcc with⟨hg0,_⟩ |⟨k,sz,N,hk,hcc⟩
            ·rw[hgr1]at hg0;cases hg0
            ·rw[hgr1]at hk
             simp only[Option.some.injEq,Prod.mk.injEq]at hk
             obtain⟨rfl,rfl,rfl⟩:=hk
             rcases hcc with rfl |⟨e0,e1,e2⟩
             ·omega
             ·obtain⟨new',hf',hr'⟩:=hfirst w hs
              have hold':eO=cs:=by
               rw[fH hsl]at hold
               simp only[cond_false]at hold
               unfold loadCells at hold
               rw[hg]at hold
               simp only[q2,Nat.zero_add,q4,List.drop_zero,List.take_length]at hold
               cases hq3:(a.spot.isNone && Nat.ble cs.length cs.length)with
               |false=>rw[hq3]at hold;simp at hold
               |true=>rw[hq3]at hold;simpa using hold.symm
              subst hold'
              have hnl':new'.length=n*ti.es:=by rw[<-hr'.1,hnl,hsz]
              have hroom:(sc+n)*ti.es<=row.size:=by
               rw[<-e2,q2,Nat.zero_add]
               exact Nat.mul_le_mul_right _ (by omega)
              rw[Nat.add_mul]at hroom
              have hone:=hr'.nB b3
              have hst:=run_storeCells_at (P:=P) bi.cG (sc*ti.es) te new' 0 row w hrow (by omega) hone
              simp only[Nat.add_zero]at hst
              have hla:(row.toList.take (sc*ti.es)++new').length=(sc+n)*ti.es:=by
               rw[List.length_append,List.length_take,hnl',Nat.add_mul,Array.length_toList];omega
              have hlr:(row.toList.take (sc*ti.es)++new'++row.toList.drop (sc*ti.es+new'.length)).length=row.size:=by
               rw[List.length_append,hla,List.length_drop,hnl',Array.length_toList,Nat.add_mul];omega
              have hlo:(eO++news).length=(sc+n)*ti.es:=by rw[List.length_append,hol,hnl,<-hsz,Nat.add_mul]
              have hrel:aU σ (eO++news) (row.toList.take (sc*ti.es)++new'):=by
               rw[q4];exact hrr.append hr'
              have hEv:=Ev.Ls (ob:=.cells (eO++news) te (some ti.es)) (gr:=some (ti.es,(sc+n)*ti.es,row.size)) (w':=w.setRow bi.cG (row.toList.take (sc*ti.es)++new'++row.toList.drop (sc*ti.es+new'.length)).toArray) hs hbi hdead
               (by
                refine⟨_,setRow_heap w bi.cG row _ te _ hrow,?_,?_,?_⟩
                ·rw[hlo,List.size_toArray,hlr,Nat.add_mul];exact hroom
                ·rw[hlo,<-hla]
                 simp only[List.take_left']
                 exact hrel.mono (Sg.pP hs.jb)
                ·have hlr2:=hlr
                 rw[<-List.size_toArray]at hlr2
                 rw[hlo,hlr2]
                 exact⟨rfl,hkp,Nat.mul_pos (by omega) hkp⟩)
               (fun B hB=>by
                simp only[World.setRow,Array.getElem?_modify]
                rw[if_neg (fun e=>hB e.symm)])
               (by simp[World.setRow]) rfl rfl rfl
              have hrun:=fT (ty:=ty) f.ed fe.info fu.ed hni' (base:=some ⟨bi.cG,a.off,none⟩) (hln w) hf' (show sc+n<=c' by omega) (by
               simp only[dz,q2,Nat.zero_add,<-hsz]
               exact hst)
              rw[hx']
              refine⟨_,_,_,hrun,?_,hEv⟩
              rw[q2]
              exact .fm ⟨m.n,0,none⟩ ⟨bi.cG,some (ti.es,(sc+n)*ti.es,row.size)⟩ _ _ _ ti.es ((sc+n)*ti.es) row.size (Sg.add_same _ _) rfl rfl (.inr ⟨by omega,by simp,by rw[<-e2,q2]⟩)
           ·omega
       ·cases h
   ·cases h
  ·cases h
 ·cases h
end
end Go.D
namespace Go.D
open Go
section
variable {E:Env} {P:Program} {σ:Sg} {m m':M} {w:World}
theorem nq(a:Addr):(Go.storeCells a []).run P w=.ok () w:=by simp[Go.storeCells]
theorem Az{s:Nat}{x:Value}{cs:List Value}(h:first? m s 0 x=some cs):cs=[]:=by
 unfold first? at h
 split at h
 ·simpa using h.symm
 ·simpa using h.symm
 ·cases h
  simp
 ·cases h
theorem AL(hE:E.OK P)(hs:dN P σ m w){t ty:TypeId}{ts:Array TypeId}{d x d' x' v:Value}(ht:ts[0]?=some t)(h:sO E m t d x=some (v,m'))(hd:aJ σ d d')(hx:aJ σ x x'):
  tC P σ m w (Builtin.copy_ ts ty #[d',x']) v m':=by
 unfold sO at h
 split at h
 ·rename_i ti base dl _ xl hti hxl
  obtain⟨i,u,f⟩:=hE.jJ hti
  split at h
  ·rename_i e cs htd hf
   rw[f.d]at htd
   obtain rfl:=cT htd
   cases hz:Nat.beq ti.es 0 with
   |true=>rw[hz]at h;simp at h
   |false=>
    rw[hz]at h
    simp only[cond_false]at h
    obtain⟨ei,hei,hes⟩:=lS (P:=P) (u:=.slice e) (by rw[<-f.es];exact Nat.ne_of_beq_eq_false hz) (.inl rfl)
    have hsz:ti.es=ei.size:=by rw[f.es,hes]
    rw[hsz]at hf
    have hn:Nat.min xl dl=min xl dl:=rfl
    have hln:=oL (P:=P) (w:=w) hxl hx
    obtain⟨cs',hf',hr⟩:=lQ (P:=P) hs hf hx (fun l hl=>by rw[hxl]at hl;cases hl;exact Nat.min_le_left _ _)
    cases base with
    |none=>
     obtain⟨rfl,_,rfl⟩:=hd.dZ
     cases h
     refine tC.pure hs (v':=.int .i64 (min xl 0:Nat)) ?_ (.flat _ rfl)
     simp[Builtin.copy_,ht,run_underlying f.ed,hln,run_sizeOf hei]at hf'⊢
     simp[hf',goInt]
    |some a=>
     obtain⟨bi,a',c',hbi,rfl,hcase⟩:=hd.dc
     simp only[Option.map_eq_some_iff,Prod.mk.injEq]at h
     obtain⟨m2,h,rfl,rfl⟩:=h
     by_cases h0:min xl dl=0
     ·rw[h0]at h
      simp only[Nat.beq_refl,cond_true,Option.some.injEq]at h
      subst h
      rw[h0]at hf hf'
      have hcs:=Az hf
      subst hcs
      obtain rfl:=hr.nil_eq
      refine tC.pure hs (v':=.int .i64 (min xl dl:Nat)) ?_ (.flat _ rfl)
      simp[Builtin.copy_,ht,run_underlying f.ed,hln,run_sizeOf hei,hn,h0,hf',nq,goInt]
     ·rw[fH h0]at h
      simp only[cond_false]at h
      rcases hcase with⟨hsp,rfl,_⟩ |⟨rfl,_⟩
      ·obtain⟨w',hw1,hw2,_⟩:=fg hs hbi hr h
       refine⟨σ,w',.int .i64 (min xl dl:Nat),?_,.flat _ rfl,hw2⟩
       simp[Builtin.copy_,ht,run_underlying f.ed,hln,run_sizeOf hei,hn,hf',hw1,goInt]
      ·simp at h0
  ·cases h
 ·cases h
theorem zi(hE:E.OK P)(hs:dN P σ m w){t ty:TypeId}{x x' v:Value}(h:nL E m t x=some (v,m'))(hx:aJ σ x x'):
  tC P σ m w (Builtin.clear_ #[t] ty #[x']) v m':=by
 unfold nL at h
 split at h
 ·rename_i ti _ _ hti
  obtain⟨i,u,f⟩:=hE.jJ hti
  cases h
  obtain⟨_,_,rfl⟩:=hx.dZ
  refine tC.pure hs (v':=.tuple #[]) ?_ aJ.undef
  simp[Builtin.clear_,run_underlying f.ed]
 ·rename_i ti a n _ hti
  obtain⟨i,u,f⟩:=hE.jJ hti
  obtain⟨bi,a',c',hbi,rfl,hcase⟩:=hx.dc
  by_cases h0:n=0
  ·subst h0
   simp only[Nat.beq_refl,cond_true,Option.some.injEq,Prod.mk.injEq]at h
   obtain⟨rfl,rfl⟩:=h
   refine tC.pure hs (v':=.tuple #[]) ?_ aJ.undef
   simp[Builtin.clear_,run_underlying f.ed]
  ·rw[fH h0]at h
   simp only[cond_false]at h
   split at h
   ·rename_i e hd
    rw[f.d]at hd
    obtain rfl:=cT hd
    split at h
    ·rename_i z hz
     simp only[Option.map_eq_some_iff,Prod.mk.injEq]at h
     obtain⟨m2,h,rfl,rfl⟩:=h
     unfold fQ at hz
     cases he:E.ty.get e with
     |none=>rw[he]at hz;simp at hz
     |some ei=>
      rw[he]at hz
      simp only[Option.bind_some]at hz
      obtain⟨ie,ue,fe⟩:=hE.jJ he
      have hzr:=(aJ.eH (σ:=σ) (hE.flat he hz)).cells
      have hr:=dq (w:=w) fe.info (by rw[<-fe.zero];exact hz)
      rcases hcase with⟨hsp,rfl,_⟩ |⟨rfl,_⟩
      ·obtain⟨w',hw1,hw2,_⟩:=fg hs hbi (mg hzr n) h
       refine⟨σ,w',.tuple #[],?_,aJ.undef,hw2⟩
       have hzc:(Builtin.zeroCells z.cells n).toList=fJ z.cells.toList n:=by rw[Builtin.zeroCells,lK]
       obtain⟨n,rfl⟩:∃k,n=k+1:=⟨n-1,by omega⟩
       simp[Builtin.clear_,run_underlying f.ed,hr,hzc,hw1]
      ·omega
    ·cases h
   ·cases h
 ·cases h
theorem Dx(hE:E.OK P)(hs:dN P σ m w){t ty:TypeId}{x x' v:Value}(h:nF E m t x=some v)(hx:aJ σ x x'):(Builtin.len_ #[t] ty #[x']).run P w=.ok v w/\bP v=true:=by
 unfold nF at h
 split at h
 ·cases h
 ·rename_i ti hti
  obtain⟨i,u,f⟩:=hE.jJ hti
  split at h
  ·rename_i s hd
   rw[f.d]at hd
   obtain rfl:=fV hd
   cases h
   rw[hx.string]
   exact⟨by simp[Builtin.len_,run_underlying f.ed,goInt],rfl⟩
  ·rename_i n e hd
   rw[f.d]at hd
   obtain rfl:=gI hd
   cases h
   exact⟨by simp[Builtin.len_,run_underlying f.ed,goInt],rfl⟩
  ·rename_i e b n c hd
   rw[f.d]at hd
   obtain rfl:=cT hd
   cases h
   obtain⟨b',c',rfl,_⟩:=hx.pB
   exact⟨by simp[Builtin.len_,run_underlying f.ed,goInt],rfl⟩
  ·rename_i k e hd
   rw[f.d]at hd
   obtain rfl:=ju hd
   cases h
   rw[hx.map_nil]
   exact⟨by simp[Builtin.len_,run_underlying f.ed,goInt],rfl⟩
  ·rename_i k e r hd
   rw[f.d]at hd
   obtain rfl:=ju hd
   split at h
   ·rename_i es clock hg
    cases h
    obtain⟨bi,hbi,rfl⟩:=hx.kN
    have ho:=hs.obj _ _ hbi
    rw[hg]at ho
    obtain⟨_,es',h1,h2,_⟩:=ho
    refine⟨?_,rfl⟩
    have hg2:(getObj bi.cG).run P w=.ok (.map es' clock) w:=by simp[getObj,Sem.run,h1]
    simp[Builtin.len_,run_underlying f.ed,hg2,goInt,h2]
   ·cases h
  ·cases h
theorem qn{g:Int->Int->Int}{op:Value->Value->Sem Value}(hop:∀k x k' y,(op (.int k x) (.int k' y)).run P w=.ok (.int k (g x y)) w):
  ∀(l l':List Value) (k:IntKind) (x:Int) (v:Value),aU σ l l'->yX g k x l=some v->(l'.foldlM op (.int k x)).run P w=.ok v w/\bP v=true
 |[],l',k,x,v,hl,h=>by
  obtain rfl:=hl.nil_eq
  simp only[yX,Option.some.injEq]at h
  subst h
  exact⟨rfl,rfl⟩
 |y::l,l',k,x,v,hl,h=>by
  unfold yX at h
  split at h
  ·rename_i heq;cases heq
  ·rename_i k' y' rest heq
   cases heq
   obtain⟨v',l2,rfl,hv,hl2⟩:=hl.cases
   rw[hv.int]
   obtain⟨h1,h2⟩:=qn hop _ _ _ _ _ hl2 h
   exact⟨by rw[List.foldlM_cons,Sem.run_bind,hop,Result.andThen_ok];exact h1,h2⟩
  ·cases h
theorem lP{g:Int->Int->Int}{op:Value->Value->Sem Value}(hop:∀k x k' y,(op (.int k x) (.int k' y)).run P w=.ok (.int k (g x y)) w){l l':List Value}{v:Value}(hl:aU σ l l')(h:db g l=some v):
  ∃x rest,l'=x::rest/\(rest.foldlM op x).run P w=.ok v w/\bP v=true:=by
 unfold db at h
 split at h
 ·obtain⟨v',l2,rfl,hv,hl2⟩:=hl.cases
  rw[hv.int]
  exact⟨_,_,rfl,qn hop _ _ _ _ _ hl2 h⟩
 ·cases h
theorem tp(hs:dN P σ m w)(t:TypeId):tC P σ m w (Instr.makeMap t none) (.map (some m.n)) (m.push (.map [] 0)):=by
 refine⟨σ.add m.n ⟨w.heap.size,none⟩,w.alloc (.map #[] 0),.map (some w.heap.size),?_,.map _ ⟨w.heap.size,none⟩ (Sg.add_same _ _),?_⟩
 ·simp[Instr.makeMap]
 ·exact Ev.mA hs ⟨rfl, #[],heap_alloc_new w _,rfl,fun j e e' h=>by simp at h⟩
theorem kP{kt:TypeId}{k:Value}(h:keyed E kt k=true):eV k=true:=by
 unfold keyed at h
 split at h
 ·split at h
  ·rfl
  ·rfl
  ·rfl
  ·simp only[Bool.and_eq_true]at h
   exact h.1.2
  ·cases h
 ·cases h
theorem aJ.il{v v':Value}(h:aJ σ v v')(h0:eV v=true):v'=v:=by
 by_cases hc:bP v=true
 ·exact h.aQ hc
 ·cases v with
  |agg a=>
   obtain⟨a',rfl,ha⟩:=h.iU
   congr 1
   apply Array.ext'
   apply List.ext_getElem?
   intro j
   cases hj:a.toList[j]? with
   |none=>exact List.getElem?_eq_none (by rw[<-ha.1];exact List.getElem?_eq_none_iff.1 hj)
   |some u=>
    obtain⟨u',hu,hr⟩:=ha.get hj
    rw[hu,hr.aQ (List.all_eq_true.1 h0 u (List.mem_of_getElem? hj))]
  |_=>exact absurd h0 hc
theorem zR(hE:E.OK P){t:TypeId}(h:scalar E t=true):∃u,P.underlying t=some u/\(u=.bool\/(∃k,u=.int k)\/u=.string):=by
 unfold scalar at h
 split at h
 ·rename_i fi hfi
  obtain⟨i,u,f⟩:=hE.jJ hfi
  refine⟨u,f.ed,?_⟩
  split at h
  ·rename_i hd;exact .inl (mC (by rw[<-f.d];exact hd))
  ·rename_i k hd;exact .inr (.inl ⟨k,jv (by rw[<-f.d];exact hd)⟩)
  ·rename_i hd;exact .inr (.inr (fV (by rw[<-f.d];exact hd)))
  ·cases h
 ·cases h
theorem mX(hE:E.OK P)(e:Bool)(n:Nat)(cs:Array Value):∀gs:List Field,(∀g∈gs,g.offset < cs.toList.length/\scalar E g.type=true)->
  (forIn (m:=Sem) gs PUnit.unit fun f _=>
   if f.name≠ "_" then do
    let x<-Go.part f.type cs f.offset
    Instr.checkKey e (n+1) f.type x
    pure (ForInStep.yield PUnit.unit)
   else pure (ForInStep.yield PUnit.unit)).run P w=.ok PUnit.unit w
 |[],_=>rfl
 |g::gs,h=>by
  obtain⟨h1,h2⟩:=h g List.mem_cons_self
  obtain⟨u,hu,hs⟩:=zR hE h2
  have ih:=mX hE e n cs gs (fun g hg=>h g (List.mem_cons_of_mem _ hg))
  have hp:(Go.part g.type cs g.offset).run P w=.ok cs[g.offset]! w:=by
   unfold Go.part
   have h3:g.offset < cs.size:=by simpa using h1
   have ha:=oH (P:=P) u w g.type hu
   have hag:(fI P u).agg=false:=by
    rcases hs with rfl |⟨k,rfl⟩ |rfl <;>rfl
   rw[hag]at ha
   rw[Sem.run_bind,ha,Result.andThen_ok]
   simp[h3]
  have hk:∀v,(Instr.checkKey e (n+1) g.type v).run P w=.ok () w:=by
   intro v
   rcases hs with rfl |⟨k,rfl⟩ |rfl <;>simp[Instr.checkKey,run_underlying hu]
  rw[List.forIn_cons]
  by_cases hn:g.name≠ "_"
  ·rw[if_pos hn]
   simp only[Sem.run_bind,hp,hk,Result.andThen_ok,Sem.run_pure]
   exact ih
  ·rw[if_neg hn]
   simp only[Sem.run_bind,Result.andThen_ok,Sem.run_pure]
   exact ih
theorem jF(hE:E.OK P){kt:TypeId}{k:Value}(h:keyed E kt k=true)(e:Bool)(n:Nat):(Instr.checkKey e (n+2) kt k).run P w=.ok () w:=by
 unfold keyed at h
 split at h
 ·rename_i ti hti
  obtain⟨i,u,f⟩:=hE.jJ hti
  split at h
  ·rename_i hd
   rw[f.d]at hd
   obtain rfl:=mC hd
   simp[Instr.checkKey,run_underlying f.ed]
  ·rename_i hd
   rw[f.d]at hd
   obtain rfl:=jv hd
   simp[Instr.checkKey,run_underlying f.ed]
  ·rename_i hd
   rw[f.d]at hd
   obtain rfl:=fV hd
   simp[Instr.checkKey,run_underlying f.ed]
  ·rename_i fs cs hd
   rw[f.d]at hd
   obtain⟨gs,rfl,rfl⟩:=eS hd
   simp only[Bool.and_eq_true]at h
   have:=mX (w:=w) hE e n cs gs.toList (fun g hg=>by
    have:=List.all_eq_true.1 h.2 _ (List.mem_map_of_mem (f:=oI P) hg)
    simp only[Bool.and_eq_true]at this
    refine⟨?_,this.2⟩
    have h2:=this.1.2
    rw[dX]at h2
    simpa[oI]using of_decide_eq_true h2)
   rw[Array.forIn_toList]at this
   unfold Instr.checkKey
   simp only[Sem.run_bind,run_underlying f.ed,Result.andThen_ok]
   rw[this]
   rfl
  ·cases h
 ·cases h
def pg(σ:Sg)(es es':List MapEntry):Prop:=es.length=es'.length/\∀(j:Nat) e e',es[j]?=some e->es'[j]?=some e'->e'.key=e.key/\e'.born=e.born/\eV e.key=true/\aJ σ e.val e'.val
theorem pg.tail{e e':MapEntry}{es es':List MapEntry}(h:pg σ (e::es) (e'::es')):pg σ es es':=
 ⟨by simpa using h.1,fun j a b x y=>h.2 (j+1) a b (by simpa using x) (by simpa using y)⟩
theorem pg.cases{e:MapEntry}{es x:List MapEntry}(h:pg σ (e::es) x):∃e' es',x=e'::es'/\pg σ es es'/\e'.key=e.key/\eV e.key=true/\aJ σ e.val e'.val:=by
 cases x with
 |nil=>have:=h.1;simp at this
 |cons e' es'=>
  obtain⟨h1,_,h3,h4⟩:=h.2 0 e e' rfl rfl
  exact⟨e',es',rfl,h.tail,h1,h3,h4⟩
def JY(σ:Sg):Option (Nat×Value)->Option (Nat×Value)->Prop
 |none,none=>True
 |some (i,v),some (j,v')=>i=j/\aJ σ v v'
 |_,_=>False
theorem na{kt:TypeId}{k:Value}{ti:TI}{u:TypeDesc}{it:TypeInfo}(hti:E.ty.get kt=some ti)(f:VP P kt ti it u)(hu:u=.bool\/(∃k,u=.int k)\/u=.string):
  ∀(es es':List MapEntry) (i:Nat) (r:Option (Nat×Value)),pg σ es es'->findKey E kt k es i=some r->∃r',Instr.findNow u k es' i=some r'/\JY σ r r'
 |[],es',i,r,h,hf=>by
  have:es'=[]:=List.eq_nil_of_length_eq_zero h.1.symm
  subst this
  simp only[findKey,Option.some.injEq]at hf
  subst hf
  exact⟨none,rfl,trivial⟩
 |e::es,x,i,r,h,hf=>by
  obtain⟨e',es',rfl,ht,hk,_,hv⟩:=h.cases
  unfold findKey at hf
  have hsame:∀b,eq? E kt k e.key=some b->Instr.sameNow u k e.key=some b:=by
   intro b hb
   unfold eq? at hb
   rw[hti]at hb
   simp only[f.d]at hb
   rcases hu with rfl |⟨q,rfl⟩ |rfl
   ·simp only[fI]at hb
    split at hb <;>simp_all [Instr.sameNow]
   ·simp only[fI]at hb
    split at hb <;>simp_all [Instr.sameNow]
   ·simp only[fI]at hb
    split at hb <;>simp_all [Instr.sameNow]
  cases hq:eq? E kt k e.key with
  |none=>rw[hq]at hf;cases hf
  |some b=>
   rw[hq]at hf
   have hn:=hsame b hq
   unfold Instr.findNow
   rw[hk,hn]
   cases b with
   |true=>
    simp only[Option.some.injEq]at hf
    subst hf
    exact⟨_,rfl,rfl,hv⟩
   |false=>exact na hti f hu es es' (i+1) r ht hf
theorem ko(hE:E.OK P){kt:TypeId}{k:Value}(hk1:eV k=true):
  ∀(es es':List MapEntry) (i:Nat) (r:Option (Nat×Value)),pg σ es es'->findKey E kt k es i=some r->∃r',(Instr.findAsking kt k es' i).run P w=.ok r' w/\JY σ r r'
 |[],es',i,r,h,hf=>by
  have:es'=[]:=List.eq_nil_of_length_eq_zero h.1.symm
  subst this
  simp only[findKey,Option.some.injEq]at hf
  subst hf
  exact⟨none,rfl,trivial⟩
 |e::es,x,i,r,h,hf=>by
  obtain⟨e',es',rfl,ht,hk,hfl,hv⟩:=h.cases
  unfold findKey at hf
  cases hq:eq? E kt k e.key with
  |none=>rw[hq]at hf;cases hf
  |some b=>
   rw[hq]at hf
   have he:=lT (w:=w) (σ:=σ) hE hq (aJ.eb hk1) (aJ.eb hfl)
   unfold Instr.findAsking
   rw[hk,Sem.run_bind,he,Result.andThen_ok]
   cases b with
   |true=>
    simp only[Option.some.injEq]at hf
    subst hf
    exact⟨_,rfl,rfl,hv⟩
   |false=>exact ko hE hk1 es es' (i+1) r ht hf
theorem kc(hE:E.OK P){kt:TypeId}{k:Value}(hk:keyed E kt k=true){es es':List MapEntry}{r:Option (Nat×Value)}(h:pg σ es es')(hf:findKey E kt k es 0=some r):
  ∃r',(Instr.findKey kt k es').run P w=.ok r' w/\JY σ r r':=by
 have hk0:=hk
 unfold keyed at hk
 split at hk
 ·rename_i ti hti
  obtain⟨i,u,f⟩:=hE.jJ hti
  have scal:(u=.bool\/(∃k,u=.int k)\/u=.string)->∃r',(Instr.findKey kt k es').run P w=.ok r' w/\JY σ r r':=by
   intro hu
   obtain⟨r',h1,h2⟩:=na hti f hu es es' 0 r h hf
   exact⟨r',by simp[Instr.findKey,run_underlying f.ed,h1],h2⟩
  split at hk
  ·rename_i hd
   exact scal (.inl (mC (by rw[<-f.d];exact hd)))
  ·rename_i hd
   exact scal (.inr (.inl ⟨_,jv (by rw[<-f.d];exact hd)⟩))
  ·rename_i hd
   exact scal (.inr (.inr (fV (by rw[<-f.d];exact hd))))
  ·rename_i fs cs hd
   rw[f.d]at hd
   obtain⟨gs,rfl,rfl⟩:=eS hd
   obtain⟨r',h1,h2⟩:=ko (w:=w) hE (kP hk0) es es' 0 r h hf
   refine⟨r',?_,h2⟩
   cases es' with
   |nil=>
    have:r'=none:=by
     simp only[Instr.findAsking,Sem.run_pure,Result.ok.injEq]at h1
     exact h1.1.symm
    subst this
    simp[Instr.findKey,run_underlying f.ed,Instr.findNow]
   |cons e es'=>
    simp[Instr.findKey,run_underlying f.ed,Instr.findNow,Instr.sameNow,h1]
  ·cases hk
 ·cases hk
def Iw(w:World)(x:Value)(es:Array MapEntry):Prop:=(x=.map none/\es= #[])\/∃r clock,x=.map (some r)/\w.heap[r]?=some (.map es clock)
theorem rC{t kt et:TypeId}{x k v:Value}{es:Array MapEntry}{j:Nat}(ok:Bool)(hu:P.underlying t=some (.map kt et))(hm:Iw w x es)(hc:(Instr.checkKey es.isEmpty 10000 kt k).run P w=.ok () w)
  (hf:(Instr.findKey kt k es.toList).run P w=.ok (some (j,v)) w):(Instr.lookup t x k ok).run P w=.ok (if ok then .tuple #[v,.bool true]else v) w:=by
 rcases hm with⟨rfl,rfl⟩ |⟨r,clock,rfl,hr⟩
 ·simp only[Instr.lookup,Sem.run_bind,run_underlying hu,Result.andThen_ok,Sem.run_pure,hc,hf]
 ·have hg:(getObj r).run P w=.ok (.map es clock) w:=by simp only[getObj,Sem.run,hr]
  simp only[Instr.lookup,Sem.run_bind,run_underlying hu,Result.andThen_ok,Sem.run_pure,hg,hc,hf]
theorem qz{t kt et:TypeId}{x k z:Value}{es:Array MapEntry}(ok:Bool)(hu:P.underlying t=some (.map kt et))(hm:Iw w x es)(hc:(Instr.checkKey es.isEmpty 10000 kt k).run P w=.ok () w)
  (hf:(Instr.findKey kt k es.toList).run P w=.ok none w) (hz:(zeroValue et).run P w=.ok z w):(Instr.lookup t x k ok).run P w=.ok (if ok then .tuple #[z,.bool false]else z) w:=by
 rcases hm with⟨rfl,rfl⟩ |⟨r,clock,rfl,hr⟩
 ·simp only[Instr.lookup,Sem.run_bind,run_underlying hu,Result.andThen_ok,Sem.run_pure,hc,hf,hz]
 ·have hg:(getObj r).run P w=.ok (.map es clock) w:=by simp only[getObj,Sem.run,hr]
  simp only[Instr.lookup,Sem.run_bind,run_underlying hu,Result.andThen_ok,Sem.run_pure,hg,hc,hf,hz]
theorem vw(hE:E.OK P)(hs:dN P σ m w){t:TypeId}{x k x' k' v:Value}{ok:Bool}(h:dL E m t x k ok=some v)(hx:aJ σ x x')(hk:aJ σ k k'):
  ∃v',(Instr.lookup t x' k' ok).run P w=.ok v' w/\aJ σ v v':=by
 unfold dL at h
 split at h
 ·cases h
 ·rename_i ti hti
  obtain⟨i,u,f⟩:=hE.jJ hti
  split at h
  ·rename_i kt et hd
   rw[f.d]at hd
   obtain rfl:=ju hd
   split at h
   ·cases h
   ·rename_i es hes
    cases hkd:keyed E kt k with
    |false=>rw[hkd]at h;simp at h
    |true=>
     rw[hkd]at h
     simp only[cond_true]at h
     obtain rfl:=hk.il (kP hkd)
     have hge:∃es':Array MapEntry,Iw w x' es'/\pg σ es es'.toList:=by
      split at hes
      ·cases hes
       exact⟨#[],.inl ⟨hx.map_nil,rfl⟩,rfl,fun j e e' h=>by simp at h⟩
      ·split at hes
       ·rename_i r _ _ hg
        cases hes
        obtain⟨bi,hbi,rfl⟩:=hx.kN
        have ho:=hs.obj _ _ hbi
        rw[hg]at ho
        obtain⟨_,es',h1,h2,h3⟩:=ho
        exact⟨es',.inr ⟨_,_,rfl,h1⟩,by simpa using h2,fun j e e' a b=>h3 j e e' a (by simpa using b)⟩
       ·cases hes
      ·cases hes
     obtain⟨es',hg1,hg2⟩:=hge
     have hck:=jF (w:=w) hE hkd es'.isEmpty 9998
     cases hf:findKey E kt k' es 0 with
     |none=>rw[hf]at h;cases h
     |some r=>
      obtain⟨r',hr1,hr2⟩:=kc (w:=w) hE hkd hg2 hf
      rw[hf]at h
      cases r with
      |some p=>
       obtain⟨j,v0⟩:=p
       cases r' with
       |none=>exact hr2.elim
       |some p'=>
        obtain⟨j',v0'⟩:=p'
        obtain⟨_,hv⟩:=hr2
        simp only[Option.some.injEq]at h
        subst h
        refine⟨if ok then .tuple #[v0',.bool true]else v0',?_,?_⟩
        ·exact rC ok f.ed hg1 hck hr1
        ·cases ok
         ·exact hv
         ·exact(aU.cons hv (aU.cons (.flat _ rfl) aU.nil)).tuple
      |none=>
       cases r' with
       |some p'=>exact hr2.elim
       |none=>
        simp only[Option.map_eq_some_iff]at h
        obtain⟨z,hz,rfl⟩:=h
        unfold fQ at hz
        cases he:E.ty.get et with
        |none=>rw[he]at hz;simp at hz
        |some ei=>
         rw[he]at hz
         simp only[Option.bind_some]at hz
         obtain⟨ie,ue,fe⟩:=hE.jJ he
         have hzr:=aJ.eH (σ:=σ) (hE.flat he hz)
         have hr:=dq (w:=w) fe.info (by rw[<-fe.zero];exact hz)
         refine⟨if ok then .tuple #[z,.bool false]else z,?_,?_⟩
         ·exact qz ok f.ed hg1 hck hr1 hr
         ·cases ok
          ·exact hzr
          ·exact(aU.cons hzr (aU.cons (.flat _ rfl) aU.nil)).tuple
  ·cases h
theorem Il{a b:ByteArray}(h:(a==b)=true):a=b:=by
 cases a;cases b
 rename_i x y
 have:(x==y)=true:=h
 simp at this
 rw[this]
theorem oP{q:Kd}{x y:Value}(h:BY q x y=some true)(n:Nat):Instr.sameBits n y x=true:=by
 unfold BY at h
 split at h
 ·simp only[Option.some.injEq,beq_iff_eq]at h
  subst h;simp[Instr.sameBits]
 ·split at h
  ·rename_i hk;subst hk
   simp only[Option.some.injEq,beq_iff_eq]at h
   subst h;simp[Instr.sameBits]
  ·cases h
 ·simp only[Option.some.injEq]at h
  obtain rfl:=Il h
  simpa[Instr.sameBits]using h
 ·cases h
theorem oQ(n:Nat):∀{ks:List Kd} {xs ys:List Value},bR ks xs ys=some true->xs.length=ys.length/\((ys.zip xs).all fun(x,y)=>Instr.sameBits n x y)=true
 |[],[],[],_=>⟨rfl,rfl⟩
 |k::ks,x::xs,y::ys,h=>by
  unfold bR at h
  cases h1:BY k x y with
  |none=>rw[h1]at h;simp at h
  |some c=>
   cases h2:bR ks xs ys with
   |none=>rw[h1,h2]at h;simp at h
   |some r=>
    rw[h1,h2]at h
    simp only[Option.some.injEq,Bool.and_eq_true]at h
    obtain⟨rfl,rfl⟩:=h
    obtain⟨a,b⟩:=oQ n h2
    refine⟨by simp[a],?_⟩
    simp only[List.zip_cons_cons,List.all_cons,Bool.and_eq_true]
    exact⟨oP h1 n,b⟩
theorem BX{kt:TypeId}{k y:Value}(hk:keyed E kt k=true)(h:eq? E kt k y=some true):Instr.sameBits 10000 y k=true:=by
 unfold keyed at hk
 unfold eq? at h
 split at hk
 ·rename_i ti hti
  rw[hti]at h
  obtain⟨d,_,_,_,_,cmp⟩:=ti
  dsimp only at h hk
  split at hk
  ·exact oP (q:=.b) (by cases y <;>simp_all [BY]) _
  ·exact oP (q:=.i) (by cases y <;>simp_all [BY]) _
  ·exact oP (q:=.s) (by cases y <;>simp_all [BY]) _
  ·cases y with
   |agg ys=>
    simp only at h
    cases cmp with
    |none=>simp at h
    |some ks=>
     simp only at h
     obtain⟨a,b⟩:=oQ 9999 h
     simp only[Instr.sameBits,Bool.and_eq_true]
     exact⟨by simpa using a.symm,b⟩
   |_=>simp at h
  ·cases hk
 ·cases hk
theorem nI{kt:TypeId}{k:Value}:∀(es:List MapEntry) (i j:Nat) (v:Value),findKey E kt k es i=some (some (j,v))->∃e,i<=j/\es[j-i]?=some e/\eq? E kt k e.key=some true
 |[],i,j,v,h=>by simp[findKey]at h
 |e::es,i,j,v,h=>by
  unfold findKey at h
  cases hq:eq? E kt k e.key with
  |none=>rw[hq]at h;cases h
  |some b=>
   rw[hq]at h
   cases b with
   |true=>
    simp only[Option.some.injEq,Prod.mk.injEq]at h
    obtain⟨rfl,_⟩:=h
    exact⟨e,Nat.le_refl _,by simp,hq⟩
   |false=>
    obtain⟨e',h1,h2,h3⟩:=nI es (i+1) j v h
    refine⟨e',by omega,?_,h3⟩
    have:j-i=(j-(i+1))+1:=by omega
    rw[this]
    simpa using h2
theorem lh(hE:E.OK P)(hs:dN P σ m w){t:TypeId}{x k v x' k' v':Value}(h:ew E m t x k v=some m')(hx:aJ σ x x')(hk:aJ σ k k')(hv:aJ σ v v'):
  ∃w',(Instr.mapUpdate t x' k' v').run P w=.ok () w'/\Ev P σ m w σ m' w':=by
 unfold ew at h
 split at h
 ·rename_i ti r hti
  obtain⟨i,u,f⟩:=hE.jJ hti
  split at h
  ·rename_i kt et es clock hd hg
   rw[f.d]at hd
   obtain rfl:=ju hd
   cases hkd:keyed E kt k with
   |false=>rw[hkd]at h;simp at h
   |true=>
    rw[hkd]at h
    simp only[cond_true]at h
    have hk1:=kP hkd
    obtain rfl:=hk.il hk1
    obtain⟨bi,hbi,rfl⟩:=hx.kN
    have ho:=hs.obj _ _ hbi
    rw[hg]at ho
    obtain⟨hgr,es',h1,h2,h3⟩:=ho
    have hrel:pg σ es es'.toList:=⟨by simpa using h2,fun j e e' a b=>h3 j e e' a (by simpa using b)⟩
    have hget:(getObj bi.cG).run P w=.ok (.map es' clock) w:=by simp only[getObj,Sem.run,h1]
    have hset:∀o,(setObj bi.cG o).run P w=.ok () {w with heap:=w.heap.setIfInBounds bi.cG o}:=fun o=>MapKept.run_setObj_map o h1
    have hck:=jF (w:=w) hE hkd false 9998
    have hlt:=hs.lt _ _ hbi
    have hheap:∀o:Obj,({w with heap:=w.heap.setIfInBounds bi.cG o}:World).heap[bi.cG]?=some o:=by
     intro o
     simp[hlt]
    have hother:∀(o:Obj) B,B≠bi.cG->({w with heap:=w.heap.setIfInBounds bi.cG o}:World).heap[B]?=w.heap[B]?:=by
     intro o B hB
     simp[Ne.symm hB]
    have hsize:∀o:Obj,({w with heap:=w.heap.setIfInBounds bi.cG o}:World).heap.size=w.heap.size:=by intro o;simp
    have hdead:m.get r≠.dead:=by rw[hg];simp
    cases hf:findKey E kt k' es 0 with
    |none=>rw[hf]at h;cases h
    |some fr=>
     obtain⟨fr',hr1,hr2⟩:=kc (w:=w) hE hkd hrel hf
     rw[hf]at h
     cases fr with
     |some p=>
      obtain⟨j,v0⟩:=p
      cases fr' with
      |none=>exact hr2.elim
      |some p'=>
       obtain⟨j',v0'⟩:=p'
       obtain⟨rfl,_⟩:=hr2
       simp only[Option.some.injEq]at h
       subst h
       obtain⟨e0,_,he0,heq⟩:=nI es 0 j v0 hf
       simp only[Nat.sub_zero]at he0
       have hjlt:j < es'.size:=by rw[<-h2];exact(List.getElem?_eq_some_iff.1 he0).1
       obtain⟨hkey,_,_,_⟩:=h3 j e0 es'[j] he0 (by simp[hjlt])
       have hkeep:(Instr.keyThatStays (((es'[j]?).map (·.key)).getD k') k').run P w=.ok k' w:=by
        have:((es'[j]?).map (·.key)).getD k'=e0.key:=by simp[hjlt,hkey]
        rw[this]
        unfold Instr.keyThatStays
        rw[if_pos (BX hkd heq)]
        rfl
       refine⟨_,?_,Ev.write (ob:=.map (es.modify j fun e=>{e with key:=k',val:=v}) clock) (w':={w with heap:=w.heap.setIfInBounds bi.cG (.map (es'.modify j fun e=>{e with key:=k',val:=v'}) clock)}) hs hbi hdead ?_ (hother _) (hsize _) rfl rfl rfl⟩
       ·simp only[Instr.mapUpdate,Sem.run_bind,run_underlying f.ed,Result.andThen_ok,hget,hck,hr1,hkeep,hset]
       ·refine⟨hgr,_,hheap _,by simp[h2],?_⟩
        intro q e e' he he'
        rw[List.getElem?_modify]at he
        rw[Array.getElem?_modify]at he'
        by_cases hjq:j=q
        ·subst hjq
         simp only[if_true,Option.map_eq_map,Option.map_eq_some_iff]at he he'
         obtain⟨e1,he1,rfl⟩:=he
         obtain⟨e1',he1',rfl⟩:=he'
         obtain⟨_,hb,_,_⟩:=h3 j e1 e1' he1 he1'
         exact⟨rfl,hb,hk1,hv⟩
        ·rw[if_neg hjq]at he'
         simp only[if_neg hjq,Option.map_eq_map,Option.map_id']at he
         exact h3 q e e' (by simpa using he) (by simpa using he')
     |none=>
      cases fr' with
      |some p'=>exact hr2.elim
      |none=>
       simp only[Option.some.injEq]at h
       subst h
       refine⟨_,?_,Ev.write (ob:=.map (es++ [{key:=k',val:=v,born:=clock}]) (clock+1)) (w':={w with heap:=w.heap.setIfInBounds bi.cG (.map (es'.push {key:=k',val:=v',born:=clock}) (clock+1))}) hs hbi hdead ?_ (hother _) (hsize _) rfl rfl rfl⟩
       ·simp only[Instr.mapUpdate,Sem.run_bind,run_underlying f.ed,Result.andThen_ok,hget,hck,hr1,hset]
       ·refine⟨hgr,_,hheap _,by simp[h2],?_⟩
        intro q e e' he he'
        rcases Nat.lt_trichotomy q es.length with hq |hq |hq
        ·rw[List.getElem?_append_left hq]at he
         rw[Array.getElem?_push_lt (by omega)]at he'
         exact h3 q e e' he (by simpa[show q < es'.size by omega]using he')
        ·subst hq
         rw[List.getElem?_append_right (Nat.le_refl _)]at he
         simp only[Nat.sub_self,List.getElem?_cons_zero,Option.some.injEq]at he
         subst he
         rw[h2]at he'
         simp only[Array.getElem?_push_size,Option.some.injEq]at he'
         subst he'
         exact⟨rfl,rfl,hk1,hv⟩
        ·rw[List.getElem?_eq_none (by simp;omega)]at he
         cases he
  ·cases h
 ·cases h
theorem oY:∀{cs cs':List Value} {ns:List Int},bytesOf cs=some ns->aU σ cs cs'->cs'=ns.map (Value.int .u8)
 |[],x,ns,h,hl=>by
  cases h
  exact hl.nil_eq
 |c::cs,x,ns,h,hl=>by
  obtain⟨c',cs',rfl,hc,hl'⟩:=hl.cases
  unfold bytesOf at h
  split at h
  ·cases ‹_::_=[]›
  ·rename_i n r he
   cases he
   cases hr:bytesOf cs with
   |none=>rw[hr]at h;cases h
   |some ns1=>
    rw[hr]at h
    cases h
    rw[hc.int,oY hr hl']
    rfl
  ·cases h
theorem zh(hE:E.OK P)(hs:dN P σ m w){s d:TypeId}{x x' v:Value}(h:AN E m s d x=some v)(hx:aJ σ x x'):(convert s d x').run P w=.ok v w/\bP v=true:=by
 unfold AN at h
 split at h
 ·rename_i ti tj hti htj
  obtain⟨_,us,fs⟩:=hE.jJ hti
  obtain⟨_,ud,fd⟩:=hE.jJ htj
  split at h
  ·rename_i e b n c hd1 hd2
   rw[fs.d]at hd1
   rw[fd.d]at hd2
   have hu1:=fs.ed.trans (by rw[cT hd1])
   have hu2:=fd.ed.trans (by rw[fV hd2])
   split at h
   ·rename_i te hte
    obtain⟨_,ue,fe⟩:=hE.jJ hte
    split at h
    ·rename_i hd3
     cases h
     rw[fe.d]at hd3
     have hu3:=fe.ed.trans (by rw[jv hd3])
     obtain⟨rfl,rfl,rfl⟩:=hx.dZ
     rw[run_convert_bytes_string w s d e none 0 0 hu1 hu3 hu2]
     exact⟨rfl,rfl⟩
    ·rename_i a hd3
     rw[fe.d]at hd3
     have hu3:=fe.ed.trans (by rw[jv hd3])
     cases hn:Nat.beq n 0 with
     |true=>rw[hn]at h;cases h
     |false=>
      rw[hn]at h
      simp only[cond_false]at h
      split at h
      ·rename_i cs hcs
       split at h
       ·rename_i ns hns
        cases h
        have hn0:n≠0:=Nat.ne_of_beq_eq_false hn
        obtain⟨bi,a',c',hbi,rfl,hcase⟩:=hx.dc
        rcases hcase with⟨_,rfl,_⟩ |⟨rfl,_⟩
        ·obtain⟨cs',q1,q2,_,_⟩:=fB (w:=w) hs hbi hcs
         rw[oY hns q2]at q1
         rw[run_convert_bytes_string w s d e _ _ _ hu1 hu3 hu2]
         exact⟨run_bytesToString w _ n c' ns q1,rfl⟩
        ·exact absurd rfl hn0
       ·cases h
      ·cases h
    ·cases h
   ·cases h
  ·cases h
 ·cases h
theorem HY(hE:E.OK P)(hs:dN P σ m w){s d:TypeId}{x x' v:Value}(h:tb E m s d x=some v)(hx:aJ σ x x'):(convert s d x').run P w=.ok v w/\bP v=true:=by
 unfold tb at h
 split at h
 ·rename_i v1 h1
  cases h
  exact AM hE h1 hx
 ·exact zh hE hs h hx
theorem rY(hE:E.OK P)(hs:dN P σ m w){t:TypeId}{x k x' k' v:Value}(h:dF E m t x k=some (v,m'))(hx:aJ σ x x')(hk:aJ σ k k'):
  ∃w' v',(Instr.mapEntry t x' k').run P w=.ok v' w'/\aJ σ v v'/\Ev P σ m w σ m' w':=by
 unfold dF at h
 split at h
 ·rename_i ti r hti
  obtain⟨i,u,f⟩:=hE.jJ hti
  split at h
  ·rename_i kt et es clock hd hg
   rw[f.d]at hd
   obtain rfl:=ju hd
   cases hkd:keyed E kt k with
   |false=>rw[hkd]at h;simp at h
   |true=>
    rw[hkd]at h
    simp only[cond_true]at h
    have hk1:=kP hkd
    obtain rfl:=hk.il hk1
    obtain⟨bi,hbi,rfl⟩:=hx.kN
    have ho:=hs.obj _ _ hbi
    rw[hg]at ho
    obtain⟨hgr,es',h1,h2,h3⟩:=ho
    have hrel:pg σ es es'.toList:=⟨by simpa using h2,fun j e e' a b=>h3 j e e' a (by simpa using b)⟩
    have hget:(getObj bi.cG).run P w=.ok (.map es' clock) w:=by simp only[getObj,Sem.run,h1]
    have hset:∀o,(setObj bi.cG o).run P w=.ok () {w with heap:=w.heap.setIfInBounds bi.cG o}:=fun o=>MapKept.run_setObj_map o h1
    have hck:=jF (w:=w) hE hkd false 9998
    have hlt:=hs.lt _ _ hbi
    have hheap:∀o:Obj,({w with heap:=w.heap.setIfInBounds bi.cG o}:World).heap[bi.cG]?=some o:=by
     intro o
     simp[hlt]
    have hother:∀(o:Obj) B,B≠bi.cG->({w with heap:=w.heap.setIfInBounds bi.cG o}:World).heap[B]?=w.heap[B]?:=by
     intro o B hB
     simp[Ne.symm hB]
    have hsize:∀o:Obj,({w with heap:=w.heap.setIfInBounds bi.cG o}:World).heap.size=w.heap.size:=by intro o;simp
    have hdead:m.get r≠.dead:=by rw[hg];simp
    cases hf:findKey E kt k' es 0 with
    |none=>rw[hf]at h;cases h
    |some fr=>
     obtain⟨fr',hr1,hr2⟩:=kc (w:=w) hE hkd hrel hf
     rw[hf]at h
     cases fr with
     |some p=>
      obtain⟨j,v0⟩:=p
      cases fr' with
      |none=>exact hr2.elim
      |some p'=>
       obtain⟨j',v0'⟩:=p'
       obtain⟨rfl,hv0⟩:=hr2
       simp only[Option.some.injEq,Prod.mk.injEq]at h
       obtain⟨rfl,rfl⟩:=h
       obtain⟨e0,_,he0,heq⟩:=nI es 0 j v0 hf
       simp only[Nat.sub_zero]at he0
       have hjlt:j < es'.size:=by rw[<-h2];exact(List.getElem?_eq_some_iff.1 he0).1
       obtain⟨hkey,hborn,_,_⟩:=h3 j e0 es'[j] he0 (by simp[hjlt])
       have hkeep:(Instr.keyThatStays (((es'[j]?).map (·.key)).getD k') k').run P w=.ok k' w:=by
        have:((es'[j]?).map (·.key)).getD k'=e0.key:=by simp[hjlt,hkey]
        rw[this]
        unfold Instr.keyThatStays
        rw[if_pos (BX hkd heq)]
        rfl
       have hb:((es'[j]?).map (fun x=>(x.born:Int))).getD 0=((es[j]?).map (fun x=>(x.born:Int))).getD 0:=by simp[hjlt,hborn,he0]
       refine⟨_,.tuple #[v0',goInt (((es'[j]?).map (·.born)).getD 0)],?_,?_,Ev.write (ob:=.map (es.modify j fun e=>{e with key:=k'}) clock) (w':={w with heap:=w.heap.setIfInBounds bi.cG (.map (es'.modify j fun e=>{e with key:=k'}) clock)}) hs hbi hdead ?_ (hother _) (hsize _) rfl rfl rfl⟩
       ·simp only[Instr.mapEntry,Sem.run_bind,run_underlying f.ed,Result.andThen_ok,hget,hck,hr1,hkeep,hset]
        rfl
       ·rw[hb]
        exact(aU.cons hv0 (aU.cons (.flat _ rfl) aU.nil)).tuple
       ·refine⟨hgr,_,hheap _,by simp[h2],?_⟩
        intro q e e' he he'
        rw[List.getElem?_modify]at he
        rw[Array.getElem?_modify]at he'
        by_cases hjq:j=q
        ·subst hjq
         simp only[if_true,Option.map_eq_map,Option.map_eq_some_iff]at he he'
         obtain⟨e1,he1,rfl⟩:=he
         obtain⟨e1',he1',rfl⟩:=he'
         obtain⟨_,hb,_,hv⟩:=h3 j e1 e1' he1 he1'
         exact⟨rfl,hb,hk1,hv⟩
        ·rw[if_neg hjq]at he'
         simp only[if_neg hjq,Option.map_eq_map,Option.map_id']at he
         exact h3 q e e' (by simpa using he) (by simpa using he')
     |none=>
      cases fr' with
      |some p'=>exact hr2.elim
      |none=>
       simp only[Option.map_eq_some_iff,Prod.mk.injEq]at h
       obtain⟨z,hz,rfl,rfl⟩:=h
       unfold fQ at hz
       cases hei:E.ty.get et with
       |none=>rw[hei]at hz;simp at hz
       |some ei=>
        rw[hei]at hz
        simp only[Option.bind_some]at hz
        obtain⟨ie,ue,fe⟩:=hE.jJ hei
        have hzr:=aJ.eH (σ:=σ) (hE.flat hei hz)
        have hzrun:=dq (w:=w) fe.info (by rw[<-fe.zero];exact hz)
        refine⟨_,.tuple #[z,goInt clock],?_,(aU.cons hzr (aU.cons (.flat _ rfl) aU.nil)).tuple,Ev.write (ob:=.map (es++ [{key:=k',val:=z,born:=clock}]) (clock+1)) (w':={w with heap:=w.heap.setIfInBounds bi.cG (.map (es'.push {key:=k',val:=z,born:=clock}) (clock+1))}) hs hbi hdead ?_ (hother _) (hsize _) rfl rfl rfl⟩
        ·simp only[Instr.mapEntry,Sem.run_bind,run_underlying f.ed,Result.andThen_ok,hget,hck,hr1,hzrun,hset]
         rfl
        ·refine⟨hgr,_,hheap _,by simp[h2],?_⟩
         intro q e e' he he'
         rcases Nat.lt_trichotomy q es.length with hq |hq |hq
         ·rw[List.getElem?_append_left hq]at he
          rw[Array.getElem?_push_lt (by omega)]at he'
          exact h3 q e e' he (by simpa[show q < es'.size by omega]using he')
         ·subst hq
          rw[List.getElem?_append_right (Nat.le_refl _)]at he
          simp only[Nat.sub_self,List.getElem?_cons_zero,Option.some.injEq]at he
          subst he
          rw[h2]at he'
          simp only[Array.getElem?_push_size,Option.some.injEq]at he'
          subst he'
          exact⟨rfl,rfl,hk1,hzr⟩
         ·rw[List.getElem?_eq_none (by simp;omega)]at he
          cases he
  ·cases h
 ·cases h
theorem mR{b:Int}:∀(es:List MapEntry) (es':List MapEntry) (i j:Nat),pg σ es es'->fA b es i=some j->i<=j/\j-i < es'.length/\es'.findIdx? (fun e=>(e.born:Int)==b)=some (j-i)
 |[],es',i,j,_,h=>by simp[fA]at h
 |e::es,x,i,j,hr,h=>by
  obtain⟨e',es',rfl,ht,_,hfl,hv⟩:=hr.cases
  have hb:e'.born=e.born:=(hr.2 0 e e' rfl rfl).2.1
  unfold fA at h
  rw[List.findIdx?_cons]
  by_cases hc:(e.born:Int)=b
  ·have h1:decide ((e.born:Int)=b)=true:=decide_eq_true hc
   rw[h1]at h
   cases h
   have:((e'.born:Int)==b)=true:=by rw[hb];simpa using hc
   rw[this]
   simp
  ·have h1:decide ((e.born:Int)=b)=false:=decide_eq_false hc
   rw[h1]at h
   simp only[cond_false]at h
   obtain⟨q1,q2,q3⟩:=mR es es' (i+1) j ht h
   have:((e'.born:Int)==b)=false:=by rw[hb];simpa using hc
   rw[this,q3]
   have e1:j-i=j-(i+1)+1:=by omega
   refine⟨by omega,by simp;omega,by simp[e1]⟩
theorem pW(hs:dN P σ m w){t:TypeId}{x s v x' s' v':Value}(h:cD m x s v=some m')(hx:aJ σ x x')(hst:aJ σ s s')(hv:aJ σ v v'):
  ∃w',(Instr.entryStore t x' s' v').run P w=.ok () w'/\Ev P σ m w σ m' w':=by
 unfold cD at h
 split at h
 ·rename_i r k b
  split at h
  ·rename_i es clock hg
   split at h
   ·rename_i j hj
    cases h
    obtain⟨bi,hbi,rfl⟩:=hx.kN
    have ho:=hs.obj _ _ hbi
    rw[hg]at ho
    obtain⟨hgr,es',h1,h2,h3⟩:=ho
    have hrel:pg σ es es'.toList:=⟨by simpa using h2,fun j e e' a b=>h3 j e e' a (by simpa using b)⟩
    have hget:(getObj bi.cG).run P w=.ok (.map es' clock) w:=by simp only[getObj,Sem.run,h1]
    have hset:∀o,(setObj bi.cG o).run P w=.ok () {w with heap:=w.heap.setIfInBounds bi.cG o}:=fun o=>MapKept.run_setObj_map o h1
    have hlt:=hs.lt _ _ hbi
    have hdead:m.get r≠.dead:=by rw[hg];simp
    obtain⟨_,_,hix⟩:=mR es es'.toList 0 j hrel hj
    rw[Nat.sub_zero]at hix
    have hix:es'.findIdx? (fun e=>(e.born:Int)==b)=some j:=by
     rcases es' with⟨l⟩
     rw[List.findIdx?_toArray];exact hix
    rw[hst.int]
    refine⟨_,?_,Ev.write (ob:=.map (es.modify j fun e=>{e with val:=v}) clock) (w':={w with heap:=w.heap.setIfInBounds bi.cG (.map (es'.modify j fun e=>{e with val:=v'}) clock)}) hs hbi hdead ?_ (fun B hB=>by simp[Ne.symm hB]) (by simp) rfl rfl rfl⟩
    ·simp only[Instr.entryStore,Sem.run_bind,hget,Result.andThen_ok,asInt,asIntOf,Sem.run_pure,hix,hset]
    ·refine⟨hgr,es'.modify j fun e=>{e with val:=v'},by simp[hlt],by simp[h2],?_⟩
     intro q e e' he he'
     rw[List.getElem?_modify]at he
     rw[Array.getElem?_modify]at he'
     by_cases hjq:j=q
     ·subst hjq
      simp only[if_true,Option.map_eq_map,Option.map_eq_some_iff]at he he'
      obtain⟨e1,he1,rfl⟩:=he
      obtain⟨e1',he1',rfl⟩:=he'
      obtain⟨h4,h5,h6,_⟩:=h3 j e1 e1' he1 he1'
      exact⟨h4,h5,h6,hv⟩
     ·rw[if_neg hjq]at he'
      simp only[if_neg hjq,Option.map_eq_map,Option.map_id']at he
      exact h3 q e e' (by simpa using he) (by simpa using he')
   ·cases h
  ·cases h
 ·cases h
end
end Go.D
namespace Go.D
open Go
def LK(m m':M):Prop:=∀b r,m.get b=.loop r->∃r',m'.get b=.loop r'
section
variable {m m' m2:M} {E:Env}
theorem LK.refl:LK m m:=fun _ r h=>⟨r,h⟩
theorem LK.trans(h:LK m m')(h':LK m' m2):LK m m2:=fun b r hb=>by
 obtain⟨r',h1⟩:=h b r hb
 exact h' b r' h1
theorem LK.push{o:Ob}:LK m (m.push o):=fun b r h=>⟨r,by
 have:b < m.n:=M.kb (by rw[h];simp)
 rw[M.eI,if_neg (by omega)];exact h⟩
theorem LK.set{b:Nat}{o:Ob}(hb:∀r,m.get b≠.loop r):LK m (m.set b o):=fun c r h=>by
 by_cases hc:c=b
 ·subst hc;exact absurd h (hb r)
 ·refine⟨r,?_⟩
  have:c < m.n:=M.kb (by rw[h];simp)
  show(m.set b o).get c=_
  rw[M.dW]
  have hn:(m.set b o).n=m.n:=rfl
  rw[hn,if_pos this]
  show((m.st.set b o).get c).getD .dead=_
  rw[Tr.bL,if_neg hc]
  rw[M.dW,if_pos this]at h
  exact h
theorem LK.qP{b:Nat}{r0:sZ}:LK m (m.set b (.loop r0)):=fun c r h=>by
 have:c < m.n:=M.kb (by rw[h];simp)
 by_cases hc:c=b
 ·subst hc;exact⟨r0,by rw[M.bL _ _ _ _ this,if_pos rfl]⟩
 ·refine⟨r,?_⟩
  rw[M.dW]
  have hn:(m.set b (.loop r0)).n=m.n:=rfl
  rw[hn,if_pos this]
  show((m.st.set b _).get c).getD .dead=_
  rw[Tr.bL,if_neg hc]
  rw[M.dW,if_pos this]at h
  exact h
theorem LK.low{x:Nat}(h:LK m m'):LK m {m' with low:=x}:=h
theorem LK.Lw{x:Nat}(h:LK {m with low:=x} m'):LK m m':=h
theorem gQ{a:Addr}{vs:List Value}(h:storeCells m a vs=some m'):LK m m':=by
 unfold storeCells at h
 split at h
 ·rename_i c e g hg
  cases hc:(a.spot.isNone && Nat.ble (a.off+vs.length) c.length && vs.all one)with
  |false=>rw[hc]at h;cases h
  |true=>rw[hc]at h;cases h;exact LK.set fun r=>by rw[hg];simp
 ·cases h
theorem wV{t:TypeId}{a:Addr}{v:Value}(h:storeVar E m t a v=some m'):LK m m':=by
 unfold storeVar at h
 split at h
 ·cases hc:Nat.beq (cells v).length _ with
  |false=>rw[hc]at h;cases h
  |true=>rw[hc]at h;exact gQ h
 ·cases h
theorem Js{e k sl sc need:Nat}{base:Option Addr}{news:List Value}{v:Value}(h:iH m e k base sl sc need news=some (v,m')):LK m m':=by
 unfold iH at h
 split at h
 ·cases hc:(Nat.beq sl 0 && Nat.beq sc 0)with
  |false=>rw[hc]at h;cases h
  |true=>rw[hc]at h;cases h;exact LK.push
 ·rename_i a
  split at h
  ·rename_i c te g eO hg _
   cases hc:(g.isNone ||(g==some k && Nat.blt (a.off+sc*k) c.length))with
   |true=>rw[hc]at h;cases h;exact LK.push
   |false=>
    rw[hc]at h
    simp only[cond_false]at h
    cases hc2:(g==some k && Nat.beq a.off 0 && a.spot.isNone && Nat.beq (sl*k) c.length && Nat.beq sc sl && Nat.beq te e)with
    |false=>rw[hc2]at h;cases h
    |true=>
     rw[hc2]at h
     cases h
     exact(LK.set fun r=>by rw[hg];simp).trans LK.push
  ·cases h
theorem Ey{t u:TypeId}{s x v:Value}(h:da E m t u s x=some (v,m')):LK m m':=by
 unfold da at h
 split at h
 ·rename_i ti ui base sl sc n _ _ _
  split at h
  ·cases h
  ·rename_i e _ _
   split at h
   ·rename_i ei news _ _
    cases hc:(Nat.beq ti.es 0 ||Nat.blt 65536 ei.bytes || !news.all one ||Nat.blt 268435456 (sl+n) || !Nat.beq news.length (n*ti.es) || !ff ei.zero ti.es)with
    |true=>rw[hc]at h;cases h
    |false=>
     rw[hc]at h
     simp only[cond_false]at h
     cases hc2:Nat.ble (sl+n) sc with
     |false=>rw[hc2]at h;exact Js h
     |true=>
      rw[hc2]at h
      simp only[cond_true]at h
      split at h
      ·rename_i a
       simp only[Option.map_eq_some_iff,Prod.mk.injEq]at h
       obtain⟨m1,h1,_,rfl⟩:=h
       cases hn:Nat.beq n 0 with
       |true=>rw[hn]at h1;cases h1;exact LK.refl
       |false=>rw[hn]at h1;exact gQ h1
      ·cases hn:Nat.beq n 0 with
       |true=>rw[hn]at h;cases h;exact LK.refl
       |false=>rw[hn]at h;cases h
   ·cases h
  ·cases h
 ·cases h
theorem JK{t:TypeId}{d x v:Value}(h:sO E m t d x=some (v,m')):LK m m':=by
 unfold sO at h
 split at h
 ·rename_i ti base dl _ xl _ _
  split at h
  ·cases hc:Nat.beq ti.es 0 with
   |true=>rw[hc]at h;cases h
   |false=>
    rw[hc]at h
    simp only[cond_false]at h
    split at h
    ·simp only[Option.map_eq_some_iff,Prod.mk.injEq]at h
     obtain⟨m1,h1,_,rfl⟩:=h
     cases hn:Nat.beq (min xl dl) 0 with
     |true=>rw[hn]at h1;cases h1;exact LK.refl
     |false=>rw[hn]at h1;exact gQ h1
    ·cases h;exact LK.refl
  ·cases h
 ·cases h
theorem Ig{t:TypeId}{x v:Value}(h:nL E m t x=some (v,m')):LK m m':=by
 unfold nL at h
 split at h
 ·cases h;exact LK.refl
 ·rename_i ti a n _ _
  cases hn:Nat.beq n 0 with
  |true=>rw[hn]at h;cases h;exact LK.refl
  |false=>
   rw[hn]at h
   simp only[cond_false]at h
   split at h
   ·split at h
    ·simp only[Option.map_eq_some_iff,Prod.mk.injEq]at h
     obtain⟨m1,h1,_,rfl⟩:=h
     exact gQ h1
    ·cases h
   ·cases h
 ·cases h
theorem AV{b:Builtin}{ts:List TypeId}{args:List Value}{v:Value}(h:an E m b ts args=some (v,m')):LK m m':=by
 unfold an at h
 split at h
 ·exact Ey h
 ·exact JK h
 ·exact Ig h
 all_goals try (simp only[Option.map_eq_some_iff,Prod.mk.injEq]at h;obtain⟨_,_,_,rfl⟩:=h;exact LK.refl)
 ·split at h
  ·split at h
   ·rename_i a n c _
    cases hs:lI m a with
    |true=>rw[hs]at h;cases h
    |false=>rw[hs]at h;cases h;exact LK.refl
   ·cases h;exact LK.refl
   ·cases h
  ·cases h
 ·cases h
theorem oK{t:TypeId}{x k v:Value}(h:ew E m t x k v=some m'):LK m m':=by
 unfold ew at h
 split at h
 ·rename_i ti r _
  split at h
  ·rename_i kt et es clock _ hg
   cases hk:keyed E kt k with
   |false=>rw[hk]at h;cases h
   |true=>
    rw[hk]at h
    simp only[cond_true]at h
    split at h
    ·cases h;exact LK.set fun r=>by rw[hg];simp
    ·cases h;exact LK.set fun r=>by rw[hg];simp
    ·cases h
  ·cases h
 ·cases h
theorem yJ{t:TypeId}{x k v:Value}(h:dF E m t x k=some (v,m')):LK m m':=by
 unfold dF at h
 split at h
 ·rename_i ti r _
  split at h
  ·rename_i kt et es clock _ hg
   cases hk:keyed E kt k with
   |false=>rw[hk]at h;cases h
   |true=>
    rw[hk]at h
    simp only[cond_true]at h
    split at h
    ·cases h;exact LK.set fun r=>by rw[hg];simp
    ·simp only[Option.map_eq_some_iff,Prod.mk.injEq]at h
     obtain⟨_,_,_,rfl⟩:=h
     exact LK.set fun r=>by rw[hg];simp
    ·cases h
  ·cases h
 ·cases h
theorem tt{x s v:Value}(h:cD m x s v=some m'):LK m m':=by
 unfold cD at h
 split at h
 ·split at h
  ·rename_i es clock hg
   split at h
   ·cases h;exact LK.set fun r=>by rw[hg];simp
   ·cases h
  ·cases h
 ·cases h
theorem vq{t:TypeId}{l c v:Value}(h:dK E m t l c=some (v,m')):LK m m':=by
 unfold dK at h
 split at h
 ·cases h
 ·split at h
  ·split at h
   ·cases h
   ·split at h
    ·cases h
    ·split at h
     ·cases h;exact LK.push
     ·cases h
  ·cases h
theorem tx{t:TypeId}{n:Nat}{ps:List (Nat×Value)}{v:Value}(h:az E m t n ps=some (v,m')):LK m m':=by
 unfold az at h
 split at h
 ·cases h
 ·rename_i ti _
  split at h
  ·split at h
   ·cases h
   ·rename_i z _
    cases hc:(Nat.beq (cells z).length ti.es && Nat.ble (n*ti.es) 1048576)with
    |false=>rw[hc]at h;cases h
    |true=>
     rw[hc]at h
     simp only[cond_true,Option.map_eq_some_iff,Prod.mk.injEq]at h
     obtain⟨_,_,_,rfl⟩:=h
     exact LK.push
  ·cases h
def iF(call:aF):Prop:=∀f args m v m',call f args m=some (v,m')->LK m m'
theorem Kp{call:aF}(hc:iF call){T:Tr Value}{o:Op}{v:Value}(h:cS o E call T m=some (v,m')):LK m m':=by
 have same:∀{r:Option Value},(match r with |some v=>some (v,m) |none=>none)=some (v,m')->LK m m':=by
  intro r hr
  cases r with
  |none=>cases hr
  |some x=>cases hr;exact LK.refl
 cases o with
 |move x=>cases h;exact LK.refl
 |assign x=>cases h;exact LK.refl
 |pick c a b=>simp only[cS,nz]at h;split at h <;>cases h;exact LK.refl
 |alloc t=>simp only[cS,oE]at h;split at h <;>cases h;exact LK.push
 |box t x=>cases h;exact LK.push
 |build t ps=>exact same h
 |buildSlice t n ps=>exact tx h
 |load t a=>
  simp only[cS,rU]at h
  split at h
  ·exact same h
  ·cases h
 |store t a x=>
  simp only[cS,kI]at h
  split at h
  ·split at h
   ·rename_i hs;cases h;exact wV hs
   ·cases h
  ·cases h
 |nilCheck x=>simp only[cS,fE]at h;split at h <;>cases h <;>exact LK.refl
 |binOp op t x y _=>exact same h
 |unOp op t x=>exact same h
 |convert s d x=>exact same h
 |makeFunc f a b=>simp only[cS,gG]at h;split at h <;>cases h;exact LK.refl
 |makeMap t r=>simp only[cS,mw]at h;split at h <;>cases h;exact LK.push
 |makeSlice t l c=>exact vq h
 |slice t x lo hi mx=>exact same h
 |fieldAddr s x f=>exact same h
 |field t x f=>exact same h
 |indexAddr t x i=>exact same h
 |index t x i=>exact same h
 |lookup t x i ok=>exact same h
 |mapUpdate t x k y=>simp only[cS,eh]at h;split at h <;>cases h;exact oK ‹_›
 |insert t x k y=>simp only[cS,eh]at h;split at h <;>cases h;exact oK ‹_›
 |extract x i=>
  simp only[cS,ja]at h
  split at h
  ·exact same h
  ·cases h
 |call c=>
  simp only[cS,kJ]at h
  split at h
  ·exact AV h
  ·split at h
   ·exact hc _ _ _ _ _ h
   ·cases h
  ·cases h
 |mapEntry t x k=>exact yJ h
 |entryStore t x s y=>simp only[cS,iO]at h;split at h <;>cases h;exact tt ‹_›
 |typeAssert x s t ok=>
  simp only[cS,lN]at h
  split at h
  ·cases ok with
   |false=>cases h
   |true=>
    simp only[cond_true]at h
    split at h <;>cases h
    exact LK.refl
  ·rename_i t' cs _
   cases hc:(ok && (Nat.beq t' t && cs.toList.isEmpty))with
   |false=>rw[hc]at h;cases h
   |true=>
    rw[hc,cond_true]at h
    split at h
    ·split at h <;>cases h
     exact LK.refl
    ·cases h
  ·cases h
 |_=>simp[cS]at h
theorem Ai{call:aF}(hc:iF call){ops:Array Oper}:∀(l:List Oper) (fr fr':Fr),th E call ops l fr=some fr'->LK fr.m fr'.m
 |[],fr,fr',h=>by simp only[xX,Option.some.injEq]at h;subst h;exact LK.refl
 |o::l,fr,fr',h=>by
  rw[kj]at h
  cases hw:bT ops fr.T o with
  |false=>rw[hw]at h;exact Ai hc l {fr with T:=put fr.T o.dst undef} fr' h
  |true=>
   rw[hw]at h
   simp only[cond_true]at h
   cases ho:cS o.op E call fr.T fr.m with
   |none=>rw[ho]at h;cases h
   |some p=>
    rw[ho]at h
    exact(Kp hc ho).trans (Ai hc l _ fr' h)
theorem vW{call:aF}(hc:iF call){ops:Array Oper}:∀(l:List Oper) (j:Nat) (fr fr':Fr),eZ E call ops l j fr=some fr'->LK fr.m fr'.m
 |[],j,fr,fr',h=>by simp only[uv,Option.some.injEq]at h;subst h;exact LK.refl
 |o::l,j,fr,fr',h=>by
  rw[eY]at h
  cases hw:bT ops fr.T o with
  |false=>rw[hw]at h;exact vW hc l (j+1) {fr with T:=put fr.T o.dst undef} fr' h
  |true=>
   rw[hw]at h
   simp only[cond_true]at h
   cases ho:cS o.op E call fr.T {fr.m with low:=fr.m.n}with
   |none=>rw[ho]at h;cases h
   |some p=>
    obtain⟨v,m1⟩:=p
    rw[ho]at h
    simp only at h
    cases hb:(Nat.ble fr.m.n m1.low ||(dM ops j ||rG ops j fr.m fr.T o.op))with
    |false=>rw[hb]at h;cases h
    |true=>
     rw[hb]at h
     simp only[cond_true]at h
     have h1:LK fr.m m1:=LK.Lw (Kp hc ho)
     exact h1.trans (vW hc l (j+1) _ fr' h)
theorem BN{body:Fr->Option (Ex×Fr)}(hb:∀fr e fr',body fr=some (e,fr')->LK fr.m fr'.m):∀(n:Nat) (fr:Fr) (e:Ex) (fr':Fr),ig body n fr=some (e,fr')->LK fr.m fr'.m
 |0,_,_,_,h=>by simp[ig]at h
 |n+1,fr,e,fr',h=>by
  unfold ig at h
  cases hbd:body fr with
  |none=>rw[hbd]at h;cases h
  |some p=>
   obtain⟨e1,fr1⟩:=p
   rw[hbd]at h
   have h1:=hb _ _ _ hbd
   cases e1 with
   |normal=>exact h1.trans (BN hb n fr1 e fr' h)
   |exit id=>cases h;exact h1
   |ret=>cases h;exact h1
theorem eB{call:aF}(hc:iF call){n:Nat}:∀(c:Code) (fr:Fr) (e:Ex) (fr':Fr),aZ E call n c fr=some (e,fr')->LK fr.m fr'.m
 |.skip,fr,e,fr',h=>by cases h;exact LK.refl
 |.label l,fr,e,fr',h=>by cases h;exact LK.refl
 |.exit id,fr,e,fr',h=>by cases h;exact LK.refl
 |.ret,fr,e,fr',h=>by cases h;exact LK.refl
 |.region id ops d,fr,e,fr',h=>by
  unfold aZ at h
  simp only[Option.map_eq_some_iff,Prod.mk.injEq]at h
  obtain⟨fr1,h,rfl,rfl⟩:=h
  cases d with
  |false=>exact Ai hc _ _ _ h
  |true=>exact vW hc _ _ _ _ h
 |.seq a b,fr,e,fr',h=>by
  unfold aZ at h
  cases ha:aZ E call n a fr with
  |none=>rw[ha]at h;cases h
  |some p=>
   obtain⟨e1,fr1⟩:=p
   rw[ha]at h
   have h1:=eB hc a _ _ _ ha
   cases e1 with
   |normal=>exact h1.trans (eB hc b _ _ _ h)
   |exit id=>cases h;exact h1
   |ret=>cases h;exact h1
 |.cond c x y,fr,e,fr',h=>by
  unfold aZ at h
  split at h
  ·rename_i t _
   cases t with
   |true=>exact eB hc x _ _ _ h
   |false=>exact eB hc y _ _ _ h
  ·cases h
 |.block id c,fr,e,fr',h=>by
  unfold aZ at h
  cases ha:aZ E call n c fr with
  |none=>rw[ha]at h;cases h
  |some p=>
   obtain⟨e1,fr1⟩:=p
   rw[ha]at h
   have h1:=eB hc c _ _ _ ha
   cases e1 with
   |normal=>cases h;exact h1
   |exit id'=>
    simp only at h
    cases hb:Nat.beq id' id with
    |true=>rw[hb]at h;cases h;exact h1
    |false=>rw[hb]at h;cases h;exact h1
   |ret=>cases h;exact h1
 |.loop c,fr,e,fr',h=>by
  unfold aZ at h
  exact BN (fun fr e fr' hb=>eB hc c fr e fr' hb) n fr e fr' h
 |.scope c,fr,e,fr',h=>by
  unfold aZ at h
  exact eB hc c _ _ _ h
 |.rangeFunc g ps a b,fr,e,fr',h=>by
  unfold aZ at h
  split at h
  ·rename_i f first captured _
   split at h
   ·rename_i v m1 hcl
    have h1:=LK.push.trans (hc _ _ _ _ _ hcl)
    split at h
    ·split at h
     ·cases h
     ·cases h;exact h1.trans LK.qP
    ·cases h
   ·cases h
  ·cases h
 |.goto l,fr,e,fr',h=>by simp[aZ]at h
 |.refuse y,fr,e,fr',h=>by simp[aZ]at h
theorem sF{call:aF}(hc:iF call){n:Nat}:∀(cs:List Code) (fr:Fr) (e:Ex) (fr':Fr),pT (aZ E call n) cs fr=some (e,fr')->LK fr.m fr'.m
 |[],fr,e,fr',h=>by cases h;exact LK.refl
 |c::cs,fr,e,fr',h=>by
  unfold pT at h
  cases ha:aZ E call n c fr with
  |none=>rw[ha]at h;cases h
  |some p=>
   obtain⟨e1,fr1⟩:=p
   rw[ha]at h
   have h1:=eB hc c _ _ _ ha
   cases e1 with
   |normal=>exact h1.trans (sF hc cs _ _ _ h)
   |exit id=>cases h;exact h1
   |ret=>cases h;exact h1
theorem AA{fn:Func}{fr:Fr}{v:Value}(h0:LK m fr.m)(h:AB E fn m fr=some (v,m')):LK m m':=by
 unfold AB at h
 split at h
 ·cases h
 ·rename_i v1 _
  cases hb:(bD v1 && Nat.ble m.n fr.m.low)with
  |true=>rw[hb]at h;cases h;exact LK.refl
  |false=>rw[hb]at h;cases h;exact h0
theorem MS{call:aF}(hc:iF call){n g:Nat}{args:List Value}(h:AQ E (aZ E call n) g args m=some m'):LK m m':=by
 unfold AQ at h
 split at h
 ·rename_i c _
  cases hb:(Nat.ble args.length c.fn.ntmps && (c.fn.results.toList.isEmpty && jZ c.rest))with
  |false=>rw[hb]at h;cases h
  |true=>
   rw[hb]at h
   simp only[cond_true]at h
   split at h
   ·split at h
    ·cases h
    ·cases h
    ·rename_i hex
     cases h
     exact(eB hc _ _ _ _ hex:LK m _)
   ·cases h
 ·cases h
theorem Ik{call:aF}(hc:iF call){n:Nat}{d:Nl}{args:List Value}{v:Value}(h:sQ E (aZ E call n) d args m=some (v,m')):LK m m':=by
 unfold sQ at h
 cases hb:Nat.ble args.length d.fn.ntmps with
 |false=>rw[hb]at h;cases h
 |true=>
  rw[hb]at h
  simp only[cond_true]at h
  split at h
  ·rename_i hex
   exact AA (sF hc _ _ _ _ hex:LK m _) h
  ·rename_i fr hex
   have h1:LK m fr.m:=(sF hc _ _ _ _ hex:LK m _)
   split at h
   ·split at h
    ·rename_i td g fi ca c _ _ _ _ _ t' _ _
     cases hb2:(Nat.beq _ td && (c.args.toList.isEmpty && fi.toList.isEmpty))with
     |false=>rw[hb2]at h;cases h
     |true=>
      rw[hb2]at h
      simp only[cond_true]at h
      split at h
      ·cases h
      ·cases h
      ·rename_i e fr2 _ hex2
       have h2:=eB hc _ _ _ _ hex2
       have h2:LK m fr2.m:=h1.trans h2
       split at h
       ·rename_i m3 hcl
        exact AA (fr:={fr2 with m:=m3}) (h2.trans (MS hc hcl)) h
       ·cases h
    ·cases h
   ·cases h
  ·cases h
theorem Ga{call:aF}(hc:iF call){n G l:Nat}{args:List Value}{v:Value}(h:pH (aZ E call n) G l args m=some (v,m')):LK m m':=by
 unfold pH at h
 split at h
 ·rename_i r _
  cases hb:(Nat.beq args.length r.ps.size && Nat.beq r.G G)with
  |false=>rw[hb]at h;cases h
  |true=>
   rw[hb]at h
   simp only[cond_true]at h
   split at h
   ·rename_i fr1 hx
    have h1:LK m fr1.m:=(eB hc _ _ _ _ hx:LK m _)
    split at h
    ·split at h
     ·split at h
      ·rename_i fr2 hx2
       have h2:LK m fr2.m:=(h1.trans LK.qP).trans (eB hc _ _ _ _ hx2)
       split at h
       ·split at h
        ·cases h;exact h2.trans LK.qP
        ·cases h;exact h2.trans LK.qP
       ·cases h
      ·cases h
     ·cases h
    ·cases h
   ·cases h
 ·cases h
theorem wk{X:aF}(hX:iF X):∀n,iF (bN E X n)
 |0=>fun f args m v m' h=>by simp[bN]at h
 |n+1=>fun f args m v m' h=>by
  have ih:=wk hX n
  cases f with
  |func f=>
   unfold bN at h
   split at h
   ·rename_i r hr;cases h;exact hX _ _ _ _ _ hr
   ·split at h
    ·split at h
     ·exact Ik ih h
     ·cases h
    ·rename_i fn _
     split at h
     ·cases h
     ·cases hle:Nat.ble args.length fn.ntmps with
      |false=>rw[hle]at h;cases h
      |true=>
       rw[hle]at h
       simp only[cond_true]at h
       split at h
       ·cases h
       ·cases h
       ·rename_i fr _ hex
        exact AA (E:=E) (fn:=fn) (fr:=fr) (eB ih _ _ _ _ hex:LK m _) h
  |yield l=>unfold bN at h;exact Ga ih h
  |_=>simp[bN]at h
end
end Go.D
