/- THE ABSTRACT RUN 'D': a computable run of the model's code over a store of its own, in which every choice that the model draws (the order inside a statement, the capacity of a grown array) is left out. What D returns holds for every draw (proved in the texts behind this one). Definitions only. THE ABSTRACT RUN 'D', its second part: operations, statements, calls. Definitions only. Lemmas on the tries of D. The relation between D's store and the model's memory, and how both evolve. How the store and the memory go on together: a new block, a write, a block that is grown. The tables' facts; loads and stores. -/
import Derived.RangeFuncIn
import Derived.OrdersIn
import Derived.RangeFuncLeaves
import Derived.WalkKit
/- THE ABSTRACT RUN 'D': a computable run of the model's code over a store of its own, in which every choice that the model draws (the order inside a statement, the capacity of a grown array) is left out. What D returns holds for every draw (proved in the texts behind this one). Definitions only. -/
namespace Go.D
open Go

/-- A trie: a table with numbers for keys, by which the kernel looks up in few steps. -/
inductive Tr (α : Type) where
  | e
  | n (v : Option α) (l r : Tr α)
  deriving Inhabited
noncomputable def Tr.get {α : Type} (t : Tr α) : Nat → Option α :=
  Tr.rec (motive := fun _ => Nat → Option α) (fun _ => none)
    (fun v _ _ gl gr i => bif Nat.beq i 0 then v else bif Nat.beq ((i - 1) % 2) 0 then gl ((i - 1) / 2) else gr ((i - 1) / 2)) t
theorem Tr.get_e {α : Type} (i : Nat) : (Tr.e : Tr α).get i = none := rfl
theorem Tr.get_zero {α : Type} (v : Option α) (l r : Tr α) : (Tr.n v l r).get 0 = v := rfl
theorem Tr.get_succ {α : Type} (v : Option α) (l r : Tr α) (i : Nat) : (Tr.n v l r).get (i + 1) = bif Nat.beq (i % 2) 0 then l.get (i / 2) else r.get (i / 2) := rfl
/-- f: more than the key has binary digits. -/
def Tr.single {α : Type} (x : α) : Nat → Nat → Tr α
  | 0, _ => .n (some x) .e .e
  | _ + 1, 0 => .n (some x) .e .e
  | f + 1, i + 1 => bif Nat.beq (i % 2) 0 then .n none (single x f (i / 2)) .e else .n none .e (single x f (i / 2))
noncomputable def Tr.set {α : Type} (t : Tr α) : Nat → α → Tr α :=
  Tr.rec (motive := fun _ => Nat → α → Tr α) (fun i x => Tr.single x i i)
    (fun v l r sl sr i x => bif Nat.beq i 0 then .n (some x) l r else bif Nat.beq ((i - 1) % 2) 0 then .n v (sl ((i - 1) / 2) x) r else .n v l (sr ((i - 1) / 2) x)) t
theorem Tr.set_e {α : Type} (i : Nat) (x : α) : (Tr.e : Tr α).set i x = Tr.single x i i := rfl
theorem Tr.set_zero {α : Type} (v : Option α) (l r : Tr α) (x : α) : (Tr.n v l r).set 0 x = .n (some x) l r := rfl
theorem Tr.set_succ {α : Type} (v : Option α) (l r : Tr α) (i : Nat) (x : α) : (Tr.n v l r).set (i + 1) x = bif Nat.beq (i % 2) 0 then .n v (l.set (i / 2) x) r else .n v l (r.set (i / 2) x) := rfl

/-- A field: its type, the cells before it, its cells; is it blank? -/
structure Fd where
  ty : Nat
  off : Nat
  size : Nat
  blank : Bool
/-- The kinds of cells that '==' compares. -/
inductive Kd where
  | b | i | s
inductive TD where
  | bool
  | int (k : IntKind)
  | str
  | ptr (e : Nat)
  | slice (e : Nat)
  | array (n e : Nat)
  | map (k e : Nat)
  | struct (fs : List Fd)
  | func
  | iface (empty : Bool)
  | other
/-- What D asks of a type: its kind, its cells, its bytes, its element's cells (a slice, an array), its zero value, the kinds of its cells where '==' compares them one by one. -/
structure TI where
  d : TD
  size : Nat
  bytes : Nat
  es : Nat
  zero : Option Value
  cmp : Option (List Kd)
/-- A function that defers one call, of a closure, at one place: its statements before, the place, its statements behind. -/
structure DFn where
  fn : Func
  pre : List Code
  id : Nat
  mf : Oper
  de : Oper
  post : Code
/-- A closure that is deferred and that begins by asking recover. -/
structure ClFn where
  fn : Func
  id : Nat
  ops : Array Oper
  rest : Code
def spineC : List Code → Code → Code
  | [], c => c
  | a :: as, c => .seq a (spineC as c)
/-- The tables of a program. -/
structure Env where
  ty : Tr TI
  fn : Tr Func
  G : Nat
  df : Tr DFn
  cl : Tr ClFn

def TD.agg : TD → Bool
  | .struct _ | .array _ _ => true
  | _ => false
/-- How the table follows from the program. -/
def mkTD (P : Program) : TypeDesc → TD
  | .bool => .bool
  | .int k => .int k
  | .string => .str
  | .pointer e => .ptr e
  | .slice e => .slice e
  | .array n e => .array n e
  | .map k e => .map k e
  | .struct fs => .struct (fs.toList.map fun f => ⟨f.type, f.offset, ((P.info? f.type).map (·.size)).getD 0, f.name == "_" || (P.info? f.type).isNone⟩)
  | .func _ _ _ => .func
  | .interface ms => .iface ms.isEmpty
  | _ => .other
/-- The kinds of the cells of fields that lie one behind the other. -/
def kinds (g : TypeId → Option (List Kd)) : List Field → Nat → Option (List Kd)
  | [], _ => some []
  | f :: fs, off => if f.name = "_" then none else if f.offset = off then
      match g f.type with
      | some ks => match kinds g fs (off + ks.length) with
        | some r => some (ks ++ r)
        | none => none
      | none => none
    else none
def copies (ks : List Kd) : Nat → List Kd
  | 0 => []
  | n + 1 => ks ++ copies ks n
def sized (P : Program) (t : TypeId) (r : Option (List Kd)) : Option (List Kd) :=
  match r, P.info? t with
  | some ks, some i => if ks.length = i.size then some ks else none
  | _, _ => none
/-- The kinds of the cells of a type at which '==' compares cell by cell. -/
def cmpIn (P : Program) : Nat → TypeId → Option (List Kd)
  | 0, _ => none
  | d + 1, t => sized P t (match P.underlying t with
    | some .bool => some [.b]
    | some (.int _) => some [.i]
    | some .string => some [.s]
    | some (.struct fs) => if P.stoodInHeld t then none else kinds (cmpIn P d) fs.toList 0
    | some (.array n e) => match cmpIn P d e with
      | some ks => if n * ks.length ≤ 64 then some (copies ks n) else none
      | none => none
    | _ => none)
def esOf (P : Program) : TypeDesc → Nat
  | .slice e | .array _ e => ((P.info? e).map (·.size)).getD 0
  | _ => 0
def cmpOf (P : Program) (t : TypeId) : TypeDesc → Option (List Kd)
  | .struct _ | .array _ _ => if P.eqGuardType P.depth t then none else cmpIn P 12 t
  | _ => none
def mkTI (P : Program) (t : TypeId) : Option TI := do
  let i ← P.info? t
  let u ← P.underlying t
  some { d := mkTD P u, size := i.size, bytes := i.bytes, es := esOf P u, zero := i.zero, cmp := cmpOf P t u }
/-- How a statement is left. -/
inductive Ex where
  | normal
  | exit (id : Nat)
  | ret
  deriving DecidableEq, Inhabited
/-- The record of a range over a function. -/
structure LoopD where
  T : Tr Value
  ps : Array Tmp
  assign : Code
  body : Code
  st : LoopState
  pend : Option Ex
  G : Nat
  deriving Inhabited

/-- What a block holds. 'cells c e g': g = none: the real row has just these cells; g = some k: a row that append made (elements of k cells): the real row may be longer. -/
inductive Ob where
  | dead
  | cells (c : List Value) (e : TypeId) (g : Option Nat)
  | map (es : List MapEntry) (clock : Nat)
  | loop (r : LoopD)
  | ro (c : List Value)
  deriving Inhabited

/-- The store: blocks 0 .. n - 1; the least number of a block that has been written. -/
structure M where
  st : Tr Ob
  n : Nat
  low : Nat
  deriving Inhabited

noncomputable def M.get (m : M) (b : Nat) : Ob := bif Nat.blt b m.n then (m.st.get b).getD .dead else .dead
noncomputable def M.push (m : M) (o : Ob) : M := { m with st := m.st.set m.n o, n := m.n + 1 }
noncomputable def M.set (m : M) (b : Nat) (o : Ob) : M := { m with st := m.st.set b o, low := min m.low b }

/-- A value of one cell without an address. -/
def flat0 : Value → Bool
  | .bool _ | .int _ _ | .float _ _ | .complex _ _ _ | .string _ | .nilFunc | .nilIface | .pointer none | .map none | .chan none | .slice none 0 0 => true
  | .func (.func _) a b => a.toList.isEmpty && b.toList.isEmpty
  | _ => false
def flat1 : Value → Bool
  | .agg cs => cs.toList.all flat0
  | v => flat0 v
def flat2 : Value → Bool
  | .tuple vs => vs.toList.all flat1
  | v => flat1 v
/-- The entries, with their keys (a * i + b for the trie's own key i). -/
def Tr.toL {α : Type} : Tr α → Nat → Nat → List (Nat × α)
  | .e, _, _ => []
  | .n v l r, a, b => (match v with | some x => [(b, x)] | none => []) ++ (l.toL (2 * a) (a + b) ++ r.toL (2 * a) (2 * a + b))
/-- Is this operand one that D takes? n: how many temporaries; G: how many variables of packages. -/
def okOpnd (n G : Nat) : Operand → Bool
  | .tmp t => Nat.blt t n
  | .const v => flat1 v
  | .global g => Nat.blt g G
  | .func _ => true
def okOper (n G : Nat) (o : Oper) : Bool := o.op.operands.toList.all (okOpnd n G) && (match o.dst with | some d => Nat.blt d n | none => true)
/-- What the order of a region that draws leans on: operations that share a temporary, or of which one guards the other, are ordered. -/
def namesOf (ops : Array Oper) (o : Oper) : List Tmp :=
  o.dst.toList ++ (o.op.operands.toList.filterMap (fun | .tmp t => some t | _ => none) ++ (match o.guard with | some (j, _) => ((ops[j]?).bind (·.dst)).toList | none => []))
def okDraw (ops : Array Oper) : Bool :=
  let b := Region.before ops
  (ops.toList.zipIdx.all fun (o, j) => o.after.toList.all (fun e => !Region.binds .any e || Nat.blt e.on j) &&
    ops.toList.zipIdx.all fun (o', i) => !(Nat.blt i j) || (b.getD j 0).testBit i ||
      ((match o.dst with | some d => !(namesOf ops o').contains d | none => true) && (match o'.dst with | some d => !(namesOf ops o).contains d | none => true)))
/-- No range over a function in it. -/
def noRF : Code → Bool
  | .seq a b => noRF a && noRF b
  | .cond _ x y => noRF x && noRF y
  | .block _ c | .loop c | .scope c => noRF c
  | .rangeFunc .. => false
  | _ => true
def okCode (n G : Nat) : Code → Bool
  | .region _ ops d => ops.toList.all (okOper n G) && (!d || okDraw ops)
  | .seq a b => okCode n G a && okCode n G b
  | .cond c x y => okOpnd n G c && (okCode n G x && okCode n G y)
  | .block _ c | .loop c | .scope c => okCode n G c
  | .rangeFunc f ps a b => okOpnd n G f && (ps.toList.all (Nat.blt · n) && (okCode n G a && okCode n G b))
  | _ => true
def okFn (G : Nat) (fn : Func) : Bool :=
  (match fn.body with | some c => okCode fn.ntmps G c | none => true) && (fn.name != "runtime.NumGoroutine" &&
  fn.results.toList.all fun | .tmp t => Nat.blt t fn.ntmps | .cell a _ => Nat.blt a fn.ntmps)
/-- The closed facts of the tables. -/
noncomputable def Env.chk (E : Env) : Bool :=
  ((E.ty.toL 1 0).all fun p => (match p.2.zero with | some z => flat2 z | none => true) &&
    (match p.2.d with | .struct fs => fs.all (fun f => match E.ty.get f.ty with | some fi => fi.size == f.size | none => false) | _ => true)) &&
  ((E.fn.toL 1 0).all (fun p => okFn E.G p.2) && ((E.df.toL 1 0).all (fun p => okFn E.G p.2.fn) && (E.cl.toL 1 0).all fun p => okFn E.G p.2.fn))
/-- The number of (*strings.Builder).String: a call known beforehand that writes the builder's buffer, and nothing else. -/
def stN : Nat := 65
/-- The tables are the program's. -/
structure Env.OK (E : Env) (P : Program) : Prop where
  st : E.fn.get stN = none ∧ E.df.get stN = none
  ty : ∀ t ti, E.ty.get t = some ti → mkTI P t = some ti
  fn : ∀ f fn, E.fn.get f = some fn → P.funcs[f]? = some fn
  G : E.G = P.globals.size
  df : ∀ f d, E.df.get f = some d → P.funcs[f]? = some d.fn ∧ d.fn.body = some (spineC d.pre (.seq (.region d.id #[d.mf, d.de] false) d.post))
  cl : ∀ f d, E.cl.get f = some d → P.funcs[f]? = some d.fn ∧ d.fn.body = some (.seq (.region d.id d.ops false) d.rest)
  chk : E.chk = true
  mixed : P.follows .mixedOrders = true
/-- A value of one cell. -/
def one : Value → Bool
  | .agg _ | .tuple _ => false
  | _ => true
/-- A value's cells, as a list. -/
def cells : Value → List Value
  | .agg cs => cs.toList
  | v => [v]

noncomputable section
variable (E : Env)
def zero? (t : TypeId) : Option Value := (E.ty.get t).bind (·.zero)

def cellAt (m : M) (a : Addr) : Option Value :=
  match m.get a.block with
  | .cells c _ _ => if a.spot.isNone then c[a.off]? else none
  | .ro c => if a.spot.isNone then (match c[a.off]? with | some v => bif one v then some v else none | none => none) else none
  | _ => none
def loadCells (m : M) (a : Addr) (n : Nat) : Option (List Value) :=
  match m.get a.block with
  | .cells c _ _ => bif a.spot.isNone && Nat.ble (a.off + n) c.length then some ((c.drop a.off).take n) else none
  | .ro c => bif a.spot.isNone && Nat.ble (a.off + n) c.length && ((c.drop a.off).take n).all one then some ((c.drop a.off).take n) else none
  | _ => none
def storeCells (m : M) (a : Addr) (vs : List Value) : Option M :=
  match m.get a.block with
  | .cells c e g =>
    bif a.spot.isNone && Nat.ble (a.off + vs.length) c.length && vs.all one then
      some (m.set a.block (.cells (c.take a.off ++ (vs ++ c.drop (a.off + vs.length))) e g))
    else none
  | _ => none
def loadVar (m : M) (t : TypeId) (a : Addr) : Option Value :=
  match E.ty.get t with
  | some ti => bif ti.d.agg then (loadCells m a ti.size).map (fun cs => .agg cs.toArray) else cellAt m a
  | none => none
def storeVar (m : M) (t : TypeId) (a : Addr) (v : Value) : Option M :=
  match E.ty.get t with
  | some ti => bif Nat.beq (cells v).length ti.size then storeCells m a (cells v) else none
  | none => none
def newVar (m : M) (t : TypeId) (v : Value) : Value × M := (.pointer (some ⟨m.n, 0, none⟩), m.push (.cells (cells v) t none))
def part (t : TypeId) (cs : List Value) (off : Nat) : Option Value :=
  match E.ty.get t with
  | some ti => bif ti.d.agg then (bif Nat.ble (off + ti.size) cs.length then some (.agg ((cs.drop off).take ti.size).toArray) else none) else cs[off]?
  | none => none

/-- '==' of two cells of a kind. -/
def eqK : Kd → Value → Value → Option Bool
  | .b, .bool a, .bool b => some (a == b)
  | .i, .int k a, .int k' b => if k = k' then some (a == b) else none
  | .s, .string a, .string b => some (a == b)
  | _, _, _ => none
def eqCells : List Kd → List Value → List Value → Option Bool
  | [], [], [] => some true
  | k :: ks, a :: x, b :: y =>
    match eqK k a b, eqCells ks x y with
    | some c, some r => some (c && r)
    | _, _ => none
  | _, _, _ => none
/-- '==' at types without addresses, and against nil. -/
def eq? (t : TypeId) (x y : Value) : Option Bool :=
  match E.ty.get t with
  | none => none
  | some ti =>
    match ti.d, x, y with
    | .bool, .bool a, .bool b => some (a == b)
    | .int _, .int k a, .int k' b => if k = k' then some (a == b) else none
    | .str, .string a, .string b => some (a == b)
    | .struct _, .agg xs, .agg ys => match ti.cmp with | some ks => eqCells ks xs.toList ys.toList | none => none
    | .array _ _, .agg xs, .agg ys => match ti.cmp with | some ks => eqCells ks xs.toList ys.toList | none => none
    | .slice _, .slice none _ _, .slice b _ _ => some b.isNone
    | .slice _, .slice (some _) _ _, .slice none _ _ => some false
    | .map _ _, .map none, .map b => some b.isNone
    | .map _ _, .map (some _), .map none => some false
    | .func, .nilFunc, .nilFunc => some true
    | .func, .nilFunc, .func _ _ _ => some false
    | .func, .func _ _ _, .nilFunc => some false
    | .ptr _, .pointer none, .pointer b => some b.isNone
    | .ptr _, .pointer (some _), .pointer none => some false
    | .iface true, .nilIface, .nilIface => some true
    | _, _, _ => none

/-- An operation on two integers of one kind. -/
def binInt (op : BinOp) (k : IntKind) (a b : Int) : Option Value :=
  match op with
  | .add => some (.int k (k.wrap (a + b)))
  | .sub => some (.int k (k.wrap (a - b)))
  | .mul => some (.int k (k.wrap (a * b)))
  | .quo => if b = 0 then none else some (.int k (k.wrap (a.tdiv b)))
  | .rem => if b = 0 then none else some (.int k (a.tmod b))
  | .and => some (.int k (k.wrap (BitVec.ofInt k.bits a &&& BitVec.ofInt k.bits b).toNat))
  | .or => some (.int k (k.wrap (BitVec.ofInt k.bits a ||| BitVec.ofInt k.bits b).toNat))
  | .xor => some (.int k (k.wrap (BitVec.ofInt k.bits a ^^^ BitVec.ofInt k.bits b).toNat))
  | .andNot => some (.int k (k.wrap (BitVec.ofInt k.bits a &&& ~~~(BitVec.ofInt k.bits b)).toNat))
  | .eql => some (.bool (a == b))
  | .neq => some (.bool (a != b))
  | .lss => some (.bool (a < b))
  | .leq => some (.bool (a ≤ b))
  | .gtr => some (.bool (a > b))
  | .geq => some (.bool (a ≥ b))
  | _ => none
def binStr (op : BinOp) (a b : ByteArray) : Option Value :=
  match op with
  | .add => if ((a.size + b.size : Nat) : Int) > IntKind.i64.max then none else some (.string (a ++ b))
  | .eql => some (.bool (a.toList == b.toList))
  | .neq => some (.bool !(a.toList == b.toList))
  | .lss => some (.bool (Op.bytesLess a.toList b.toList))
  | _ => none
def bin? (op : BinOp) (t : TypeId) (x y : Value) : Option Value :=
  match op, x, y with
  | .shl, .int k a, .int _ b => if b < 0 then none else some (.int k (k.wrap (a * 2 ^ (min b.toNat k.bits))))
  | .shr, .int k a, .int _ b => if b < 0 then none else some (.int k (a.fdiv (2 ^ (min b.toNat k.bits))))
  | op, .int k a, .int k' b => if k = k' then binInt op k a b else none
  | op, .string a, .string b => binStr op a b
  | .eql, x, y => (eq? E t x y).map .bool
  | .neq, x, y => (eq? E t x y).map (fun b => .bool !b)
  | _, _, _ => none
def un? (op : UnOp) (x : Value) : Option Value :=
  match op, x with
  | .neg, .int k n => some (.int k (k.wrap (0 - n)))
  | .not, .bool b => some (.bool !b)
  | _, _ => none
def conv? (src dst : TypeId) (x : Value) : Option Value :=
  match E.ty.get src, E.ty.get dst, x with
  | some _, some ti, .int _ n => match ti.d with | .int k => some (.int k (k.wrap n)) | _ => none
  | some _, some ti, .string s => match ti.d with | .str => some (.string s) | _ => none
  | _, _, _ => none

def fill (place : Nat → Option (Nat × Nat)) (cs : List Value) : List (Nat × Value) → Option (List Value)
  | [] => some cs
  | (i, v) :: rest =>
    match place i with
    | none => none
    | some (off, size) =>
      bif Nat.beq (cells v).length size && Nat.ble (off + size) cs.length then fill place (cs.take off ++ (cells v ++ cs.drop (off + size))) rest else none
def build? (t : TypeId) (parts : List (Nat × Value)) : Option Value :=
  match E.ty.get t with
  | none => none
  | some ti =>
    match ti.zero, ti.d with
    | some z, .struct fs => (fill (fun i => (fs[i]?).map fun f => (f.off, f.size)) (cells z) parts).map fun cs => .agg cs.toArray
    | some z, .array _ _ => bif Nat.beq ti.es 0 then none else (fill (fun i => some (i * ti.es, ti.es)) (cells z) parts).map fun cs => .agg cs.toArray
    | _, _ => none
/-- n elements of zeros. -/
def zeros (z : List Value) : Nat → List Value
  | 0 => []
  | n + 1 => z ++ zeros z n
def buildSlice? (m : M) (t : TypeId) (len : Nat) (parts : List (Nat × Value)) : Option (Value × M) :=
  match E.ty.get t with
  | none => none
  | some ti =>
    match ti.d with
    | .slice e =>
      match zero? E e with
      | none => none
      | some z =>
        bif Nat.beq (cells z).length ti.es && Nat.ble (len * ti.es) 1048576 then
          (fill (fun i => some (i * ti.es, ti.es)) (zeros (cells z) len) parts).map fun cs => (.slice (some ⟨m.n, 0, none⟩) len len, m.push (.cells cs e none))
        else none
    | _ => none
def makeSlice? (m : M) (t : TypeId) (l c : Value) : Option (Value × M) :=
  match E.ty.get t with
  | none => none
  | some ti =>
    match ti.d, l, c with
    | .slice e, .int _ l, .int _ c =>
      match E.ty.get e with
      | none => none
      | some ei =>
        match ei.zero with
        | none => none
        | some z =>
          if 0 ≤ l ∧ l ≤ c ∧ c ≤ 1048576 ∧ ei.bytes ≤ 65536 ∧ (cells z).length = ei.size then
            some (.slice (some ⟨m.n, 0, none⟩) l.toNat c.toNat, m.push (.cells (zeros (cells z) c.toNat) e none))
          else none
    | _, _, _ => none
def fieldAddr? (s : TypeId) (x : Value) (i : Nat) : Option Value :=
  match E.ty.get s, x with
  | some ti, .pointer (some a) =>
    match ti.d with
    | .struct fs => match fs[i]? with
      | some f => bif Nat.beq f.size 0 then none else some (.pointer (some (a.add f.off)))
      | none => none
    | _ => none
  | _, _ => none
def field? (t : TypeId) (x : Value) (i : Nat) : Option Value :=
  match E.ty.get t, x with
  | some ti, .agg cs =>
    match ti.d with
    | .struct fs => match fs[i]? with
      | some f => part E f.ty cs.toList f.off
      | none => none
    | _ => none
  | _, _ => none
def indexAddr? (t : TypeId) (x ix : Value) : Option Value :=
  match E.ty.get t with
  | none => none
  | some ti =>
    match ti.d, x, ix with
    | .slice _, .slice (some a) n _, .int _ i => if 0 ≤ i ∧ i < n ∧ 0 < ti.es then some (.pointer (some (a.add (i.toNat * ti.es)))) else none
    | .array n _, .pointer (some a), .int _ i => if 0 ≤ i ∧ i < n ∧ 0 < ti.es then some (.pointer (some (a.add (i.toNat * ti.es)))) else none
    | _, _, _ => none
def index? (t : TypeId) (x ix : Value) : Option Value :=
  match E.ty.get t with
  | none => none
  | some ti =>
    match ti.d, x, ix with
    | .array n e, .agg cs, .int _ i => if 0 ≤ i ∧ i < n then part E e cs.toList (i.toNat * ti.es) else none
    | .str, .string s, .int _ i => if 0 ≤ i then (s[i.toNat]?).map (fun b => .int .u8 b.toNat) else none
    | _, _, _ => none
def bound? (x : Value) (y : Nat) : Option Nat :=
  match x with
  | .int _ i => if 0 ≤ i ∧ i ≤ y then some i.toNat else none
  | _ => none
def bounds? (len cap : Nat) (lo hi mx : Option Value) : Option (Nat × Nat × Nat) :=
  match (match mx with | some v => bound? v cap | none => some cap) with
  | none => none
  | some m =>
    match (match hi, mx with | some v, _ => bound? v m | none, none => some len | none, some _ => none) with
    | none => none
    | some h =>
      match (match lo with | some v => bound? v h | none => some 0) with
      | none => none
      | some l => some (l, h, m)
/-- May this row have more room than its slices say? -/
def slack (m : M) (a : Addr) : Bool := match m.get a.block with | .cells _ _ none => false | _ => true
def slice? (m : M) (t : TypeId) (x : Value) (lo hi mx : Option Value) : Option Value :=
  match E.ty.get t with
  | none => none
  | some ti =>
    match ti.d, x with
    | .str, .string s =>
      match mx, bounds? s.size s.size lo hi none with
      | none, some (l, h, _) => some (.string (s.extract l h))
      | _, _ => none
    | .slice _, .slice none 0 0 =>
      match bounds? 0 0 lo hi mx with
      | some _ => bif Nat.beq ti.es 0 then none else some (.slice none 0 0)
      | none => none
    | .slice _, .slice (some a) n c =>
      match bounds? n c lo hi mx, m.get a.block with
      | some (l, h, k), .cells cs _ g =>
        bif Nat.beq ti.es 0 || !(Nat.ble n c) then none
        else match g with
          | none => some (.slice (some (bif Nat.beq k l then a else a.add (l * ti.es))) (h - l) (k - l))
          | some k0 =>
            bif Nat.beq k0 ti.es then
              some (.slice (some (bif Nat.beq k l && !(mx.isNone && Nat.beq (a.off + c * ti.es) cs.length) then a else a.add (l * ti.es))) (h - l) (k - l))
            else none
      | _, _ => none
    | .array n _, .pointer (some a) =>
      match bounds? n n lo hi mx with
      | some (l, h, k) => bif slack m a || Nat.beq ti.es 0 then none else some (.slice (some (bif Nat.beq k l then a else a.add (l * ti.es))) (h - l) (k - l))
      | none => none
    | _, _ => none
def len? (m : M) (t : TypeId) (x : Value) : Option Value :=
  match E.ty.get t with
  | none => none
  | some ti =>
    match ti.d, x with
    | .str, .string s => some (.int .i64 s.size)
    | .array n _, _ => some (.int .i64 n)
    | .slice _, .slice _ n _ => some (.int .i64 n)
    | .map _ _, .map none => some (.int .i64 0)
    | .map _ _, .map (some r) => match m.get r with | .map es _ => some (.int .i64 es.length) | _ => none
    | _, _ => none
def fold2 (f : Int → Int → Int) (k : IntKind) (x : Int) : List Value → Option Value
  | [] => some (.int k x)
  | .int _ y :: rest => fold2 f k (f x y) rest
  | _ => none
def foldInts (f : Int → Int → Int) : List Value → Option Value
  | .int k x :: rest => fold2 f k x rest
  | _ => none
/-- The cells of the first n elements of a slice or a string. -/
def first? (m : M) (s n : Nat) (x : Value) : Option (List Value) :=
  match x with
  | .slice (some a) _ _ => bif Nat.beq n 0 then some [] else loadCells m a (n * s)
  | .slice none _ _ => some []
  | .string b => some ((b.extract 0 n).data.toList.map fun b => .int .u8 b.toNat)
  | _ => none
def length? : Value → Option Nat
  | .slice _ n _ => some n
  | .string s => some s.size
  | _ => none
/-- append where it grows: 'old': what the slice holds. -/
def grow? (m : M) (e k : Nat) (base : Option Addr) (sl sc need : Nat) (news : List Value) : Option (Value × M) :=
  match base with
  | none => bif Nat.beq sl 0 && Nat.beq sc 0 then some (.slice (some ⟨m.n, 0, none⟩) need need, m.push (.cells news e (some k))) else none
  | some a =>
    match m.get a.block, (bif Nat.beq sl 0 then some [] else loadCells m a (sl * k)) with
    | .cells c te g, some old =>
      bif g.isNone || (g == some k && Nat.blt (a.off + sc * k) c.length) then
        some (.slice (some ⟨m.n, 0, none⟩) need need, m.push (.cells (old ++ news) e (some k)))
      else bif g == some k && Nat.beq a.off 0 && a.spot.isNone && Nat.beq (sl * k) c.length && Nat.beq sc sl && Nat.beq te e then
        some (.slice (some ⟨m.n, 0, none⟩) need need, (m.set a.block .dead).push (.cells (old ++ news) e (some k)))
      else none
    | _, _ => none
def zeroLen (o : Option Value) (n : Nat) : Bool := match o with | some z => Nat.beq (cells z).length n | none => false
def append? (m : M) (t u : TypeId) (s x : Value) : Option (Value × M) :=
  match E.ty.get t, E.ty.get u, s, length? x with
  | some ti, some ui, .slice base sl sc, some n =>
    match ti.d, ui.d with
    | _, .int _ => none
    | .slice e, _ =>
      match E.ty.get e, first? m ti.es n x with
      | some ei, some news =>
        bif Nat.beq ti.es 0 || Nat.blt 65536 ei.bytes || !news.all one || Nat.blt 268435456 (sl + n) || !Nat.beq news.length (n * ti.es) || !zeroLen ei.zero ti.es then none
        else bif Nat.ble (sl + n) sc then
          match base with
          | some a => (bif Nat.beq n 0 then some m else storeCells m (a.add (sl * ti.es)) news).map fun m => (.slice (some a) (sl + n) sc, m)
          | none => bif Nat.beq n 0 then some (.slice none sl sc, m) else none
        else grow? m e ti.es base sl sc (sl + n) news
      | _, _ => none
    | _, _ => none
  | _, _, _, _ => none
def copy? (m : M) (t : TypeId) (d x : Value) : Option (Value × M) :=
  match E.ty.get t, d, length? x with
  | some ti, .slice base dl _, some xl =>
    match ti.d, first? m ti.es (min xl dl) x with
    | .slice _, some cs =>
      bif Nat.beq ti.es 0 then none else
      match base with
      | some a => (bif Nat.beq (min xl dl) 0 then some m else storeCells m a cs).map fun m => (.int .i64 (min xl dl : Nat), m)
      | none => some (.int .i64 (min xl dl : Nat), m)
    | _, _ => none
  | _, _, _ => none
def clear? (m : M) (t : TypeId) (x : Value) : Option (Value × M) :=
  match E.ty.get t, x with
  | some _, .slice none _ _ => some (.tuple #[], m)
  | some ti, .slice (some a) n _ =>
    bif Nat.beq n 0 then some (.tuple #[], m) else
    match ti.d with
    | .slice e => match zero? E e with
      | some z => (storeCells m a (zeros (cells z) n)).map fun m => (.tuple #[], m)
      | none => none
    | _ => none
  | _, _ => none
/-- A type of one cell that '==' compares. -/
def scalar (t : TypeId) : Bool := match E.ty.get t with | some fi => (match fi.d with | .bool | .int _ | .str => true | _ => false) | none => false
/-- A map's key that can be looked up by its cells. -/
def keyed (kt : TypeId) (k : Value) : Bool :=
  match E.ty.get kt with
  | some ti => match ti.d, k with
    | .bool, .bool _ | .int _, .int _ _ | .str, .string _ => true
    | .struct fs, .agg cs => ti.cmp.isSome && cs.toList.all flat0 && fs.all (fun f => !f.blank && Nat.blt f.off cs.toList.length && scalar E f.ty)
    | _, _ => false
  | none => false
def findKey (kt : TypeId) (k : Value) : List MapEntry → Nat → Option (Option (Nat × Value))
  | [], _ => some none
  | e :: es, i =>
    match eq? E kt k e.key with
    | some true => some (some (i, e.val))
    | some false => findKey kt k es (i + 1)
    | none => none
def lookup? (m : M) (t : TypeId) (x k : Value) (ok : Bool) : Option Value :=
  match E.ty.get t with
  | none => none
  | some ti =>
    match ti.d with
    | .map kt et =>
      match (match x with | .map none => some [] | .map (some r) => (match m.get r with | .map es _ => some es | _ => none) | _ => none) with
      | none => none
      | some es =>
        bif keyed E kt k then
          match findKey E kt k es 0 with
          | some (some (_, v)) => some (bif ok then .tuple #[v, .bool true] else v)
          | some none => (zero? E et).map fun z => bif ok then .tuple #[z, .bool false] else z
          | none => none
        else none
    | _ => none
def mapUpdate? (m : M) (t : TypeId) (x k v : Value) : Option M :=
  match E.ty.get t, x with
  | some ti, .map (some r) =>
    match ti.d, m.get r with
    | .map kt _, .map es clock =>
      bif keyed E kt k then
        match findKey E kt k es 0 with
        | some (some (i, _)) => some (m.set r (.map (es.modify i fun e => { e with key := k, val := v }) clock))
        | some none => some (m.set r (.map (es ++ [{ key := k, val := v, born := clock }]) (clock + 1)))
        | none => none
      else none
    | _, _ => none
  | _, _ => none
/-- m[k] op= ..: the entry's value, and its stamp. -/
def mapEntry? (m : M) (t : TypeId) (x k : Value) : Option (Value × M) :=
  match E.ty.get t, x with
  | some ti, .map (some r) =>
    match ti.d, m.get r with
    | .map kt et, .map es clock =>
      bif keyed E kt k then
        match findKey E kt k es 0 with
        | some (some (i, v)) => some (.tuple #[v, .int .i64 (((es[i]?).map (·.born)).getD 0)], m.set r (.map (es.modify i fun e => { e with key := k }) clock))
        | some none => (zero? E et).map fun z => (.tuple #[z, .int .i64 clock], m.set r (.map (es ++ [{ key := k, val := z, born := clock }]) (clock + 1)))
        | none => none
      else none
    | _, _ => none
  | _, _ => none
/-- Where the entry with a stamp stands. -/
def stampIx (b : Int) : List MapEntry → Nat → Option Nat
  | [], _ => none
  | e :: es, i => bif decide ((e.born : Int) = b) then some i else stampIx b es (i + 1)
def entryStore? (m : M) (x s v : Value) : Option M :=
  match x, s with
  | .map (some r), .int _ b =>
    match m.get r with
    | .map es clock => match stampIx b es 0 with
      | some i => some (m.set r (.map (es.modify i fun e => { e with val := v }) clock))
      | none => none
    | _ => none
  | _, _ => none
/-- The bytes of cells. -/
def bytesOf : List Value → Option (List Int)
  | [] => some []
  | .int .u8 n :: r => match bytesOf r with | some ns => some (n :: ns) | none => none
  | _ => none
/-- A slice of bytes as a string. -/
def convB? (m : M) (src dst : TypeId) (x : Value) : Option Value :=
  match E.ty.get src, E.ty.get dst with
  | some ti, some tj =>
    match ti.d, tj.d, x with
    | .slice e, .str, .slice b n _ =>
      match E.ty.get e with
      | some te => match te.d, b with
        | .int .u8, none => some (.string .empty)
        | .int .u8, some a => bif Nat.beq n 0 then none else match loadCells m a n with
          | some cs => match bytesOf cs with
            | some ns => some (.string (ns.foldl (fun r n => r.push (UInt8.ofNat n.toNat)) ByteArray.empty))
            | none => none
          | none => none
        | _, _ => none
      | none => none
    | _, _, _ => none
  | _, _ => none
/-- A conversion. -/
def cv? (m : M) (s d : TypeId) (x : Value) : Option Value := match conv? E s d x with | some v => some v | none => convB? E m s d x
end
end Go.D

/- THE ABSTRACT RUN 'D', its second part: operations, statements, calls. Definitions only. -/
namespace Go.D
open Go

/-- The temporaries and the store. -/
structure Fr where
  T : Tr Value
  m : M
  deriving Inhabited

noncomputable def at? (T : Tr Value) (t : Nat) : Value := (T.get t).getD undef
noncomputable def ev (T : Tr Value) : Operand → Value
  | .tmp t => at? T t
  | .const v => v
  | .global g => .pointer (some ⟨g, 0, none⟩)
  | .func f => .func (.func f) #[] #[]

/-- What a call returns: its value, and the store. -/
abbrev CallFn := Fn → List Value → M → Option (Value × M)

noncomputable section
variable (E : Env)

/-- The builtins. -/
def builtin? (m : M) (b : Builtin) (ts : List TypeId) (args : List Value) : Option (Value × M) :=
  match b, ts, args with
  | .append, [t, u], [s, x] => append? E m t u s x
  | .copy, t :: _, [d, x] => copy? E m t d x
  | .clear, [t], [x] => clear? E m t x
  | .len, [t], [x] => (len? E m t x).map (·, m)
  | .min, _, xs => (foldInts (fun x y => if y < x then y else x) xs).map (·, m)
  | .max, _, xs => (foldInts (fun x y => if y > x then y else x) xs).map (·, m)
  | .cap, [t], [x] => match E.ty.get t with
    | some ti => match ti.d, x with
      | .slice _, .slice (some a) _ c => bif slack m a then none else some (.int .i64 c, m)
      | .slice _, .slice none _ c => some (.int .i64 c, m)
      | _, _ => none
    | none => none
  | _, _, _ => none

end
/- One operation; nothing: it panics, or is none of D's. (A function for each kind, so that the kernel unfolds little.) -/
abbrev OpFn := Env → CallFn → Tr Value → M → Option (Value × M)
noncomputable def opMove (x : Operand) : OpFn := fun _ _ T m => some (ev T x, m)
noncomputable def opPick (c a b : Operand) : OpFn := fun _ _ T m => match ev T c with | .bool t => some (bif t then ev T a else ev T b, m) | _ => none
noncomputable def opAlloc (t : TypeId) : OpFn := fun E _ _ m => match zero? E t with | some z => some (newVar m t z) | none => none
noncomputable def opBox (t : TypeId) (x : Operand) : OpFn := fun _ _ T m => some (newVar m t (ev T x))
noncomputable def opBuild (t : TypeId) (ps : Array (Nat × Operand)) : OpFn := fun E _ T m => match build? E t (ps.toList.map fun p => (p.1, ev T p.2)) with | some v => some (v, m) | none => none
noncomputable def opBuildSlice (t : TypeId) (n : Nat) (ps : Array (Nat × Operand)) : OpFn := fun E _ T m => buildSlice? E m t n (ps.toList.map fun p => (p.1, ev T p.2))
noncomputable def opLoad (t : TypeId) (a : Operand) : OpFn := fun E _ T m => match ev T a with
  | .pointer (some a) => (match loadVar E m t a with | some v => some (v, m) | none => none)
  | _ => none
noncomputable def opStore (t : TypeId) (a x : Operand) : OpFn := fun E _ T m => match ev T a with
  | .pointer (some a) => (match storeVar E m t a (ev T x) with | some m => some (undef, m) | none => none)
  | _ => none
noncomputable def opNilCheck (x : Operand) : OpFn := fun _ _ T m => match ev T x with | .pointer (some a) => some (.pointer (some a), m) | .func (.func f) a b => some (.func (.func f) a b, m) | _ => none
noncomputable def opBin (op : BinOp) (t : TypeId) (x y : Operand) : OpFn := fun E _ T m => match bin? E op t (ev T x) (ev T y) with | some v => some (v, m) | none => none
noncomputable def opUn (op : UnOp) (x : Operand) : OpFn := fun _ _ T m => match un? op (ev T x) with | some v => some (v, m) | none => none
noncomputable def opConv (s d : TypeId) (x : Operand) : OpFn := fun E _ T m => match cv? E m s d (ev T x) with | some v => some (v, m) | none => none
noncomputable def opMakeFunc (f : Fn) (a b : Array Operand) : OpFn := fun _ _ T m => match f with
  | .func _ => some (.func f (a.toList.map (ev T)).toArray (b.toList.map (ev T)).toArray, m)
  | _ => none
noncomputable def opMakeMap (r : Option Operand) : OpFn := fun _ _ _ m => match r with | none => some (.map (some m.n), m.push (.map [] 0)) | some _ => none
noncomputable def opMakeSlice (t : TypeId) (l c : Operand) : OpFn := fun E _ T m => makeSlice? E m t (ev T l) (ev T c)
noncomputable def opSlice (t : TypeId) (x : Operand) (lo hi mx : Option Operand) : OpFn := fun E _ T m => match slice? E m t (ev T x) (lo.map (ev T)) (hi.map (ev T)) (mx.map (ev T)) with | some v => some (v, m) | none => none
noncomputable def opFieldAddr (s : TypeId) (x : Operand) (f : Nat) : OpFn := fun E _ T m => match fieldAddr? E s (ev T x) f with | some v => some (v, m) | none => none
noncomputable def opField (t : TypeId) (x : Operand) (f : Nat) : OpFn := fun E _ T m => match field? E t (ev T x) f with | some v => some (v, m) | none => none
noncomputable def opIndexAddr (t : TypeId) (x i : Operand) : OpFn := fun E _ T m => match indexAddr? E t (ev T x) (ev T i) with | some v => some (v, m) | none => none
noncomputable def opIndex (t : TypeId) (x i : Operand) : OpFn := fun E _ T m => match index? E t (ev T x) (ev T i) with | some v => some (v, m) | none => none
noncomputable def opLookup (t : TypeId) (x i : Operand) (ok : Bool) : OpFn := fun E _ T m => match lookup? E m t (ev T x) (ev T i) ok with | some v => some (v, m) | none => none
noncomputable def opMapUpdate (t : TypeId) (x k y : Operand) : OpFn := fun E _ T m => match mapUpdate? E m t (ev T x) (ev T k) (ev T y) with | some m => some (undef, m) | none => none
noncomputable def opMapEntry (t : TypeId) (x k : Operand) : OpFn := fun E _ T m => mapEntry? E m t (ev T x) (ev T k)
noncomputable def opEntryStore (x s y : Operand) : OpFn := fun _ _ T m => match entryStore? m (ev T x) (ev T s) (ev T y) with | some m => some (undef, m) | none => none
noncomputable def opAssert (x : Operand) (t : TypeId) (ok : Bool) : OpFn := fun E _ T m => match ev T x with
  | .nilIface => bif ok then (match zero? E t with | some z => some (.tuple #[z, .bool false], m) | none => none) else none
  | _ => none
noncomputable def opExtract (x : Operand) (i : Nat) : OpFn := fun _ _ T m => match ev T x with | .tuple vs => (match vs.toList[i]? with | some v => some (v, m) | none => none) | _ => none
noncomputable def opCall (c : Call) : OpFn := fun E call T m =>
  match c.callee with
  | .builtin b => builtin? E m b c.argTypes.toList (c.args.toList.map (ev T))
  | .value f => match ev T f with
    | .func g first captured => call g (first.toList ++ (c.args.toList.map (ev T) ++ captured.toList)) m
    | _ => none
  | _ => none
noncomputable def op? : Op → OpFn
  | .move x => opMove x
  | .assign x => opMove x
  | .pick c a b => opPick c a b
  | .alloc t => opAlloc t
  | .box t x => opBox t x
  | .build t ps => opBuild t ps
  | .buildSlice t n ps => opBuildSlice t n ps
  | .load t a => opLoad t a
  | .store t a x => opStore t a x
  | .nilCheck x => opNilCheck x
  | .binOp op t x y _ => opBin op t x y
  | .unOp op _ x => opUn op x
  | .convert s d x => opConv s d x
  | .makeFunc f a b => opMakeFunc f a b
  | .makeMap _ r => opMakeMap r
  | .makeSlice t l c => opMakeSlice t l c
  | .slice t x lo hi mx => opSlice t x lo hi mx
  | .fieldAddr s x f => opFieldAddr s x f
  | .field t x f => opField t x f
  | .indexAddr t x i => opIndexAddr t x i
  | .index t x i => opIndex t x i
  | .lookup t x i ok => opLookup t x i ok
  | .mapUpdate t x k y => opMapUpdate t x k y
  | .insert t x k y => opMapUpdate t x k y
  | .extract x i => opExtract x i
  | .call c => opCall c
  | .mapEntry t x k => opMapEntry t x k
  | .entryStore _ x s y => opEntryStore x s y
  | .typeAssert x _ t ok => opAssert x t ok
  | _ => fun _ _ _ _ => none
noncomputable section
variable (E : Env)

/-- An operation that only looks at temporaries. -/
def pureOp : Op → Bool
  | .move _ | .assign _ | .pick .. | .build .. | .nilCheck _ | .binOp .. | .unOp .. | .makeFunc .. | .fieldAddr .. | .field .. | .indexAddr .. | .index .. | .extract .. => true
  | _ => false

def wanted? (ops : Array Oper) (T : Tr Value) (o : Oper) : Bool :=
  match o.guard with
  | none => true
  | some (j, want) => match (ops.toList[j]?).bind (·.dst) with
    | some d => match at? T d with
      | .bool b => b == want
      | _ => false
    | none => false
def put (T : Tr Value) (dst : Option Tmp) (v : Value) : Tr Value :=
  match dst with
  | some d => T.set d v
  | none => T

/-- The operations of a region, in the text's order. -/
def ops? (call : CallFn) (ops : Array Oper) (l : List Oper) : Fr → Option Fr :=
  List.rec (motive := fun _ => Fr → Option Fr) (fun fr => some fr)
    (fun o _ ih fr =>
      bif wanted? ops fr.T o then
        match op? o.op E call fr.T fr.m with
        | some (v, m) => ih { T := put fr.T o.dst v, m := m }
        | none => none
      else ih { fr with T := put fr.T o.dst undef }) l

theorem ops?_nil (call : CallFn) (ops : Array Oper) (fr : Fr) : ops? E call ops [] fr = some fr := rfl
theorem ops?_cons (call : CallFn) (ops : Array Oper) (o : Oper) (rest : List Oper) (fr : Fr) : ops? E call ops (o :: rest) fr =
    bif wanted? ops fr.T o then
      match op? o.op E call fr.T fr.m with
      | some (v, m) => ops? E call ops rest { T := put fr.T o.dst v, m := m }
      | none => none
    else ops? E call ops rest { fr with T := put fr.T o.dst undef } := rfl

/-- Operation j is ordered with each other operation that is not pure. -/
def barrier (ops : Array Oper) (j : Nat) : Bool :=
  let b := Region.before ops
  ops.toList.zipIdx.all fun (o, i) => i == j || pureOp o.op || (b.getD j 0).testBit i || (b.getD i 0).testBit j

/-- The least and the greatest of some numbers; the length of a temporary's value: calls that look at no block (but for a map's length). -/
def minmax : Op → Bool
  | .call c => (match c.callee with | .builtin .min => true | .builtin .max => true | _ => false)
  | _ => false
def lenOf : Op → Option Nat
  | .call c => (match c.callee with | .builtin .len => (match c.args.toList with | [.tmp t] => some t | _ => none) | _ => none)
  | _ => none
/-- A store into block b, as operation j of a region that draws, T: the temporaries then: whatever is not ordered with it came before it in the text and makes a block of its own, or looks into another block. -/
def privOK (ops : Array Oper) (j b : Nat) (T : Tr Value) : Bool :=
  let bf := Region.before ops
  let same := fun i t => ops.toList.zipIdx.all fun (q, k) => !(Nat.ble i k && Nat.blt k j && q.dst == some t)
  ops.toList.zipIdx.all fun (o, i) => i == j || pureOp o.op || (bf.getD j 0).testBit i || (bf.getD i 0).testBit j ||
    (Nat.blt i j && (match o.op with
      | .alloc _ | .box _ _ => true
      | .load _ (.tmp t) => same i t && (match o.guard with
          | none => true
          | some (g, _) => match (ops.toList[g]?).bind (·.dst) with | some d => same i d | none => true) &&
        (!(wanted? ops T o) || match at? T t with | .pointer (some a) => !(a.block == b) | _ => false)
      | _ => minmax o.op || (match lenOf o.op with | some t => same i t && (match at? T t with | .map _ => false | _ => true) | none => false)))
/-- The buffer of a builder. -/
def bufOf (m : M) (a : Addr) : Option Nat := match m.get a.block with | .cells [_, .slice (some r) _ _] _ _ => some r.block | _ => none
/-- Where an operation that is a store, or a builder's String, writes. -/
def storeTo (m : M) (T : Tr Value) : Op → Option Nat
  | .store _ a _ => match ev T a with | .pointer (some a) => some a.block | _ => none
  | .call c => match c.callee, c.args.toList with
    | .value f, [x] => match ev T f, ev T x with
      | .func (.func g) first captured, .pointer (some a) => bif Nat.beq g stN && first.isEmpty && captured.isEmpty then bufOf m a else none
      | _, _ => none
    | _, _ => none
  | _ => none
def priv (ops : Array Oper) (j : Nat) (m : M) (T : Tr Value) (o : Op) : Bool := match storeTo m T o with | some b => privOK ops j b T | none => false
/-- A region that draws: each operation leaves alone what lay before it, or is ordered with all that are not pure, or is a store into a block that no operation looks at that is not ordered with it. -/
def draw? (call : CallFn) (ops : Array Oper) (l : List Oper) : Nat → Fr → Option Fr :=
  List.rec (motive := fun _ => Nat → Fr → Option Fr) (fun _ fr => some fr)
    (fun o _ ih j fr =>
      bif wanted? ops fr.T o then
        match op? o.op E call fr.T { fr.m with low := fr.m.n } with
        | some (v, m) =>
          bif Nat.ble fr.m.n m.low || (barrier ops j || priv ops j fr.m fr.T o.op) then
            ih (j + 1) { T := put fr.T o.dst v, m := { m with low := min fr.m.low m.low } }
          else none
        | none => none
      else ih (j + 1) { fr with T := put fr.T o.dst undef }) l
theorem draw?_nil (call : CallFn) (ops : Array Oper) (j : Nat) (fr : Fr) : draw? E call ops [] j fr = some fr := rfl
theorem draw?_cons (call : CallFn) (ops : Array Oper) (o : Oper) (rest : List Oper) (j : Nat) (fr : Fr) : draw? E call ops (o :: rest) j fr =
    bif wanted? ops fr.T o then
      match op? o.op E call fr.T { fr.m with low := fr.m.n } with
      | some (v, m) =>
        bif Nat.ble fr.m.n m.low || (barrier ops j || priv ops j fr.m fr.T o.op) then
          draw? E call ops rest (j + 1) { T := put fr.T o.dst v, m := { m with low := min fr.m.low m.low } }
        else none
      | none => none
    else draw? E call ops rest (j + 1) { fr with T := put fr.T o.dst undef } := rfl

def loop? (body : Fr → Option (Ex × Fr)) : Nat → Fr → Option (Ex × Fr)
  | 0, _ => none
  | n + 1, fr =>
    match body fr with
    | some (.normal, fr) => loop? body n fr
    | r => r

def exec? (call : CallFn) (n : Nat) : Code → Fr → Option (Ex × Fr)
  | .skip, fr | .label _, fr => some (.normal, fr)
  | .region _ ops d, fr => (bif d then draw? E call ops ops.toList 0 fr else ops? E call ops ops.toList fr).map (Ex.normal, ·)
  | .seq a b, fr =>
    match exec? call n a fr with
    | some (.normal, fr) => exec? call n b fr
    | r => r
  | .cond c x y, fr => match ev fr.T c with
    | .bool t => bif t then exec? call n x fr else exec? call n y fr
    | _ => none
  | .block id c, fr =>
    match exec? call n c fr with
    | some (.exit id', fr) => bif Nat.beq id' id then some (.normal, fr) else some (.exit id', fr)
    | r => r
  | .loop c, fr => loop? (exec? call n c) n fr
  | .scope c, fr => exec? call n c fr
  | .rangeFunc g ps assign body, fr =>
    match ev fr.T g with
    | .func (.func h) first captured =>
      match call (.func h) (first.toList ++ (.func (.yield fr.m.n) #[] #[] :: captured.toList)) (fr.m.push (.loop ⟨fr.T, ps, assign, body, .ready, none, E.G⟩)) with
      | some (_, m) =>
        match m.get fr.m.n with
        | .loop r => match r.st with
          | .busy => none
          | _ => some (r.pend.getD .normal, { fr with m := m.set fr.m.n (.loop { r with st := .exhausted }) })
        | _ => none
      | none => none
    | _ => none
  | .exit id, fr => some (.exit id, fr)
  | .ret, fr => some (.ret, fr)
  | _, _ => none

def resultOne (T : Tr Value) (m : M) : ResultVar → Option Value
  | .tmp t => some (at? T t)
  | .cell a t => match at? T a with | .pointer (some a) => loadVar E m t a | _ => none
def results? (T : Tr Value) (m : M) : List ResultVar → Option (List Value)
  | [] => some []
  | r :: rs => match resultOne E T m r, results? T m rs with
    | some v, some vs => some (v :: vs)
    | _, _ => none
def result? (fn : Func) (T : Tr Value) (m : M) : Option Value :=
  match results? E T m fn.results.toList with
  | some [v] => some v
  | some vs => some (.tuple vs.toArray)
  | none => none

/-- The temporaries as a call begins. -/
def enter : List Value → Nat → Tr Value
  | [], _ => .e
  | v :: vs, i => (enter vs (i + 1)).set i v

noncomputable def setAll (T : Tr Value) : List (Tmp × Value) → Tr Value
  | [] => T
  | (t, v) :: l => setAll (T.set t v) l
/-- A round of a range over a function. -/
noncomputable def round? (exec : Code → Fr → Option (Ex × Fr)) (G l : Nat) (args : List Value) (m : M) : Option (Value × M) :=
  match m.get l with
  | .loop r =>
    bif Nat.beq args.length r.ps.size && Nat.beq r.G G then
      match exec r.assign { T := setAll r.T (r.ps.toList.zip args), m := { m with low := m.n } } with
      | some (.normal, fr) =>
        match fr.m.get l with
        | .loop r1 => match r1.st with
          | .ready =>
            match exec r.body { fr with m := fr.m.set l (.loop { r1 with st := .busy }) } with
            | some (e, fr) =>
              match fr.m.get l with
              | .loop r2 => match e with
                | .normal => some (.bool true, { fr.m.set l (.loop { r2 with st := .ready, pend := none }) with low := min m.low (fr.m.set l (.loop { r2 with st := .ready, pend := none })).low })
                | e => some (.bool false, { fr.m.set l (.loop { r2 with st := .done, pend := some e }) with low := min m.low (fr.m.set l (.loop { r2 with st := .done, pend := some e })).low })
              | _ => none
            | none => none
          | _ => none
        | _ => none
      | _ => none
    else none
  | _ => none
/-- A function that defers, taken apart. -/
def splitD : Code → Option (List Code × (Nat × Oper × Oper) × Code)
  | .seq (.region id ops false) b =>
    match ops.toList with
    | [m, d] => match d.op with
      | .defer _ => some ([], (id, m, d), b)
      | _ => (splitD b).map fun r => (.region id ops false :: r.1, r.2)
    | _ => (splitD b).map fun r => (.region id ops false :: r.1, r.2)
  | .seq a b => (splitD b).map fun r => (a :: r.1, r.2)
  | _ => none
def mkDF (f : Func) : DFn := match f.body.bind splitD with
  | some (pre, (id, m, d), post) => ⟨f, pre, id, m, d, post⟩
  | none => ⟨f, [], 0, default, default, .skip⟩
def mkCl (f : Func) : ClFn := match f.body with
  | some (.seq (.region id ops false) r) => ⟨f, id, ops, r⟩
  | _ => ⟨f, 0, #[], .skip⟩
/-- Statements, one behind the other. -/
def execL? (ex : Code → Fr → Option (Ex × Fr)) : List Code → Fr → Option (Ex × Fr)
  | [], fr => some (.normal, fr)
  | c :: cs, fr => match ex c fr with
    | some (.normal, fr) => execL? ex cs fr
    | r => r
/-- Operations among which recover is asked, where nothing panics. -/
noncomputable def recOps? : List Oper → Tr Value → Option (Tr Value)
  | [], T => some T
  | o :: os, T => match o.guard, o.op with
    | none, .call c => match c.callee with
      | .builtin .recover => bif c.args.toList.isEmpty then recOps? os (put T o.dst .nilIface) else none
      | _ => none
    | none, .assign x => recOps? os (put T o.dst (ev T x))
    | none, .move x => recOps? os (put T o.dst (ev T x))
    | _, _ => none
/-- A deferred closure. -/
def clo? (ex : Code → Fr → Option (Ex × Fr)) (g : Nat) (args : List Value) (m : M) : Option M :=
  match E.cl.get g with
  | some c =>
    bif Nat.ble args.length c.fn.ntmps && (c.fn.results.toList.isEmpty && noRF c.rest) then
      match recOps? c.ops.toList (enter args 0) with
      | some T => match ex c.rest { T := T, m := { m with low := m.n } } with
        | some (.exit _, _) | none => none
        | some (_, fr) => some { fr.m with low := min m.low fr.m.low }
      | none => none
    else none
  | none => none
/-- What a call returns. -/
def fin? (fn : Func) (m : M) (fr : Fr) : Option (Value × M) :=
  match result? E fn fr.T fr.m with
  | none => none
  | some v => bif flat2 v && Nat.ble m.n fr.m.low then some (v, m) else some (v, { fr.m with low := min m.low fr.m.low })
/-- A call of a function that defers. -/
def callD? (ex : Code → Fr → Option (Ex × Fr)) (d : DFn) (args : List Value) (m : M) : Option (Value × M) :=
  bif Nat.ble args.length d.fn.ntmps then
    match execL? ex d.pre { T := enter args 0, m := { m with low := m.n } } with
    | some (.ret, fr) => fin? E d.fn m fr
    | some (.normal, fr) =>
      match d.mf.guard, d.mf.dst, d.mf.op, d.de.guard, d.de.op with
      | none, some td, .makeFunc (.func g) fi ca, none, .defer c =>
        match c.callee with
        | .value (.tmp t) =>
          bif Nat.beq t td && (c.args.toList.isEmpty && fi.toList.isEmpty) then
            match ex d.post { T := put (put fr.T (some td) (.func (.func g) #[] (ca.toList.map (ev fr.T)).toArray)) d.de.dst undef, m := fr.m } with
            | some (.exit _, _) | none => none
            | some (_, fr2) => match clo? E ex g (ca.toList.map (ev fr.T)) fr2.m with
              | some m3 => fin? E d.fn m { fr2 with m := m3 }
              | none => none
          else none
        | _ => none
      | _, _, _, _, _ => none
    | _ => none
  else none
/-- Calls of depth n; X: what is known of calls beforehand. A call whose result bears no address, and that has written nothing that lay before it, leaves the store as it was. -/
def call? (X : CallFn) : Nat → CallFn
  | 0, _, _, _ => none
  | n + 1, .func f, args, m =>
    match X (.func f) args m with
    | some r => some r
    | none =>
    match E.fn.get f with
    | none => match E.df.get f with
      | some d => callD? E (exec? E (call? X n) n) d args m
      | none => none
    | some fn =>
      match fn.body with
      | none => none
      | some body =>
        bif Nat.ble args.length fn.ntmps then
          match exec? E (call? X n) n body { T := enter args 0, m := { m with low := m.n } } with
          | some (.exit _, _) | none => none
          | some (_, fr) =>
            match result? E fn fr.T fr.m with
            | none => none
            | some v => bif flat2 v && Nat.ble m.n fr.m.low then some (v, m) else some (v, { fr.m with low := min m.low fr.m.low })
        else none
  | n + 1, .yield l, args, m => round? (exec? E (call? X n) n) E.G l args m
  | _ + 1, _, _, _ => none
end
end Go.D

/- Lemmas on the tries of D. -/
namespace Go.D
open Go
theorem Tr.get_mem {α : Type} {x : α} : ∀ (t : Tr α) (i a b : Nat), t.get i = some x → (a * i + b, x) ∈ t.toL a b
  | .e, _, _, _, h => by simp [Tr.get_e] at h
  | .n v l r, 0, a, b, h => by
    simp only [Tr.get_zero, Tr.get_succ] at h
    subst h
    unfold Tr.toL
    simp
  | .n v l r, i + 1, a, b, h => by
    simp only [Tr.get_zero, Tr.get_succ] at h
    unfold Tr.toL
    cases h1 : Nat.beq (i % 2) 0 with
    | true =>
      rw [h1] at h
      simp only [cond_true] at h
      have hm : i % 2 = 0 := Nat.eq_of_beq_eq_true h1
      have := Tr.get_mem l (i / 2) (2 * a) (a + b) h
      have e : 2 * a * (i / 2) + (a + b) = a * (i + 1) + b := by
        have h2 : i = 2 * (i / 2) := by omega
        have h3 : 2 * a * (i / 2) = a * i := by
          rw [Nat.mul_comm 2 a, Nat.mul_assoc, ← h2]
        rw [h3, Nat.mul_add]; omega
      rw [e] at this
      exact List.mem_append.2 (.inr (List.mem_append.2 (.inl this)))
    | false =>
      rw [h1] at h
      simp only [cond_false] at h
      have hm : i % 2 ≠ 0 := Nat.ne_of_beq_eq_false h1
      have := Tr.get_mem r (i / 2) (2 * a) (2 * a + b) h
      have e : 2 * a * (i / 2) + (2 * a + b) = a * (i + 1) + b := by
        have h2 : i = 2 * (i / 2) + 1 := by omega
        have h3 : a * (i + 1) = 2 * a * (i / 2) + 2 * a := by
          have : i + 1 = 2 * (i / 2 + 1) := by omega
          rw [this, Nat.mul_left_comm, Nat.mul_add, Nat.mul_add, Nat.mul_assoc]; omega
        omega
      rw [e] at this
      exact List.mem_append.2 (.inr (List.mem_append.2 (.inr this)))
theorem Tr.all_of_list {α : Type} {f : Nat → Option α} (t : Tr α) (h : (t.toL 1 0).map (fun p => f p.1) = (t.toL 1 0).map (fun p => some p.2)) {i : Nat} {x : α} (hi : t.get i = some x) : f i = some x := by
  have hm := Tr.get_mem t i 1 0 hi
  simp only [Nat.one_mul, Nat.add_zero] at hm
  have := List.map_inj_left.1 h _ hm
  simpa using this
theorem Tr.get_single {α : Type} (x : α) : ∀ (f i j : Nat), i ≤ f → (Tr.single x f i).get j = if j = i then some x else none
  | 0, i, j, h => by
    obtain rfl : i = 0 := by omega
    unfold Tr.single
    cases j with
    | zero => rfl
    | succ j => simp only [Tr.get_succ]; cases Nat.beq (j % 2) 0 <;> simp [Tr.get_e]
  | f + 1, 0, j, h => by
    unfold Tr.single
    cases j with
    | zero => rfl
    | succ j => simp only [Tr.get_succ]; cases Nat.beq (j % 2) 0 <;> simp [Tr.get_e]
  | f + 1, i + 1, j, h => by
    unfold Tr.single
    cases h1 : Nat.beq (i % 2) 0 with
    | true =>
      have hm : i % 2 = 0 := Nat.eq_of_beq_eq_true h1
      simp only [cond_true]
      cases j with
      | zero => simp [Tr.get_zero]
      | succ j =>
        simp only [Tr.get_succ]
        cases h2 : Nat.beq (j % 2) 0 with
        | true =>
          have hj : j % 2 = 0 := Nat.eq_of_beq_eq_true h2
          simp only [cond_true]
          rw [Tr.get_single x f (i / 2) (j / 2) (by omega)]
          have : (j / 2 = i / 2) ↔ (j + 1 = i + 1) := by omega
          simp [this]
        | false =>
          have hj : j % 2 ≠ 0 := Nat.ne_of_beq_eq_false h2
          simp only [cond_false, Tr.get_e]
          rw [if_neg (by omega)]
    | false =>
      have hm : i % 2 ≠ 0 := Nat.ne_of_beq_eq_false h1
      simp only [cond_false]
      cases j with
      | zero => simp [Tr.get_zero]
      | succ j =>
        simp only [Tr.get_succ]
        cases h2 : Nat.beq (j % 2) 0 with
        | true =>
          have hj : j % 2 = 0 := Nat.eq_of_beq_eq_true h2
          simp only [cond_true, Tr.get_e]
          rw [if_neg (by omega)]
        | false =>
          have hj : j % 2 ≠ 0 := Nat.ne_of_beq_eq_false h2
          simp only [cond_false]
          rw [Tr.get_single x f (i / 2) (j / 2) (by omega)]
          have : (j / 2 = i / 2) ↔ (j + 1 = i + 1) := by omega
          simp [this]
theorem Tr.get_set {α : Type} (x : α) : ∀ (t : Tr α) (i j : Nat), (t.set i x).get j = if j = i then some x else t.get j
  | .e, i, j => by
    simp only [Tr.set_e, Tr.set_zero, Tr.set_succ]
    rw [Tr.get_single x i i j (Nat.le_refl _)]
    simp [Tr.get_e]
  | .n v l r, 0, j => by
    simp only [Tr.set_e, Tr.set_zero, Tr.set_succ]
    cases j with
    | zero => rfl
    | succ j => simp [Tr.get_succ]
  | .n v l r, i + 1, j => by
    simp only [Tr.set_e, Tr.set_zero, Tr.set_succ]
    cases h1 : Nat.beq (i % 2) 0 with
    | true =>
      have hm : i % 2 = 0 := Nat.eq_of_beq_eq_true h1
      simp only [cond_true]
      cases j with
      | zero => simp [Tr.get_zero]
      | succ j =>
        simp only [Tr.get_succ]
        cases h2 : Nat.beq (j % 2) 0 with
        | true =>
          have hj : j % 2 = 0 := Nat.eq_of_beq_eq_true h2
          simp only [cond_true]
          rw [Tr.get_set x l (i / 2) (j / 2)]
          have : (j / 2 = i / 2) ↔ (j + 1 = i + 1) := by omega
          simp [this]
        | false =>
          have hj : j % 2 ≠ 0 := Nat.ne_of_beq_eq_false h2
          simp only [cond_false]
          rw [if_neg (by omega)]
    | false =>
      have hm : i % 2 ≠ 0 := Nat.ne_of_beq_eq_false h1
      simp only [cond_false]
      cases j with
      | zero => simp [Tr.get_zero]
      | succ j =>
        simp only [Tr.get_succ]
        cases h2 : Nat.beq (j % 2) 0 with
        | true =>
          have hj : j % 2 = 0 := Nat.eq_of_beq_eq_true h2
          simp only [cond_true]
          rw [if_neg (by omega)]
        | false =>
          have hj : j % 2 ≠ 0 := Nat.ne_of_beq_eq_false h2
          simp only [cond_false]
          rw [Tr.get_set x r (i / 2) (j / 2)]
          have : (j / 2 = i / 2) ↔ (j + 1 = i + 1) := by omega
          simp [this]
theorem Tr.of_list {α : Type} {p : Nat → α → Prop} (t : Tr α) {l : List (Nat × α)} (h : t.toL 1 0 = l) (hl : ∀ x ∈ l, p x.1 x.2) {i : Nat} {x : α} (hi : t.get i = some x) : p i x := by
  have hm := Tr.get_mem t i 1 0 hi
  simp only [Nat.one_mul, Nat.add_zero] at hm
  rw [h] at hm
  exact hl _ hm
end Go.D

/- The relation between D's store and the model's memory, and how both evolve. -/
namespace Go.D
open Go

/-- Where a block of the store lies; gr: nothing: the row has just the cells that the store knows; (k, sz, N): a grown row: elements of k cells, sz cells known, N cells there. -/
structure BI where
  blk : Nat
  gr : Option (Nat × Nat × Nat)
abbrev Sg := Nat → Option BI

inductive VRel (σ : Sg) : Value → Value → Prop where
  | flat (v : Value) (h : flat0 v = true) : VRel σ v v
  | ptr (a : Addr) (i : BI) (h : σ a.block = some i) (hs : a.spot = none) : VRel σ (.pointer (some a)) (.pointer (some ⟨i.blk, a.off, none⟩))
  | slice (a : Addr) (i : BI) (n c : Nat) (h : σ a.block = some i) (hs : a.spot = none) (hg : i.gr = none) : VRel σ (.slice (some a) n c) (.slice (some ⟨i.blk, a.off, none⟩) n c)
  | sliceG (a : Addr) (i : BI) (n c c' k sz N : Nat) (h : σ a.block = some i) (hs : a.spot = none) (hg : i.gr = some (k, sz, N)) (hc : c' = c ∨ (c ≤ c' ∧ a.off + c * k = sz ∧ a.off + c' * k = N)) : VRel σ (.slice (some a) n c) (.slice (some ⟨i.blk, a.off, none⟩) n c')
  | empty (a a' : Addr) (i : BI) (c' k sz N : Nat) (h : σ a.block = some i) (hg : i.gr = some (k, sz, N)) (ho : a.off = sz) : VRel σ (.slice (some a) 0 0) (.slice (some a') 0 c')
  | map (r : Nat) (i : BI) (h : σ r = some i) : VRel σ (.map (some r)) (.map (some i.blk))
  | func (f : FuncId) (a b a' b' : Array Value) (ha : a.size = a'.size) (hb : b.size = b'.size) (h1 : ∀ (j : Nat) u u', a[j]? = some u → a'[j]? = some u' → VRel σ u u') (h2 : ∀ (j : Nat) u u', b[j]? = some u → b'[j]? = some u' → VRel σ u u') : VRel σ (.func (.func f) a b) (.func (.func f) a' b')
  | yield (l : Nat) (i : BI) (h : σ l = some i) : VRel σ (.func (.yield l) #[] #[]) (.func (.yield i.blk) #[] #[])
  | agg (a a' : Array Value) (ha : a.size = a'.size) (h1 : ∀ (j : Nat) u u', a[j]? = some u → a'[j]? = some u' → VRel σ u u') : VRel σ (.agg a) (.agg a')
  | tuple (a a' : Array Value) (ha : a.size = a'.size) (h1 : ∀ (j : Nat) u u', a[j]? = some u → a'[j]? = some u' → VRel σ u u') : VRel σ (.tuple a) (.tuple a')

/-- Two lists, value by value. -/
def LRel (σ : Sg) (l l' : List Value) : Prop := l.length = l'.length ∧ ∀ (j : Nat) u u', l[j]? = some u → l'[j]? = some u' → VRel σ u u'

def Sg.le (σ τ : Sg) : Prop := ∀ b i, σ b = some i → τ b = some i

theorem VRel.mono {σ τ : Sg} (hle : σ.le τ) {v v' : Value} (h : VRel σ v v') : VRel τ v v' := by
  induction h with
  | flat v h => exact .flat v h
  | ptr a i h hs => exact .ptr a i (hle _ _ h) hs
  | slice a i n c h hs hg => exact .slice a i n c (hle _ _ h) hs hg
  | sliceG a i n c c' k sz N h hs hg hc => exact .sliceG a i n c c' k sz N (hle _ _ h) hs hg hc
  | empty a a' i c' k sz N h hg ho => exact .empty a a' i c' k sz N (hle _ _ h) hg ho
  | map r i h => exact .map r i (hle _ _ h)
  | func f a b a' b' ha hb _ _ i1 i2 => exact .func f a b a' b' ha hb (fun j u u' h h' => i1 j u u' h h') (fun j u u' h h' => i2 j u u' h h')
  | yield l i h => exact .yield l i (hle _ _ h)
  | agg a a' ha _ i1 => exact .agg a a' ha (fun j u u' h h' => i1 j u u' h h')
  | tuple a a' ha _ i1 => exact .tuple a a' ha (fun j u u' h h' => i1 j u u' h h')

theorem LRel.mono {σ τ : Sg} (hle : σ.le τ) {l l' : List Value} (h : LRel σ l l') : LRel τ l l' := ⟨h.1, fun j u u' a b => (h.2 j u u' a b).mono hle⟩
theorem LRel.nil {σ : Sg} : LRel σ [] [] := ⟨rfl, fun _ _ _ h => by simp at h⟩
theorem LRel.cons {σ : Sg} {v v' : Value} {l l' : List Value} (h : VRel σ v v') (ht : LRel σ l l') : LRel σ (v :: l) (v' :: l') :=
  ⟨by simp [ht.1], fun j u u' a b => by
    cases j with
    | zero => simp at a b; subst a; subst b; exact h
    | succ j => exact ht.2 j u u' (by simpa using a) (by simpa using b)⟩
theorem LRel.head {σ : Sg} {v v' : Value} {l l' : List Value} (h : LRel σ (v :: l) (v' :: l')) : VRel σ v v' := h.2 0 v v' rfl rfl
theorem LRel.tail {σ : Sg} {v v' : Value} {l l' : List Value} (h : LRel σ (v :: l) (v' :: l')) : LRel σ l l' :=
  ⟨by simpa using h.1, fun j u u' a b => h.2 (j + 1) u u' (by simpa using a) (by simpa using b)⟩
theorem LRel.cases {σ : Sg} {v : Value} {l x : List Value} (h : LRel σ (v :: l) x) : ∃ v' l', x = v' :: l' ∧ VRel σ v v' ∧ LRel σ l l' := by
  cases x with
  | nil => exact absurd h.1 (by simp)
  | cons v' l' => exact ⟨v', l', rfl, h.head, h.tail⟩
theorem LRel.nil_eq {σ : Sg} {x : List Value} (h : LRel σ [] x) : x = [] := List.eq_nil_of_length_eq_zero h.1.symm
theorem LRel.append {σ : Sg} {a a' b b' : List Value} (h : LRel σ a a') (k : LRel σ b b') : LRel σ (a ++ b) (a' ++ b') :=
  ⟨by simp [h.1, k.1], fun j u u' x y => by
    by_cases hj : j < a.length
    · rw [List.getElem?_append_left hj] at x
      rw [List.getElem?_append_left (by rw [← h.1]; exact hj)] at y
      exact h.2 j u u' x y
    · rw [List.getElem?_append_right (by omega)] at x
      rw [List.getElem?_append_right (by rw [← h.1]; omega)] at y
      rw [← h.1] at y
      exact k.2 _ u u' x y⟩
theorem LRel.take {σ : Sg} {a a' : List Value} (h : LRel σ a a') (n : Nat) : LRel σ (a.take n) (a'.take n) :=
  ⟨by simp [h.1], fun j u u' x y => by
    simp only [List.getElem?_take] at x y
    by_cases hj : j < n
    · rw [if_pos hj] at x y; exact h.2 j u u' x y
    · rw [if_neg hj] at x; cases x⟩
theorem LRel.drop {σ : Sg} {a a' : List Value} (h : LRel σ a a') (n : Nat) : LRel σ (a.drop n) (a'.drop n) :=
  ⟨by simp [h.1], fun j u u' x y => by
    simp only [List.getElem?_drop] at x y
    exact h.2 _ u u' x y⟩
theorem LRel.get {σ : Sg} {a a' : List Value} (h : LRel σ a a') {j : Nat} {u : Value} (hj : a[j]? = some u) : ∃ u', a'[j]? = some u' ∧ VRel σ u u' := by
  have hlt : j < a'.length := by rw [← h.1]; exact (List.getElem?_eq_some_iff.1 hj).1
  exact ⟨a'[j], List.getElem?_eq_getElem hlt, h.2 j u _ hj (List.getElem?_eq_getElem hlt)⟩
theorem LRel.of_flat {σ : Sg} {l : List Value} (h : l.all flat0 = true) : LRel σ l l :=
  ⟨rfl, fun j u u' a b => by
    rw [a] at b; cases b
    exact .flat u (List.all_eq_true.1 h u (List.mem_of_getElem? a))⟩
theorem LRel.agg {σ : Sg} {l l' : List Value} (h : LRel σ l l') : VRel σ (.agg l.toArray) (.agg l'.toArray) :=
  .agg _ _ (by simpa using h.1) (fun j u u' a b => h.2 j u u' (by simpa using a) (by simpa using b))
theorem LRel.tuple {σ : Sg} {l l' : List Value} (h : LRel σ l l') : VRel σ (.tuple l.toArray) (.tuple l'.toArray) :=
  .tuple _ _ (by simpa using h.1) (fun j u u' a b => h.2 j u u' (by simpa using a) (by simpa using b))
theorem VRel.of_flat1 {σ : Sg} {v : Value} (h : flat1 v = true) : VRel σ v v := by
  cases v with
  | agg cs =>
    have := LRel.agg (σ := σ) (LRel.of_flat (l := cs.toList) h)
    simpa using this
  | _ => exact .flat _ h
theorem VRel.undef {σ : Sg} : VRel σ undef undef := .tuple _ _ rfl (fun j u u' a b => by simp at a)
/-- A value of one cell is related to a value of one cell; an aggregate to an aggregate. -/
theorem VRel.cells {σ : Sg} {v v' : Value} (h : VRel σ v v') : LRel σ (cells v) v'.cells.toList := by
  cases h with
  | agg a a' ha h1 => exact ⟨by simpa [D.cells, Value.cells] using ha, fun j u u' x y => h1 j u u' (by simpa [D.cells] using x) (by simpa [Value.cells] using y)⟩
  | flat v hv =>
    cases v with
    | agg cs => simp [flat0] at hv
    | _ => exact LRel.cons (.flat _ hv) LRel.nil
  | ptr a i h hs => exact LRel.cons (.ptr a i h hs) LRel.nil
  | slice a i n c h hs hg => exact LRel.cons (.slice a i n c h hs hg) LRel.nil
  | sliceG a i n c c' k sz N h hs hg hc => exact LRel.cons (.sliceG a i n c c' k sz N h hs hg hc) LRel.nil
  | empty a a' i c' k sz N h hg ho => exact LRel.cons (.empty a a' i c' k sz N h hg ho) LRel.nil
  | map r i h => exact LRel.cons (.map r i h) LRel.nil
  | func f a b a' b' ha hb h1 h2 => exact LRel.cons (.func f a b a' b' ha hb h1 h2) LRel.nil
  | yield l i h => exact LRel.cons (.yield l i h) LRel.nil
  | tuple a a' ha h1 => exact LRel.cons (.tuple a a' ha h1) LRel.nil
theorem VRel.one {σ : Sg} {v v' : Value} (h : VRel σ v v') (h1 : one v = true) : v'.oneCell' = true := by
  cases h with
  | flat v hv => cases v <;> first | rfl | simp [D.one] at h1
  | agg => simp [D.one] at h1
  | tuple => simp [D.one] at h1
  | _ => rfl
theorem LRel.ones {σ : Sg} {l l' : List Value} (h : LRel σ l l') (h1 : l.all one = true) : ∀ u ∈ l', u.oneCell' = true := by
  intro u hu
  obtain ⟨j, hj⟩ := List.mem_iff_getElem?.1 hu
  have hlt : j < l.length := by rw [h.1]; exact (List.getElem?_eq_some_iff.1 hj).1
  exact (h.2 j _ u (List.getElem?_eq_getElem hlt) hj).one (List.all_eq_true.1 h1 _ (List.getElem_mem hlt))
/-- Without an address the two are the same. -/
theorem VRel.eq_of_flat0 {σ : Sg} {v v' : Value} (h : VRel σ v v') (h0 : flat0 v = true) : v' = v := by
  cases h with
  | flat => rfl
  | func f a b a' b' ha hb h1 h2 =>
    simp [flat0] at h0
    obtain ⟨rfl, rfl⟩ := h0
    have e1 : a' = #[] := Array.eq_empty_of_size_eq_zero (by simpa using ha.symm)
    have e2 : b' = #[] := Array.eq_empty_of_size_eq_zero (by simpa using hb.symm)
    rw [e1, e2]
  | ptr => simp [flat0] at h0
  | slice => simp [flat0] at h0
  | sliceG => simp [flat0] at h0
  | empty => simp [flat0] at h0
  | map => simp [flat0] at h0
  | yield => simp [flat0] at h0
  | agg => simp [flat0] at h0
  | tuple => simp [flat0] at h0

/-- Where a row's own length stands: just as long as the store's, or longer. -/
def GrOK (i : BI) (len size : Nat) : Option Nat → Prop
  | none => i.gr = none ∧ size = len
  | some k => i.gr = some (k, len, size) ∧ 0 < k ∧ 0 < len
def exCode : Ex → Code
  | .normal => .skip
  | .exit id => .exit id
  | .ret => .ret
/-- What is said of a block of the store. (ro: cells that are read only; of what is no value of one cell nothing is said.) -/
def Holds (σ : Sg) (i : BI) (w : World) : Ob → Prop
  | .dead => True
  | .cells c e g => ∃ c' : Array Value, w.heap[i.blk]? = some (.cells c' e (0, 0)) ∧ c.length ≤ c'.size ∧ LRel σ c (c'.toList.take c.length) ∧ GrOK i c.length c'.size g
  | .map es clock => i.gr = none ∧ ∃ es' : Array MapEntry, w.heap[i.blk]? = some (.map es' clock) ∧ es.length = es'.size ∧
      ∀ (j : Nat) e e', es[j]? = some e → es'[j]? = some e' → e'.key = e.key ∧ e'.born = e.born ∧ flat1 e.key = true ∧ VRel σ e.val e'.val
  | .ro c => i.gr = none ∧ ∃ (c' : Array Value) (e' : TypeId) (fz : Nat × Nat), w.heap[i.blk]? = some (.cells c' e' fz) ∧ c.length ≤ c'.size ∧ ∀ (j : Nat) u u', c[j]? = some u → c'[j]? = some u' → one u = true → VRel σ u u'
  | .loop r => i.gr = none ∧ ∃ (r' : Loop) (nt : Nat), w.heap[i.blk]? = some (.loop r') ∧ r'.state = r.st ∧ r'.pending = r.pend.map exCode ∧ r'.params = r.ps ∧ r'.assign = r.assign ∧ r'.body = r.body ∧
      r'.tmps.size = nt ∧ (∀ t, t < nt → VRel σ ((r.T.get t).getD undef) (r'.tmps.getD t undef)) ∧ okCode nt r.G r.assign = true ∧ okCode nt r.G r.body = true ∧ (∀ p ∈ r.ps.toList, p < nt) ∧ r.pend ≠ some .normal

structure Sim (P : Program) (σ : Sg) (m : M) (w : World) : Prop where
  dom : ∀ b i, σ b = some i → b < m.n
  obj : ∀ b i, σ b = some i → Holds σ i w (m.get b)
  lt : ∀ b i, σ b = some i → i.blk < w.heap.size
  inj : ∀ b b' i i', σ b = some i → σ b' = some i' → m.get b ≠ .dead → m.get b' ≠ .dead → i.blk = i'.blk → b = b'
  glob : ∀ g, g < P.globals.size → σ g = some ⟨g, none⟩

/-- From (σ, m, w) on, both have gone on alike; blocks below m'.low are as they were. -/
structure Ev (P : Program) (σ : Sg) (m : M) (w : World) (σ' : Sg) (m' : M) (w' : World) : Prop where
  ext : σ.le σ'
  sim : Sim P σ' m' w'
  low : m'.low ≤ m.low
  nle : m.n ≤ m'.n
  hle : w.heap.size ≤ w'.heap.size
  new : ∀ b i, σ' b = some i → σ b = none → m.n ≤ b ∧ (w.heap.size ≤ i.blk ∨ ∃ b0 i0, σ b0 = some i0 ∧ i0.blk = i.blk ∧ m'.low ≤ b0)
  abs : ∀ b, b < m'.low → b < m.n → m'.get b = m.get b
  heap : ∀ B, B < w.heap.size → (∀ b i, σ b = some i → i.blk = B → b < m'.low) → w'.heap[B]? = w.heap[B]?
  os : w'.os = w.os
  tape : w'.tape = w.tape
  output : w'.output = w.output

section
variable {P : Program} {σ σ' τ : Sg} {m m' m2 : M} {w w' w2 : World}
theorem Ev.refl (h : Sim P σ m w) : Ev P σ m w σ m w :=
  ⟨fun _ _ h => h, h, Nat.le_refl _, Nat.le_refl _, Nat.le_refl _, fun b i h h' => (by rw [h] at h'; cases h'), fun _ _ _ => rfl, fun _ _ _ => rfl, rfl, rfl, rfl⟩
theorem Ev.trans (h : Ev P σ m w σ' m' w') (k : Ev P σ' m' w' τ m2 w2) : Ev P σ m w τ m2 w2 := by
  refine ⟨fun b i e => k.ext b i (h.ext b i e), k.sim, Nat.le_trans k.low h.low, Nat.le_trans h.nle k.nle, Nat.le_trans h.hle k.hle, ?_, ?_, ?_, k.os.trans h.os, k.tape.trans h.tape, k.output.trans h.output⟩
  · intro b i hb hn
    have hl := k.low
    cases hm : σ' b with
    | some i1 =>
      have e := k.ext b i1 hm
      rw [hb] at e; cases e
      obtain ⟨h1, h2⟩ := h.new b i hm hn
      refine ⟨h1, h2.imp id ?_⟩
      rintro ⟨b0, i0, x, y, z⟩
      exact ⟨b0, i0, x, y, by omega⟩
    | none =>
      obtain ⟨h1, h2⟩ := k.new b i hb hm
      have := h.nle
      refine ⟨by omega, ?_⟩
      rcases h2 with h2 | ⟨b0, i0, x, y, z⟩
      · have := h.hle; exact .inl (by omega)
      · cases h0 : σ b0 with
        | some i1 =>
          have e := h.ext b0 i1 h0
          rw [x] at e; cases e
          exact .inr ⟨b0, i0, h0, y, z⟩
        | none =>
          obtain ⟨_, h3⟩ := h.new b0 i0 x h0
          rcases h3 with h3 | ⟨b1, i1, x1, y1, z1⟩
          · exact .inl (by omega)
          · exact .inr ⟨b1, i1, x1, by omega, by omega⟩
  · intro b hb hn
    have hl := k.low
    have := h.nle
    rw [k.abs b hb (by omega), h.abs b (by omega) hn]
  · intro B hB hp
    have hl := k.low
    have := h.hle
    rw [k.heap B (by omega) ?_, h.heap B hB (fun b i x y => by have := hp b i x y; omega)]
    intro b i x y
    cases hs : σ b with
    | some i1 =>
      have e := h.ext b i1 hs
      rw [x] at e; cases e
      exact hp b i hs y
    | none =>
      obtain ⟨_, h3⟩ := h.new b i x hs
      rcases h3 with h3 | ⟨b1, i1, x1, y1, z1⟩
      · omega
      · have := hp b1 i1 x1 (by omega); omega
end
end Go.D

/- How the store and the memory go on together: a new block, a write, a block that is grown. -/
namespace Go.D
open Go

theorem blt_iff {a b : Nat} : Nat.blt a b = decide (a < b) := by
  cases h : Nat.blt a b with
  | true =>
    have h2 : Nat.ble (a + 1) b = true := h
    have := Nat.le_of_ble_eq_true h2
    simp; omega
  | false =>
    have h2 : Nat.ble (a + 1) b = false := h
    have : ¬ (a + 1 ≤ b) := fun hle => by rw [Nat.ble_eq_true_of_le hle] at h2; cases h2
    simp; omega
theorem M.get_def (m : M) (b : Nat) : m.get b = if b < m.n then (m.st.get b).getD .dead else .dead := by
  unfold M.get
  rw [blt_iff]
  by_cases h : b < m.n <;> simp [h]
theorem M.get_push (m : M) (o : Ob) (b : Nat) : (m.push o).get b = if b = m.n then o else m.get b := by
  rw [M.get_def, M.get_def]
  simp only [M.push, Tr.get_set]
  by_cases h : b = m.n
  · subst h; simp
  · by_cases h1 : b < m.n
    · rw [if_pos (by omega), if_neg h, if_neg h, if_pos h1]
    · rw [if_neg (by omega), if_neg h, if_neg h1]
theorem M.get_set (m : M) (b : Nat) (o : Ob) (c : Nat) (hb : b < m.n) : (m.set b o).get c = if c = b then o else m.get c := by
  rw [M.get_def, M.get_def]
  simp only [M.set, Tr.get_set]
  by_cases h : c = b
  · subst h; simp [hb]
  · simp [h]
theorem M.get_lt {m : M} {b : Nat} (h : m.get b ≠ .dead) : b < m.n := by
  rw [M.get_def] at h
  by_cases hb : b < m.n
  · exact hb
  · rw [if_neg hb] at h; exact absurd rfl h

section
variable {P : Program} {σ σ' τ : Sg} {m m' m2 : M} {w w' w2 : World}

theorem Holds.keep {i : BI} {ob : Ob} (h : Holds σ i w ob) (hle : σ.le τ) (hw : w'.heap[i.blk]? = w.heap[i.blk]?) : Holds τ i w' ob := by
  cases ob with
  | dead => trivial
  | cells c e g =>
    obtain ⟨c', h1, h2, h3, h4⟩ := h
    exact ⟨c', hw.trans h1, h2, h3.mono hle, h4⟩
  | map es clock =>
    obtain ⟨hg, es', h1, h2, h3⟩ := h
    refine ⟨hg, es', hw.trans h1, h2, fun j e e' x y => ?_⟩
    obtain ⟨a, b, c, d⟩ := h3 j e e' x y
    exact ⟨a, b, c, d.mono hle⟩
  | loop r =>
    obtain ⟨hg, r', nt, h1, h2, h3, h4, h5, h6, h7, h8, h9⟩ := h
    exact ⟨hg, r', nt, hw.trans h1, h2, h3, h4, h5, h6, h7, fun t ht => (h8 t ht).mono hle, h9⟩
  | ro c =>
    obtain ⟨hg, c', e', fz, h1, h2, h3⟩ := h
    exact ⟨hg, c', e', fz, hw.trans h1, h2, fun j u u' x y z => (h3 j u u' x y z).mono hle⟩

/-- One more block. -/
def Sg.add (σ : Sg) (b : Nat) (i : BI) : Sg := fun c => if c = b then some i else σ c
theorem Sg.add_same (b : Nat) (i : BI) : (σ.add b i) b = some i := by simp [Sg.add]
theorem Sg.le_add {b : Nat} {i : BI} (h : σ b = none) : σ.le (σ.add b i) := by
  intro c j hc
  unfold Sg.add
  by_cases hcb : c = b
  · subst hcb; rw [h] at hc; cases hc
  · rw [if_neg hcb]; exact hc
theorem Sim.next_none (h : Sim P σ m w) : σ m.n = none := by
  cases hs : σ m.n with
  | none => rfl
  | some i => have := h.dom _ _ hs; omega

/-- A new block on both sides. -/
theorem Ev.new_block {ob : Ob} {o : Obj} {gr : Option (Nat × Nat × Nat)} (h : Sim P σ m w)
    (hh : Holds (σ.add m.n ⟨w.heap.size, gr⟩) ⟨w.heap.size, gr⟩ (w.alloc o) ob) : Ev P σ m w (σ.add m.n ⟨w.heap.size, gr⟩) (m.push ob) (w.alloc o) := by
  have hn := h.next_none
  have hle := Sg.le_add (i := ⟨w.heap.size, gr⟩) hn
  have hold : ∀ B, B < w.heap.size → (w.alloc o).heap[B]? = w.heap[B]? := fun B hB => heap_alloc_old w o hB
  have hpn : (m.push ob).n = m.n + 1 := rfl
  have hsz : (w.alloc o).heap.size = w.heap.size + 1 := by simp
  have hcase : ∀ b i, (σ.add m.n ⟨w.heap.size, gr⟩) b = some i → (b = m.n ∧ i = ⟨w.heap.size, gr⟩) ∨ (b ≠ m.n ∧ σ b = some i) := by
    intro b i hb
    unfold Sg.add at hb
    by_cases hbn : b = m.n
    · rw [if_pos hbn] at hb; exact .inl ⟨hbn, by injection hb with hb; exact hb.symm⟩
    · rw [if_neg hbn] at hb; exact .inr ⟨hbn, hb⟩
  refine ⟨hle, ⟨?_, ?_, ?_, ?_, ?_⟩, Nat.le_refl _, by omega, by omega, ?_, ?_, fun B hB _ => hold B hB, rfl, rfl, rfl⟩
  · intro b i hb
    rcases hcase b i hb with ⟨rfl, _⟩ | ⟨_, hb⟩
    · omega
    · have := h.dom b i hb; omega
  · intro b i hb
    rw [M.get_push]
    rcases hcase b i hb with ⟨rfl, rfl⟩ | ⟨hne, hb⟩
    · rw [if_pos rfl]; exact hh
    · rw [if_neg hne]; exact (h.obj b i hb).keep hle (hold _ (h.lt b i hb))
  · intro b i hb
    rcases hcase b i hb with ⟨_, rfl⟩ | ⟨_, hb⟩
    · show w.heap.size < _; omega
    · have := h.lt b i hb; omega
  · intro b b' i i' hb hb' hd hd' he
    rw [M.get_push] at hd hd'
    rcases hcase b i hb with ⟨rfl, rfl⟩ | ⟨hne, hb⟩ <;> rcases hcase b' i' hb' with ⟨rfl, rfl⟩ | ⟨hne', hb'⟩
    · rfl
    · have := h.lt b' i' hb'; dsimp only at he; omega
    · have := h.lt b i hb; dsimp only at he; omega
    · rw [if_neg hne] at hd; rw [if_neg hne'] at hd'; exact h.inj b b' i i' hb hb' hd hd' he
  · intro g hg
    exact hle g _ (h.glob g hg)
  · intro b i hb hs
    rcases hcase b i hb with ⟨rfl, rfl⟩ | ⟨_, hb⟩
    · exact ⟨Nat.le_refl _, .inl (Nat.le_refl _)⟩
    · rw [hs] at hb; cases hb
  · intro b _ hb
    rw [M.get_push, if_neg (by omega)]

/-- A write into a block that lives. -/
theorem Ev.write {b : Nat} {i : BI} {ob : Ob} (h : Sim P σ m w) (hb : σ b = some i) (hd : m.get b ≠ .dead) (hh : Holds σ i w' ob)
    (hw : ∀ B, B ≠ i.blk → w'.heap[B]? = w.heap[B]?) (hs : w'.heap.size = w.heap.size) (ho : w'.os = w.os) (ht : w'.tape = w.tape) (hu : w'.output = w.output) :
    Ev P σ m w σ (m.set b ob) w' := by
  have hbn := M.get_lt hd
  have hlow : (m.set b ob).low = min m.low b := rfl
  refine ⟨fun _ _ x => x, ⟨h.dom, ?_, fun c j hc => (by rw [hs]; exact h.lt c j hc), ?_, h.glob⟩, by omega, Nat.le_refl _, by omega, fun c j hc hn => (by rw [hc] at hn; cases hn), ?_, ?_, ho, ht, hu⟩
  · intro c j hc
    rw [M.get_set _ _ _ _ hbn]
    by_cases hcb : c = b
    · subst hcb; rw [hb] at hc; cases hc; rw [if_pos rfl]; exact hh
    · rw [if_neg hcb]
      by_cases hdc : m.get c = .dead
      · rw [hdc]; trivial
      · exact (h.obj c j hc).keep (fun _ _ x => x) (hw _ (fun e => hcb (h.inj c b j i hc hb hdc hd e)))
  · intro c c' j j' hc hc' hl hl' he
    rw [M.get_set _ _ _ _ hbn] at hl hl'
    have live : ∀ x, (if x = b then ob else m.get x) ≠ .dead → m.get x ≠ .dead := by
      intro x hx
      by_cases hxb : x = b
      · subst hxb; exact hd
      · rwa [if_neg hxb] at hx
    exact h.inj c c' j j' hc hc' (live _ hl) (live _ hl') he
  · intro c hc hcn
    rw [M.get_set _ _ _ _ hbn, if_neg (by omega)]
  · intro B hB hp
    refine hw B (fun e => ?_)
    have := hp b i hb e.symm
    omega

/-- A row that is grown in its place: the old block is dead, the new one lies where the old one lay. -/
theorem Ev.regrow {b : Nat} {i : BI} {ob : Ob} {gr : Option (Nat × Nat × Nat)} (h : Sim P σ m w) (hb : σ b = some i) (hd : m.get b ≠ .dead)
    (hh : Holds (σ.add m.n ⟨i.blk, gr⟩) ⟨i.blk, gr⟩ w' ob)
    (hw : ∀ B, B ≠ i.blk → w'.heap[B]? = w.heap[B]?) (hs : w'.heap.size = w.heap.size) (ho : w'.os = w.os) (ht : w'.tape = w.tape) (hu : w'.output = w.output) :
    Ev P σ m w (σ.add m.n ⟨i.blk, gr⟩) ((m.set b .dead).push ob) w' := by
  have hbn := M.get_lt hd
  have hn := h.next_none
  have hle := Sg.le_add (i := ⟨i.blk, gr⟩) hn
  have hsn : (m.set b .dead).n = m.n := rfl
  have hpn : ((m.set b .dead).push ob).n = m.n + 1 := rfl
  have hlow : ((m.set b .dead).push ob).low = min m.low b := rfl
  have hget : ∀ c, ((m.set b .dead).push ob).get c = if c = m.n then ob else if c = b then .dead else m.get c := by
    intro c
    rw [M.get_push, hsn, M.get_set _ _ _ _ hbn]
  have hcase : ∀ c j, (σ.add m.n ⟨i.blk, gr⟩) c = some j → (c = m.n ∧ j = ⟨i.blk, gr⟩) ∨ (c ≠ m.n ∧ σ c = some j) := by
    intro c j hc
    unfold Sg.add at hc
    by_cases hcn : c = m.n
    · rw [if_pos hcn] at hc; exact .inl ⟨hcn, by injection hc with hc; exact hc.symm⟩
    · rw [if_neg hcn] at hc; exact .inr ⟨hcn, hc⟩
  refine ⟨hle, ⟨?_, ?_, ?_, ?_, ?_⟩, by omega, by omega, by omega, ?_, ?_, ?_, ho, ht, hu⟩
  · intro c j hc
    rcases hcase c j hc with ⟨rfl, _⟩ | ⟨_, hc⟩
    · omega
    · have := h.dom c j hc; omega
  · intro c j hc
    rw [hget]
    rcases hcase c j hc with ⟨rfl, rfl⟩ | ⟨hne, hc⟩
    · rw [if_pos rfl]; exact hh
    · rw [if_neg hne]
      by_cases hcb : c = b
      · rw [if_pos hcb]; trivial
      · rw [if_neg hcb]
        by_cases hdc : m.get c = .dead
        · rw [hdc]; trivial
        · exact (h.obj c j hc).keep hle (hw _ (fun e => hcb (h.inj c b j i hc hb hdc hd e)))
  · intro c j hc
    rcases hcase c j hc with ⟨_, rfl⟩ | ⟨_, hc⟩
    · have := h.lt b i hb; rw [hs]; exact this
    · rw [hs]; exact h.lt c j hc
  · intro c c' j j' hc hc' hl hl' he
    rw [hget] at hl hl'
    rcases hcase c j hc with ⟨rfl, rfl⟩ | ⟨hne, hc⟩ <;> rcases hcase c' j' hc' with ⟨rfl, rfl⟩ | ⟨hne', hc'⟩
    · rfl
    · rw [if_neg hne'] at hl'
      by_cases hcb : c' = b
      · rw [if_pos hcb] at hl'; exact absurd rfl hl'
      · rw [if_neg hcb] at hl'; exact absurd (h.inj b c' i j' hb hc' hd hl' he).symm hcb
    · rw [if_neg hne] at hl
      by_cases hcb : c = b
      · rw [if_pos hcb] at hl; exact absurd rfl hl
      · rw [if_neg hcb] at hl; exact absurd (h.inj c b j i hc hb hl hd he) hcb
    · rw [if_neg hne] at hl; rw [if_neg hne'] at hl'
      by_cases hcb : c = b
      · rw [if_pos hcb] at hl; exact absurd rfl hl
      · by_cases hcb' : c' = b
        · rw [if_pos hcb'] at hl'; exact absurd rfl hl'
        · rw [if_neg hcb] at hl; rw [if_neg hcb'] at hl'; exact h.inj c c' j j' hc hc' hl hl' he
  · intro g hg
    exact hle g _ (h.glob g hg)
  · intro c j hc hns
    rcases hcase c j hc with ⟨rfl, rfl⟩ | ⟨_, hc⟩
    · exact ⟨Nat.le_refl _, .inr ⟨b, i, hb, rfl, by omega⟩⟩
    · rw [hns] at hc; cases hc
  · intro c hc hcn
    rw [hget, if_neg (by omega), if_neg (by omega)]
  · intro B hB hp
    refine hw B (fun e => ?_)
    have := hp b i hb e.symm
    omega

/-- Nothing but the draws has turned. -/
theorem Sim.of_heap (h : Sim P σ m w) (he : w'.heap = w.heap) : Sim P σ m w' :=
  ⟨h.dom, fun b i hb => (h.obj b i hb).keep (fun _ _ x => x) (by rw [he]), fun b i hb => (by rw [he]; exact h.lt b i hb), h.inj, h.glob⟩
theorem Ev.of_heap (h : Sim P σ m w) (he : w'.heap = w.heap) (ho : w'.os = w.os) (ht : w'.tape = w.tape) (hu : w'.output = w.output) : Ev P σ m w σ m w' :=
  ⟨fun _ _ x => x, h.of_heap he, Nat.le_refl _, Nat.le_refl _, (by rw [he]; exact Nat.le_refl _), fun b i x y => (by rw [x] at y; cases y), fun _ _ _ => rfl, fun _ _ _ => (by rw [he]), ho, ht, hu⟩
end
end Go.D

/- The tables' facts; loads and stores. -/
namespace Go.D
open Go

section
variable {E : Env} {P : Program}

/-- What an entry of the table of types says of the program. -/
structure TIF (P : Program) (t : TypeId) (ti : TI) (i : TypeInfo) (u : TypeDesc) : Prop where
  info : P.info? t = some i
  und : P.underlying t = some u
  d : ti.d = mkTD P u
  size : ti.size = i.size
  bytes : ti.bytes = i.bytes
  zero : ti.zero = i.zero
  es : ti.es = esOf P u
  cmp : ti.cmp = cmpOf P t u
theorem Env.OK.tif (hE : E.OK P) {t : TypeId} {ti : TI} (h : E.ty.get t = some ti) : ∃ i u, TIF P t ti i u := by
  have h := hE.ty t ti h
  unfold mkTI at h
  cases hi : P.info? t with
  | none => rw [hi] at h; simp at h
  | some i =>
    cases hu : P.underlying t with
    | none => rw [hi, hu] at h; simp at h
    | some u =>
      rw [hi, hu] at h
      simp only [Option.bind_eq_bind, Option.bind_some, Option.some.injEq] at h
      subst h
      exact ⟨i, u, hi, hu, rfl, rfl, rfl, rfl, rfl, rfl⟩

theorem VRel.of_flat2 {σ : Sg} {v : Value} (h : flat2 v = true) : VRel σ v v := by
  cases v with
  | tuple vs =>
    refine .tuple _ _ rfl fun j u u' a b => ?_
    rw [a] at b; cases b
    exact .of_flat1 (List.all_eq_true.1 h u (by simpa using Array.mem_of_getElem? a))
  | _ => exact .of_flat1 h
theorem Env.OK.flat (hE : E.OK P) {t : TypeId} {ti : TI} {z : Value} (h : E.ty.get t = some ti) (hz : ti.zero = some z) : flat2 z = true := by
  have hc := hE.chk
  unfold Env.chk at hc
  simp only [Bool.and_eq_true] at hc
  have := List.all_eq_true.1 hc.1 _ (Tr.get_mem E.ty t 1 0 h)
  simp only [Bool.and_eq_true, hz] at this
  exact this.1
theorem Env.OK.fld (hE : E.OK P) {t : TypeId} {ti : TI} {fs : List Fd} {f : Fd} (h : E.ty.get t = some ti) (hd : ti.d = .struct fs) (hf : f ∈ fs) : ∃ fi, E.ty.get f.ty = some fi ∧ fi.size = f.size := by
  have hc := hE.chk
  unfold Env.chk at hc
  simp only [Bool.and_eq_true] at hc
  have := List.all_eq_true.1 hc.1 _ (Tr.get_mem E.ty t 1 0 h)
  simp only [Bool.and_eq_true, hd] at this
  have h2 := List.all_eq_true.1 this.2 f hf
  cases hg : E.ty.get f.ty with
  | none => rw [hg] at h2; simp at h2
  | some fi => rw [hg] at h2; exact ⟨fi, rfl, by simpa using h2⟩
theorem Env.OK.code (hE : E.OK P) {f : FuncId} {fn : Func} (h : E.fn.get f = some fn) : okFn P.globals.size fn = true := by
  have hc := hE.chk
  unfold Env.chk at hc
  simp only [Bool.and_eq_true] at hc
  have := List.all_eq_true.1 hc.2.1 _ (Tr.get_mem E.fn f 1 0 h)
  rw [hE.G] at this
  exact this
theorem Env.OK.codeD (hE : E.OK P) {f : FuncId} {d : DFn} (h : E.df.get f = some d) : okFn P.globals.size d.fn = true := by
  have hc := hE.chk
  unfold Env.chk at hc
  simp only [Bool.and_eq_true] at hc
  have := List.all_eq_true.1 hc.2.2.1 _ (Tr.get_mem E.df f 1 0 h)
  rw [hE.G] at this
  exact this
theorem Env.OK.codeC (hE : E.OK P) {f : FuncId} {d : ClFn} (h : E.cl.get f = some d) : okFn P.globals.size d.fn = true := by
  have hc := hE.chk
  unfold Env.chk at hc
  simp only [Bool.and_eq_true] at hc
  have := List.all_eq_true.1 hc.2.2.2 _ (Tr.get_mem E.cl f 1 0 h)
  rw [hE.G] at this
  exact this

theorem mkTD_bool {u : TypeDesc} (h : mkTD P u = .bool) : u = .bool := by cases u <;> simp [mkTD] at h ⊢
theorem mkTD_int {u : TypeDesc} {k : IntKind} (h : mkTD P u = .int k) : u = .int k := by cases u <;> simp [mkTD] at h ⊢; exact h
theorem mkTD_str {u : TypeDesc} (h : mkTD P u = .str) : u = .string := by cases u <;> simp [mkTD] at h ⊢
theorem mkTD_slice {u : TypeDesc} {e : Nat} (h : mkTD P u = .slice e) : u = .slice e := by cases u <;> simp [mkTD] at h ⊢; exact h
theorem mkTD_array {u : TypeDesc} {n e : Nat} (h : mkTD P u = .array n e) : u = .array n e := by cases u <;> simp [mkTD] at h ⊢; exact h
theorem mkTD_map {u : TypeDesc} {k e : Nat} (h : mkTD P u = .map k e) : u = .map k e := by cases u <;> simp [mkTD] at h ⊢; exact h
theorem mkTD_func {u : TypeDesc} (h : mkTD P u = .func) : ∃ a b c, u = .func a b c := by cases u <;> simp [mkTD] at h ⊢
def mkFd (P : Program) (f : Field) : Fd := ⟨f.type, f.offset, ((P.info? f.type).map (·.size)).getD 0, f.name == "_" || (P.info? f.type).isNone⟩
theorem mkTD_ptr {u : TypeDesc} {e : Nat} (h : mkTD P u = .ptr e) : u = .pointer e := by cases u <;> simp [mkTD] at h ⊢; exact h
theorem mkTD_iface {u : TypeDesc} {b : Bool} (h : mkTD P u = .iface b) : ∃ ms : Array (String × TypeId), u = .interface ms ∧ ms.isEmpty = b := by cases u <;> simp [mkTD] at h ⊢; exact h
theorem mkTD_struct {u : TypeDesc} {fs : List Fd} (h : mkTD P u = .struct fs) : ∃ gs : Array Field, u = .struct gs ∧ fs = gs.toList.map (mkFd P) := by
  cases u <;> simp [mkTD] at h
  exact ⟨_, rfl, h.symm⟩
theorem mkTD_agg (u : TypeDesc) (w : World) (t : TypeId) (h : P.underlying t = some u) : (isAgg t).run P w = .ok (mkTD P u).agg w := by
  unfold isAgg
  rw [Sem.run_bind, run_underlying h, Result.andThen_ok]
  cases u <;> rfl
theorem run_typeInfo {t : TypeId} {i : TypeInfo} (h : P.info? t = some i) (w : World) : (typeInfo t).run P w = .ok i w := by
  simp [typeInfo, program, Sem.run, h]
theorem run_sizeOf {t : TypeId} {i : TypeInfo} (h : P.info? t = some i) (w : World) : (sizeOf t).run P w = .ok i.size w := by
  unfold sizeOf
  rw [Sem.run_bind, run_typeInfo h]
  rfl
theorem run_zeroValue {t : TypeId} {i : TypeInfo} {z : Value} (h : P.info? t = some i) (hz : i.zero = some z) (w : World) : (zeroValue t).run P w = .ok z w := by
  unfold zeroValue
  rw [Sem.run_bind, run_typeInfo h, Result.andThen_ok]
  simp [hz]

variable {σ : Sg} {m m' : M} {w : World}

/-- A block of cells that lives. -/
theorem Sim.cells (h : Sim P σ m w) {b : Nat} {i : BI} (hb : σ b = some i) {c : List Value} {e : TypeId} {g : Option Nat} (hg : m.get b = .cells c e g) :
    ∃ c' : Array Value, w.heap[i.blk]? = some (.cells c' e (0, 0)) ∧ c.length ≤ c'.size ∧ LRel σ c (c'.toList.take c.length) ∧ GrOK i c.length c'.size g := by
  have := h.obj b i hb
  rw [hg] at this
  exact this

/-- A block that is read only. -/
theorem Sim.ro (h : Sim P σ m w) {b : Nat} {i : BI} (hb : σ b = some i) {c : List Value} (hg : m.get b = .ro c) :
    ∃ (c' : Array Value) (e' : TypeId) (fz : Nat × Nat), w.heap[i.blk]? = some (.cells c' e' fz) ∧ c.length ≤ c'.size ∧ ∀ (j : Nat) u u', c[j]? = some u → c'[j]? = some u' → one u = true → VRel σ u u' := by
  have := h.obj b i hb
  rw [hg] at this
  exact this.2

theorem add_off (b o n : Nat) : (⟨b, o, none⟩ : Addr).add n = ⟨b, o + n, none⟩ := by
  unfold Addr.add; split <;> simp_all

theorem loadCells_sound (hs : Sim P σ m w) {a : Addr} {i : BI} (ha : σ a.block = some i) {n : Nat} {cs : List Value} (h : loadCells m a n = some cs) :
    ∃ cs' : List Value, (Go.loadCells ⟨i.blk, a.off, none⟩ n).run P w = .ok cs'.toArray w ∧ LRel σ cs cs' ∧ cs.length = n ∧ a.spot = none := by
  unfold loadCells at h
  split at h
  · rename_i c e g hg
    cases hc : (a.spot.isNone && Nat.ble (a.off + n) c.length) with
    | false => rw [hc] at h; simp at h
    | true =>
      rw [hc] at h
      simp only [cond_true, Option.some.injEq] at h
      subst h
      simp only [Bool.and_eq_true] at hc
      have hle := Nat.le_of_ble_eq_true hc.2
      obtain ⟨c', h1, h2, h3, _⟩ := hs.cells ha hg
      have hlen : ((c.drop a.off).take n).length = n := by simp; omega
      refine ⟨((c'.toList.take c.length).drop a.off).take n, ?_, (h3.drop _).take _, hlen, by simpa using hc.1⟩
      have hl : (((c'.toList.take c.length).drop a.off).take n).length = n := by simp; omega
      have := run_loadCells_list (P := P) w ⟨i.blk, a.off, none⟩ (((c'.toList.take c.length).drop a.off).take n) (fun j v hj => by
        rw [add_off]
        have hjn : j < n := by
          have := (List.getElem?_eq_some_iff.1 hj).1; omega
        rw [List.getElem?_take_of_lt hjn, List.getElem?_drop, List.getElem?_take_of_lt (by omega)] at hj
        simp only [World.cell?, h1]
        simpa using hj)
      rw [hl] at this
      exact this
  · rename_i c hg
    cases hc : (a.spot.isNone && Nat.ble (a.off + n) c.length && ((c.drop a.off).take n).all one) with
    | false => rw [hc] at h; simp at h
    | true =>
      rw [hc] at h
      simp only [cond_true, Option.some.injEq] at h
      subst h
      simp only [Bool.and_eq_true] at hc
      have hle := Nat.le_of_ble_eq_true hc.1.2
      obtain ⟨c', e', fz, h1, h2, h3⟩ := hs.ro ha hg
      have hlen : ((c.drop a.off).take n).length = n := by simp; omega
      have hl : ((c'.toList.drop a.off).take n).length = n := by simp; omega
      have hr : LRel σ ((c.drop a.off).take n) ((c'.toList.drop a.off).take n) := ⟨by rw [hlen, hl], fun j u u' x y => by
        have hone := List.all_eq_true.1 hc.2 u (List.mem_of_getElem? x)
        have hjn : j < n := by
          have := (List.getElem?_eq_some_iff.1 x).1; omega
        rw [List.getElem?_take_of_lt hjn, List.getElem?_drop] at x y
        exact h3 _ u u' x (by simpa using y) hone⟩
      refine ⟨(c'.toList.drop a.off).take n, ?_, hr, hlen, by simpa using hc.1.1⟩
      have := run_loadCells_list (P := P) w ⟨i.blk, a.off, none⟩ ((c'.toList.drop a.off).take n) (fun j v hj => by
        rw [add_off]
        have hjn : j < n := by
          have := (List.getElem?_eq_some_iff.1 hj).1; omega
        rw [List.getElem?_take_of_lt hjn, List.getElem?_drop] at hj
        simp only [World.cell?, h1]
        simpa using hj)
      rw [hl] at this
      exact this
  · cases h

theorem cellAt_sound (hs : Sim P σ m w) {a : Addr} {i : BI} (ha : σ a.block = some i) {v : Value} (h : cellAt m a = some v) :
    ∃ v', w.cell? ⟨i.blk, a.off, none⟩ = some v' ∧ VRel σ v v' ∧ a.spot = none := by
  unfold cellAt at h
  split at h
  · rename_i c e g hg
    by_cases hsp : a.spot.isNone = true
    · rw [if_pos hsp] at h
      obtain ⟨c', h1, h2, h3, _⟩ := hs.cells ha hg
      obtain ⟨u', hu, hr⟩ := h3.get h
      have hlt := (List.getElem?_eq_some_iff.1 h).1
      rw [List.getElem?_take_of_lt hlt] at hu
      exact ⟨u', by simp only [World.cell?, h1]; simpa using hu, hr, by simpa using hsp⟩
    · rw [if_neg hsp] at h; cases h
  · rename_i c hg
    by_cases hsp : a.spot.isNone = true
    · rw [if_pos hsp] at h
      obtain ⟨c', e', fz, h1, h2, h3⟩ := hs.ro ha hg
      cases hx : c[a.off]? with
      | none => rw [hx] at h; cases h
      | some u =>
        rw [hx] at h
        dsimp only at h
        cases hone : one u with
        | false => rw [hone] at h; cases h
        | true =>
          rw [hone] at h
          simp only [cond_true, Option.some.injEq] at h
          subst h
          have hlt := (List.getElem?_eq_some_iff.1 hx).1
          have hlt' : a.off < c'.size := by omega
          exact ⟨c'[a.off], by simp only [World.cell?, h1]; simp [hlt'], h3 _ _ _ hx (Array.getElem?_eq_getElem hlt') hone, by simpa using hsp⟩
    · rw [if_neg hsp] at h; cases h
  · cases h

theorem loadVar_sound (hE : E.OK P) (hs : Sim P σ m w) {t : TypeId} {a : Addr} {i : BI} (ha : σ a.block = some i) {v : Value} (h : loadVar E m t a = some v) :
    ∃ v', (Go.loadVar t ⟨i.blk, a.off, none⟩).run P w = .ok v' w ∧ VRel σ v v' ∧ a.spot = none := by
  unfold loadVar at h
  split at h
  · rename_i ti hti
    obtain ⟨inf, u, f⟩ := hE.tif hti
    unfold Go.loadVar
    rw [Sem.run_bind, mkTD_agg u w t f.und, Result.andThen_ok, ← f.d]
    cases hag : ti.d.agg with
    | true =>
      rw [hag] at h
      simp only [cond_true, Option.map_eq_some_iff] at h
      obtain ⟨cs, hcs, rfl⟩ := h
      obtain ⟨cs', h1, h2, _, h4⟩ := loadCells_sound hs ha hcs
      refine ⟨.agg cs'.toArray, ?_, h2.agg, h4⟩
      simp only [if_true, Sem.run_bind, run_sizeOf f.info, Result.andThen_ok]
      rw [← f.size, h1]
      rfl
    | false =>
      rw [hag] at h
      simp only [cond_false] at h
      obtain ⟨v', h1, h2, h3⟩ := cellAt_sound hs ha h
      refine ⟨v', ?_, h2, h3⟩
      simp [h1]
  · cases h

theorem splice_rel {σ : Sg} {c c' vs vs' : List Value} {o : Nat} (hl : c.length ≤ c'.length) (h : LRel σ c (c'.take c.length)) (hv : LRel σ vs vs') (ho : o + vs.length ≤ c.length) :
    LRel σ (c.take o ++ (vs ++ c.drop (o + vs.length))) ((c'.take o ++ vs' ++ c'.drop (o + vs'.length)).take c.length) := by
  have e : (c'.take o ++ vs' ++ c'.drop (o + vs'.length)).take c.length = (c'.take c.length).take o ++ (vs' ++ (c'.take c.length).drop (o + vs'.length)) := by
    have hlv := hv.1
    rw [List.append_assoc, List.take_append, List.take_append, List.take_take, List.length_take]
    have h1 : min o c'.length = o := by omega
    have h2 : List.take c.length (List.take o c') = List.take o c' := by rw [List.take_take]; congr 1; omega
    rw [h1, List.take_of_length_le (l := vs') (by omega), List.take_take]
    congr 1
    · congr 1; omega
    · congr 1
      rw [List.take_drop]
      congr 1
      congr 1; omega
  rw [e, ← hv.1]
  exact (h.take o).append (hv.append (h.drop _))

theorem storeCells_sound (hs : Sim P σ m w) {a : Addr} {i : BI} (ha : σ a.block = some i) {vs vs' : List Value} (hv : LRel σ vs vs') (h : storeCells m a vs = some m') :
    ∃ w', (Go.storeCells ⟨i.blk, a.off, none⟩ vs').run P w = .ok () w' ∧ Ev P σ m w σ m' w' ∧ a.spot = none ∧ ∀ B, B ≠ i.blk → w'.heap[B]? = w.heap[B]? := by
  unfold storeCells at h
  split at h
  · rename_i c e g hg
    cases hc : (a.spot.isNone && Nat.ble (a.off + vs.length) c.length && vs.all one) with
    | false => rw [hc] at h; simp at h
    | true =>
      rw [hc] at h
      simp only [cond_true, Option.some.injEq] at h
      subst h
      simp only [Bool.and_eq_true] at hc
      have hle := Nat.le_of_ble_eq_true hc.1.2
      obtain ⟨c', h1, h2, h3, h4⟩ := hs.cells ha hg
      have hone := hv.ones hc.2
      have hrun := run_storeCells_at (P := P) i.blk a.off e vs' 0 c' w h1 (by rw [← hv.1]; omega) hone
      simp only [Nat.add_zero] at hrun
      have hoth : ∀ B, B ≠ i.blk → (w.setRow i.blk (c'.toList.take a.off ++ vs' ++ c'.toList.drop (a.off + vs'.length)).toArray).heap[B]? = w.heap[B]? := by
        intro B hB
        simp only [World.setRow, Array.getElem?_modify]
        rw [if_neg (fun e => hB e.symm)]
      refine ⟨_, hrun, ?_, by simpa using hc.1.1, hoth⟩
      have hlen : (c'.toList.take a.off ++ vs' ++ c'.toList.drop (a.off + vs'.length)).length = c'.size := by
        have := hv.1
        simp; omega
      refine Ev.write hs ha (by rw [hg]; simp) ?_ ?_ ?_ rfl rfl rfl
      · have hlc : (c.take a.off ++ (vs ++ c.drop (a.off + vs.length))).length = c.length := by simp; omega
        refine ⟨_, setRow_heap w i.blk c' _ e _ h1, ?_, ?_, ?_⟩
        · rw [hlc]; simp only [List.size_toArray, hlen]; exact h2
        · rw [hlc]
          exact splice_rel (by simpa using h2) h3 hv (by omega)
        · rw [hlc]
          simp only [List.size_toArray, hlen]
          exact h4
      · exact hoth
      · simp [World.setRow]
  · cases h

theorem storeVar_sound (hE : E.OK P) (hs : Sim P σ m w) {t : TypeId} {a : Addr} {i : BI} (ha : σ a.block = some i) {v v' : Value} (hv : VRel σ v v') (h : storeVar E m t a v = some m') :
    ∃ w', (Go.storeVar t ⟨i.blk, a.off, none⟩ v').run P w = .ok () w' ∧ Ev P σ m w σ m' w' ∧ a.spot = none ∧ ∀ B, B ≠ i.blk → w'.heap[B]? = w.heap[B]? := by
  unfold storeVar at h
  split at h
  · rename_i ti hti
    obtain ⟨inf, u, f⟩ := hE.tif hti
    have hc := hv.cells
    cases hsz : Nat.beq (cells v).length ti.size with
    | false => rw [hsz] at h; simp at h
    | true =>
      rw [hsz] at h
      simp only [cond_true] at h
      have he := Nat.eq_of_beq_eq_true hsz
      obtain ⟨w', h1, h2, h3⟩ := storeCells_sound hs ha hc h
      refine ⟨w', ?_, h2, h3⟩
      unfold Go.storeVar
      rw [Sem.run_bind, run_sizeOf f.info, Result.andThen_ok]
      have hl : v'.cells.size = inf.size := by rw [← f.size, ← he, hc.1]; simp
      simp [hl, h1]
  · cases h
end
end Go.D
