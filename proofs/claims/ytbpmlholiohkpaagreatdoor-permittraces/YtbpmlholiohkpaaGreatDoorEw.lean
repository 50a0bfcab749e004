/- The program logic over D, its eleventh part: the formula with its words shut: the kernel then compares it word by word, and can't lay two sides beside each other in a wrong way. -/
import Derived.Test.YtbpmlholiohkpaaGreatDoorE3
/- The program logic over D, its eleventh part: the formula with its words shut: the kernel then compares it word by word, and can't lay two sides beside each other in a wrong way. -/
namespace Go.D
open Go
structure Words where
  onS : {α : Type} → Option α → (α → Prop) → Prop
  on2 : {α β : Type} → Option (α × β) → (α → β → Prop) → Prop
  onM : M → (M → Prop) → Prop
  onC : Fn → List Value → M → (Value → M → Nat → Prop) → Prop
  un : List Value → (Value → List Value → Prop) → Prop
  jn : ((List Value → M → Nat → Prop) → Prop) → (List Value → M → Nat → Prop) → Prop
  Lp : ((List Value → M → Nat → Prop) → List Value → M → Nat → Prop) → List Value → M → Nat → Prop
/-- The plain words. -/
def plainW (E : Env) (X : CallFn) : Words := ⟨D.onS, D.on2, D.onM, D.onC E X, D.un, D.jn, D.Lp⟩
noncomputable section
variable (W : Words) (E : Env) (X : CallFn)
def vopBW (b : Builtin) (ts : List TypeId) (args : List Value) (br : Bool) (m : M) (lo : Nat) (P : Value → M → Nat → Prop) : Prop :=
  match b with
  | .len | .cap | .min | .max => W.on2 (builtin? E m b ts args) fun v _ => P v m lo
  | _ => W.on2 (builtin? E (m.wl m.n) b ts args) fun v m1 => cnd br (m.n ≤ m1.low) (P v m1 (min lo m1.low))
def vopW (o : Op) (br : Bool) (K : KT) (m : M) (lo : Nat) (P : Value → M → Nat → Prop) : Prop :=
  match o with
  | .move x | .assign x => onS (evK K x) fun x => P x m lo
  | .pick c a b => onS (evK K c) fun c => ifV c (onS (evK K a) fun a => P a m lo) (onS (evK K b) fun b => P b m lo)
  | .alloc t => onS (zero? E t) fun z => W.onM (m.push (.cells (cells z) t none)) fun m1 => P (ptrTo m.n) m1 lo
  | .box t x => onS (evK K x) fun x => W.onM (m.push (.cells (cells x) t none)) fun m1 => P (ptrTo m.n) m1 lo
  | .build t ps => onS (evPs K ps.toList) fun ps => W.onS (build? E t ps) fun v => P v m lo
  | .buildSlice t n ps => onS (evPs K ps.toList) fun ps => W.on2 (buildSlice? E m t n ps) fun v m1 => P v m1 lo
  | .load t a => onS (evK K a) fun a => W.onS (load? E m t a) fun v => P v m lo
  | .store t a x => onS (evK K a) fun a => onS (evK K x) fun x => W.on2 (store? E m t a x) fun m1 b => cnd br (m.n ≤ b) (P undef m1 (min lo b))
  | .nilCheck x => onS (evK K x) fun x => onS (nilck? x) fun v => P v m lo
  | .binOp op t x y _ => onS (evK K x) fun x => onS (evK K y) fun y => W.onS (bin? E op t x y) fun v => P v m lo
  | .unOp op _ x => onS (evK K x) fun x => W.onS (un? op x) fun v => P v m lo
  | .convert s d x => onS (evK K x) fun x => W.onS (conv? E s d x) fun v => P v m lo
  | .makeFunc f a b => onS (evKs K a.toList) fun a => onS (evKs K b.toList) fun b => match f with
    | .func f => P (.func (.func f) a.toArray b.toArray) m lo
    | _ => False
  | .makeMap _ r => match r with
    | none => W.onM (m.push (.map [] 0)) fun m1 => P (.map (some m.n)) m1 lo
    | some _ => False
  | .makeSlice t l c => onS (evK K l) fun l => onS (evK K c) fun c => W.on2 (makeSlice? E m t l c) fun v m1 => P v m1 lo
  | .slice t x a b c => onS (evK K x) fun x => onS (evO K a) fun a => onS (evO K b) fun b => onS (evO K c) fun c => W.onS (slice? E m t x a b c) fun v => P v m lo
  | .fieldAddr s x f => onS (evK K x) fun x => W.onS (fieldAddr? E s x f) fun v => P v m lo
  | .field t x f => onS (evK K x) fun x => W.onS (field? E t x f) fun v => P v m lo
  | .indexAddr t x i => onS (evK K x) fun x => onS (evK K i) fun i => W.onS (indexAddr? E t x i) fun v => P v m lo
  | .index t x i => onS (evK K x) fun x => onS (evK K i) fun i => W.onS (index? E t x i) fun v => P v m lo
  | .lookup t x i ok => onS (evK K x) fun x => onS (evK K i) fun i => W.onS (lookup? E m t x i ok) fun v => P v m lo
  | .mapUpdate t x k y => onS (evK K x) fun x => onS (evK K k) fun k => onS (evK K y) fun y => W.on2 (mapUpd? E m t x k y) fun m1 b => cnd br (m.n ≤ b) (P undef m1 (min lo b))
  | .insert t x k y => onS (evK K x) fun x => onS (evK K k) fun k => onS (evK K y) fun y => W.on2 (mapUpd? E m t x k y) fun m1 b => cnd br (m.n ≤ b) (P undef m1 (min lo b))
  | .extract x i => onS (evK K x) fun x => W.onS (extr? x i) fun v => P v m lo
  | .call c => match c.callee with
    | .value f => onS (evK K f) fun f => onFn f fun g fi ca => onS (evKs K c.args.toList) fun args => W.onC g (fi.toList ++ (args ++ ca.toList)) m fun v m1 b => cnd br (m.n ≤ b) (P v m1 (min lo b))
    | .builtin b => onS (evKs K c.args.toList) fun args => vopBW W E b c.argTypes.toList args br m lo P
    | _ => False
  | _ => False
def vopsW (d : Bool) (ops : Array Oper) : List Oper → Nat → St → (St → Prop) → Prop
  | [], _, s, P => P s
  | o :: rest, j, s, P => wantK ops s.K o
      (fun K => vopW W E o.op (d && !(barrier ops j)) K s.m s.lo fun v m lo => vopsW d ops rest (j + 1) ⟨putK K o.dst (.v v), m, lo⟩ P)
      (fun K => vopsW d ops rest (j + 1) ⟨putK K o.dst .u, s.m, s.lo⟩ P)
def bindLW : List Nat → List Value → KT → (KT → Prop) → Prop
  | [], _, K, f => f K
  | t :: ts, vs, K, f => W.un vs fun v r => bindLW ts r (K.set t (.v v)) f
def vcJW : Code → List Nat → St → (Ex → St → Prop) → Prop
  | .skip, _, s, Q => Q .normal s
  | .label _, _, s, Q => Q .normal s
  | .region _ ops d, _, s, Q => vopsW W E d ops ops.toList 0 s (Q .normal)
  | .seq a b, rd, s, Q =>
    bif parts a then
      W.jn (fun R => vcJW a (reads b ++ rd) s fun e s' => e.onN (onS (valsOf s'.K (liveOf a (reads b ++ rd))) fun vs => R vs s'.m s'.lo) (Q e s'))
        (fun vs m lo => bindLW W (liveOf a (reads b ++ rd)) vs (forget s.K (assigned a)) fun K => vcJW b rd ⟨K, m, lo⟩ Q)
    else vcJW a (reads b ++ rd) s fun e s => e.onN (vcJW b rd s Q) (Q e s)
  | .cond c x y, rd, s, Q => onS (evK s.K c) fun v => ifV v (vcJW x rd s Q) (vcJW y rd s Q)
  | .block id c, rd, s, Q => vcJW c rd s fun e s => Q (e.catch id) s
  | .exit id, _, s, Q => Q (.exit id) s
  | .ret, _, s, Q => Q .ret s
  | .loop c, rd, s, Q =>
    onS (valsOf s.K (carried s.K (assigned c) [])) fun vs => W.Lp (fun P vs m lo => bindLW W (carried s.K (assigned c) []) vs (forget s.K (assigned c)) fun K => vcJW c (carried s.K (assigned c) [] ++ rd) ⟨K, m, lo⟩ fun e s' =>
      e.onN (onS (valsOf s'.K (carried s.K (assigned c) [])) fun vs => P vs s'.m s'.lo) (Q e s')) vs s.m s.lo
  | c, _, s, Q => V E X c s Q
def vcFW (fn : Func) (args : List Value) (m : M) (R : List Value → M → Nat → Prop) : Prop :=
  match fn.body with
  | some body => vcJW W E X body (resTs fn.results.toList) ⟨enterK args 0, m, m.n⟩ (post E fn.results.toList R)
  | none => False
end
section
variable {E : Env} {X : CallFn}
theorem vopW_eq {o : Op} {br : Bool} {K : KT} {m : M} {lo : Nat} {P : Value → M → Nat → Prop} : vopW (plainW E X) E o br K m lo P = vop E X o br K m lo P := by
  cases o <;> rfl
theorem vopsW_eq {d : Bool} {ops : Array Oper} : ∀ (l : List Oper) (j : Nat) (s : St) (P : St → Prop), vopsW (plainW E X) E d ops l j s P = vops E X d ops l j s P
  | [], _, _, _ => rfl
  | o :: rest, j, s, P => by
    unfold vopsW vops
    simp only [vopW_eq, vopsW_eq rest]
theorem bindLW_eq : ∀ (ts : List Nat) (vs : List Value) (K : KT) (f : KT → Prop), bindLW (plainW E X) ts vs K f = bindL ts vs K f
  | [], _, _, _ => rfl
  | t :: ts, vs, K, f => by
    unfold bindLW bindL
    simp only [bindLW_eq ts]
    rfl
theorem vcJW_eq : ∀ (c : Code) (rd : List Nat) (s : St) (Q : Ex → St → Prop), vcJW (plainW E X) E X c rd s Q = vcJ E X c rd s Q
  | .skip, _, _, _ => rfl
  | .label _, _, _, _ => rfl
  | .exit _, _, _, _ => rfl
  | .ret, _, _, _ => rfl
  | .region id ops d, _, s, Q => vopsW_eq _ _ _ _
  | .seq a b, rd, s, Q => by
    unfold vcJW vcJ
    simp only [vcJW_eq a, vcJW_eq b, bindLW_eq]
    rfl
  | .cond c x y, rd, s, Q => by
    unfold vcJW vcJ
    simp only [vcJW_eq x, vcJW_eq y]
  | .block id c, rd, s, Q => by
    unfold vcJW vcJ
    exact vcJW_eq c _ _ _
  | .loop c, rd, s, Q => by
    unfold vcJW vcJ
    simp only [vcJW_eq c, bindLW_eq]
    rfl
  | .rangeFunc f ps a b, _, _, _ => rfl
  | .scope c, _, _, _ => rfl
  | .goto l, _, _, _ => rfl
  | .refuse y, _, _, _ => rfl
theorem vcFW_eq {fn : Func} {args : List Value} {m : M} {R : List Value → M → Nat → Prop} : vcFJ E X fn args m R = vcFW (plainW E X) E X fn args m R := by
  unfold vcFJ vcFW
  cases fn.body with
  | none => rfl
  | some b => exact (vcJW_eq b _ _ _).symm
end
end Go.D
