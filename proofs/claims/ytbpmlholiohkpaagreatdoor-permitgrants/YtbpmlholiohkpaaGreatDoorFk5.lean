/- The program logic over D, its eleventh part: the formula with its words shut: the kernel then compares it word by word, and can't lay two sides beside each other in a wrong way. What functions of the program come to, their temporaries gone, the ways meeting again (made off the translation; each proved by the kernel, word by word). -/
import Derived.Test.YtbpmlholiohkpaaGreatDoorE3
import Derived.Test.YtbpmlholiohkpaaGreatDoorTy
/- The program logic over D, its eleventh part: the formula with its words shut: the kernel then compares it word by word, and can't lay two sides beside each other in a wrong way. -/
namespace Go.D
open Go
structure Words where
  onS : {α : Type} → Option α → (α → Prop) → Prop
  on2 : {α β : Type} → Option (α × β) → (α → β → Prop) → Prop
  onM : M → (M → Prop) → Prop
  onC : Fn → List Value → M → (Value → M → Nat → Prop) → Prop
  un : List Value → (Value → List Value → Prop) → Prop
  jn : ((List Value → M → Nat → Prop) → Prop) → (List Value → M → Nat → Prop) → Prop
  Lp : ((List Value → M → Nat → Prop) → List Value → M → Nat → Prop) → List Value → M → Nat → Prop
/-- The plain words. -/
def plainW (E : Env) (X : CallFn) : Words := ⟨D.onS, D.on2, D.onM, D.onC E X, D.un, D.jn, D.Lp⟩
noncomputable section
variable (W : Words) (E : Env) (X : CallFn)
def vopBW (b : Builtin) (ts : List TypeId) (args : List Value) (br : Bool) (m : M) (lo : Nat) (P : Value → M → Nat → Prop) : Prop :=
  match b with
  | .len | .cap | .min | .max => W.on2 (builtin? E m b ts args) fun v _ => P v m lo
  | _ => W.on2 (builtin? E (m.wl m.n) b ts args) fun v m1 => cnd br (m.n ≤ m1.low) (P v m1 (min lo m1.low))
def vopW (o : Op) (br : Bool) (K : KT) (m : M) (lo : Nat) (P : Value → M → Nat → Prop) : Prop :=
  match o with
  | .move x | .assign x => onS (evK K x) fun x => P x m lo
  | .pick c a b => onS (evK K c) fun c => ifV c (onS (evK K a) fun a => P a m lo) (onS (evK K b) fun b => P b m lo)
  | .alloc t => onS (zero? E t) fun z => W.onM (m.push (.cells (cells z) t none)) fun m1 => P (ptrTo m.n) m1 lo
  | .box t x => onS (evK K x) fun x => W.onM (m.push (.cells (cells x) t none)) fun m1 => P (ptrTo m.n) m1 lo
  | .build t ps => onS (evPs K ps.toList) fun ps => W.onS (build? E t ps) fun v => P v m lo
  | .buildSlice t n ps => onS (evPs K ps.toList) fun ps => W.on2 (buildSlice? E m t n ps) fun v m1 => P v m1 lo
  | .load t a => onS (evK K a) fun a => W.onS (load? E m t a) fun v => P v m lo
  | .store t a x => onS (evK K a) fun a => onS (evK K x) fun x => W.on2 (store? E m t a x) fun m1 b => cnd br (m.n ≤ b) (P undef m1 (min lo b))
  | .nilCheck x => onS (evK K x) fun x => onS (nilck? x) fun v => P v m lo
  | .binOp op t x y _ => onS (evK K x) fun x => onS (evK K y) fun y => W.onS (bin? E op t x y) fun v => P v m lo
  | .unOp op _ x => onS (evK K x) fun x => W.onS (un? op x) fun v => P v m lo
  | .convert s d x => onS (evK K x) fun x => W.onS (conv? E s d x) fun v => P v m lo
  | .makeFunc f a b => onS (evKs K a.toList) fun a => onS (evKs K b.toList) fun b => match f with
    | .func f => P (.func (.func f) a.toArray b.toArray) m lo
    | _ => False
  | .makeMap _ r => match r with
    | none => W.onM (m.push (.map [] 0)) fun m1 => P (.map (some m.n)) m1 lo
    | some _ => False
  | .makeSlice t l c => onS (evK K l) fun l => onS (evK K c) fun c => W.on2 (makeSlice? E m t l c) fun v m1 => P v m1 lo
  | .slice t x a b c => onS (evK K x) fun x => onS (evO K a) fun a => onS (evO K b) fun b => onS (evO K c) fun c => W.onS (slice? E m t x a b c) fun v => P v m lo
  | .fieldAddr s x f => onS (evK K x) fun x => W.onS (fieldAddr? E s x f) fun v => P v m lo
  | .field t x f => onS (evK K x) fun x => W.onS (field? E t x f) fun v => P v m lo
  | .indexAddr t x i => onS (evK K x) fun x => onS (evK K i) fun i => W.onS (indexAddr? E t x i) fun v => P v m lo
  | .index t x i => onS (evK K x) fun x => onS (evK K i) fun i => W.onS (index? E t x i) fun v => P v m lo
  | .lookup t x i ok => onS (evK K x) fun x => onS (evK K i) fun i => W.onS (lookup? E m t x i ok) fun v => P v m lo
  | .mapUpdate t x k y => onS (evK K x) fun x => onS (evK K k) fun k => onS (evK K y) fun y => W.on2 (mapUpd? E m t x k y) fun m1 b => cnd br (m.n ≤ b) (P undef m1 (min lo b))
  | .insert t x k y => onS (evK K x) fun x => onS (evK K k) fun k => onS (evK K y) fun y => W.on2 (mapUpd? E m t x k y) fun m1 b => cnd br (m.n ≤ b) (P undef m1 (min lo b))
  | .extract x i => onS (evK K x) fun x => W.onS (extr? x i) fun v => P v m lo
  | .call c => match c.callee with
    | .value f => onS (evK K f) fun f => onFn f fun g fi ca => onS (evKs K c.args.toList) fun args => W.onC g (fi.toList ++ (args ++ ca.toList)) m fun v m1 b => cnd br (m.n ≤ b) (P v m1 (min lo b))
    | .builtin b => onS (evKs K c.args.toList) fun args => vopBW W E b c.argTypes.toList args br m lo P
    | _ => False
  | _ => False
def vopsW (d : Bool) (ops : Array Oper) : List Oper → Nat → St → (St → Prop) → Prop
  | [], _, s, P => P s
  | o :: rest, j, s, P => wantK ops s.K o
      (fun K => vopW W E o.op (d && !(barrier ops j)) K s.m s.lo fun v m lo => vopsW d ops rest (j + 1) ⟨putK K o.dst (.v v), m, lo⟩ P)
      (fun K => vopsW d ops rest (j + 1) ⟨putK K o.dst .u, s.m, s.lo⟩ P)
def bindLW : List Nat → List Value → KT → (KT → Prop) → Prop
  | [], _, K, f => f K
  | t :: ts, vs, K, f => W.un vs fun v r => bindLW ts r (K.set t (.v v)) f
def vcJW : Code → List Nat → St → (Ex → St → Prop) → Prop
  | .skip, _, s, Q => Q .normal s
  | .label _, _, s, Q => Q .normal s
  | .region _ ops d, _, s, Q => vopsW W E d ops ops.toList 0 s (Q .normal)
  | .seq a b, rd, s, Q =>
    bif parts a then
      W.jn (fun R => vcJW a (reads b ++ rd) s fun e s' => e.onN (onS (valsOf s'.K (liveOf a (reads b ++ rd))) fun vs => R vs s'.m s'.lo) (Q e s'))
        (fun vs m lo => bindLW W (liveOf a (reads b ++ rd)) vs (forget s.K (assigned a)) fun K => vcJW b rd ⟨K, m, lo⟩ Q)
    else vcJW a (reads b ++ rd) s fun e s => e.onN (vcJW b rd s Q) (Q e s)
  | .cond c x y, rd, s, Q => onS (evK s.K c) fun v => ifV v (vcJW x rd s Q) (vcJW y rd s Q)
  | .block id c, rd, s, Q => vcJW c rd s fun e s => Q (e.catch id) s
  | .exit id, _, s, Q => Q (.exit id) s
  | .ret, _, s, Q => Q .ret s
  | .loop c, rd, s, Q =>
    onS (valsOf s.K (carried s.K (assigned c) [])) fun vs => W.Lp (fun P vs m lo => bindLW W (carried s.K (assigned c) []) vs (forget s.K (assigned c)) fun K => vcJW c (carried s.K (assigned c) [] ++ rd) ⟨K, m, lo⟩ fun e s' =>
      e.onN (onS (valsOf s'.K (carried s.K (assigned c) [])) fun vs => P vs s'.m s'.lo) (Q e s')) vs s.m s.lo
  | c, _, s, Q => V E X c s Q
def vcFW (fn : Func) (args : List Value) (m : M) (R : List Value → M → Nat → Prop) : Prop :=
  match fn.body with
  | some body => vcJW W E X body (resTs fn.results.toList) ⟨enterK args 0, m, m.n⟩ (post E fn.results.toList R)
  | none => False
end
section
variable {E : Env} {X : CallFn}
theorem vopW_eq {o : Op} {br : Bool} {K : KT} {m : M} {lo : Nat} {P : Value → M → Nat → Prop} : vopW (plainW E X) E o br K m lo P = vop E X o br K m lo P := by
  cases o <;> rfl
theorem vopsW_eq {d : Bool} {ops : Array Oper} : ∀ (l : List Oper) (j : Nat) (s : St) (P : St → Prop), vopsW (plainW E X) E d ops l j s P = vops E X d ops l j s P
  | [], _, _, _ => rfl
  | o :: rest, j, s, P => by
    unfold vopsW vops
    simp only [vopW_eq, vopsW_eq rest]
theorem bindLW_eq : ∀ (ts : List Nat) (vs : List Value) (K : KT) (f : KT → Prop), bindLW (plainW E X) ts vs K f = bindL ts vs K f
  | [], _, _, _ => rfl
  | t :: ts, vs, K, f => by
    unfold bindLW bindL
    simp only [bindLW_eq ts]
    rfl
theorem vcJW_eq : ∀ (c : Code) (rd : List Nat) (s : St) (Q : Ex → St → Prop), vcJW (plainW E X) E X c rd s Q = vcJ E X c rd s Q
  | .skip, _, _, _ => rfl
  | .label _, _, _, _ => rfl
  | .exit _, _, _, _ => rfl
  | .ret, _, _, _ => rfl
  | .region id ops d, _, s, Q => vopsW_eq _ _ _ _
  | .seq a b, rd, s, Q => by
    unfold vcJW vcJ
    simp only [vcJW_eq a, vcJW_eq b, bindLW_eq]
    rfl
  | .cond c x y, rd, s, Q => by
    unfold vcJW vcJ
    simp only [vcJW_eq x, vcJW_eq y]
  | .block id c, rd, s, Q => by
    unfold vcJW vcJ
    exact vcJW_eq c _ _ _
  | .loop c, rd, s, Q => by
    unfold vcJW vcJ
    simp only [vcJW_eq c, bindLW_eq]
    rfl
  | .rangeFunc f ps a b, _, _, _ => rfl
  | .scope c, _, _, _ => rfl
  | .goto l, _, _, _ => rfl
  | .refuse y, _, _, _ => rfl
theorem vcFW_eq {fn : Func} {args : List Value} {m : M} {R : List Value → M → Nat → Prop} : vcFJ E X fn args m R = vcFW (plainW E X) E X fn args m R := by
  unfold vcFJ vcFW
  cases fn.body with
  | none => rfl
  | some b => exact (vcJW_eq b _ _ _).symm
end
end Go.D

/- What functions of the program come to, their temporaries gone, the ways meeting again (made off the translation; each proved by the kernel, word by word). -/
namespace Go.Proofs.YtbpmlholiohkpaaGreatDoor
open Go Go.D

/-- putlog/putloglaw32.pick -/
theorem FW19 {W : Words} {X : CallFn} {x0 x1 : Value} {m : M} {R : List Value → M → Nat → Prop} : vcFW W Tab.env X Tryz.f19 [x0, x1] m R =
(W.onS (bin? Tab.env .lss 3 x0 (.int .i64 0)) fun v1 => (ifV v1
(W.onS (bin? Tab.env .add 3 x0 (.int .i64 1)) fun v2 => (W.onS (un? .neg v2) fun v3 => (W.onS (bin? Tab.env .rem 3 v3 x1) fun v4 => (R [v4] m (M.n m)))))
(W.onS (bin? Tab.env .rem 3 x0 x1) fun v5 => (R [v5] m (M.n m))))) := by kernel_rfl
set_option maxRecDepth 100000 in
theorem FJ19 {X : CallFn} {x0 x1 : Value} {m : M} {R : List Value → M → Nat → Prop} : vcFJ Tab.env X Tryz.f19 [x0, x1] m R =
(onS (bin? Tab.env .lss 3 x0 (.int .i64 0)) fun v1 => (ifV v1
(onS (bin? Tab.env .add 3 x0 (.int .i64 1)) fun v2 => (onS (un? .neg v2) fun v3 => (onS (bin? Tab.env .rem 3 v3 x1) fun v4 => (R [v4] m (M.n m)))))
(onS (bin? Tab.env .rem 3 x0 x1) fun v5 => (R [v5] m (M.n m))))) := vcFW_eq.trans FW19

/-- putlog/putloglaw32.PermitGrants -/
theorem FW5 {W : Words} {X : CallFn} {x0 x1 x2 x3 : Value} {m : M} {R : List Value → M → Nat → Prop} : vcFW W Tab.env X Tryz.f5 [x0, x1, x2, x3] m R =
(W.onM (M.push m (.cells (cells x0) 29 none)) fun m1 => (W.onM (M.push m1 (.cells (cells x1) 30 none)) fun m2 => (W.onC (.func 8) [] m2 fun v3 m4 b5 => (W.onS (un? .not v3) fun v6 => (ifV v6
(R [(.bool false)] m4 (min (M.n m) b5))
(W.onS (load? Tab.env m4 29 (ptrTo (M.n m))) fun v7 => (W.onC (.func 9) [v7] m4 fun v8 m9 b10 => (W.onM (M.push m9 (.cells [(.slice none 0 0), (.slice none 0 0), (.slice none 0 0), (.slice none 0 0), (.slice none 0 0)] 42 none)) fun m11 => (W.on2 (store? Tab.env m11 42 (ptrTo (M.n m9)) v8) fun m12 b13 => (W.onS (load? Tab.env m12 42 (ptrTo (M.n m9))) fun v14 => (W.onS (load? Tab.env m12 30 (ptrTo (M.n m1))) fun v15 => (W.onC (.func 10) [v14, v15] m12 fun v16 m17 b18 => (W.onM (M.push m17 (.cells [(.int .i64 0), (.int .i64 0), (.int .i64 0), (.int .i64 0), (.int .i64 0)] 45 none)) fun m19 => (W.on2 (store? Tab.env m19 45 (ptrTo (M.n m17)) v16) fun m20 b21 => (W.onC (.func 19) [x3, (.int .i64 120)] m20 fun v22 m23 b24 => (W.onS (fieldAddr? Tab.env 45 (ptrTo (M.n m17)) 4) fun v25 => (W.on2 (store? Tab.env m23 3 v25 v22) fun m26 b27 => (W.onS (fieldAddr? Tab.env 42 (ptrTo (M.n m9)) 1) fun v28 => (W.onS (load? Tab.env m26 39 v28) fun v29 => (W.onS (fieldAddr? Tab.env 42 (ptrTo (M.n m9)) 2) fun v30 => (W.onS (load? Tab.env m26 40 v30) fun v31 => (W.onS (build? Tab.env 42 [(1, v29), (2, v31)]) fun v32 => (W.onM (M.push m26 (.cells [(.slice none 0 0), (.slice none 0 0), (.slice none 0 0), (.slice none 0 0), (.slice none 0 0)] 42 none)) fun m33 => (W.on2 (store? Tab.env m33 42 (ptrTo (M.n m26)) v32) fun m34 b35 => (W.onS (load? Tab.env m34 42 (ptrTo (M.n m26))) fun v36 => (W.onS (load? Tab.env m34 45 (ptrTo (M.n m17))) fun v37 => (W.onC (.func 11) [v36, v37] m34 fun v38 m39 b40 => (W.onS (extr? v38 0) fun v41 => (W.onS (extr? v38 1) fun v42 => (W.onM (M.push m39 (.cells [(.bool false), (.bool false), (.slice none 0 0), (.int .i64 0), (.int .i64 0)] 49 none)) fun m43 => (W.on2 (store? Tab.env m43 49 (ptrTo (M.n m39)) v41) fun m44 b45 => (W.Lp (fun P46 vs47 m48 lo49 => W.un vs47 fun v50 r51 => W.un r51 fun v52 r53 => (W.onS (fieldAddr? Tab.env 42 (ptrTo (M.n m9)) 1) fun v54 => (W.onS (load? Tab.env m48 39 v54) fun v55 => (W.on2 (builtin? Tab.env m48 .len [39] [v55]) fun v56 _ => (W.onS (bin? Tab.env .lss 3 v52 v56) fun v58 => (ifV v58
(W.onS (fieldAddr? Tab.env 42 (ptrTo (M.n m9)) 1) fun v59 => (W.onS (load? Tab.env m48 39 v59) fun v60 => (W.onS (indexAddr? Tab.env 39 v60 v52) fun v61 => (W.onS (load? Tab.env m48 69 v61) fun v62 => (W.onM (M.push m48 (.cells [(.int .i64 0), (.int .i64 0), (.int .i64 0), (.int .i64 0), (.int .i64 0), (.int .i64 0)] 69 none)) fun m63 => (W.on2 (store? Tab.env m63 69 (ptrTo (M.n m48)) v62) fun m64 b65 => (ifV v50
(W.onS (bin? Tab.env .add 3 v52 (.int .i64 1)) fun v66 => (P46 [(.bool true), v66] m64 (min lo49 b65)))
(W.onS (fieldAddr? Tab.env 69 (ptrTo (M.n m48)) 0) fun v67 => (W.onS (load? Tab.env m64 3 v67) fun v68 => (W.onS (fieldAddr? Tab.env 45 (ptrTo (M.n m17)) 1) fun v69 => (W.onS (load? Tab.env m64 3 v69) fun v70 => (W.onS (bin? Tab.env .eql 3 v68 v70) fun v71 => (ifV v71
(W.onS (fieldAddr? Tab.env 69 (ptrTo (M.n m48)) 1) fun v72 => (W.onS (load? Tab.env m64 3 v72) fun v73 => (W.onS (fieldAddr? Tab.env 45 (ptrTo (M.n m17)) 2) fun v74 => (W.onS (load? Tab.env m64 3 v74) fun v75 => (W.onS (bin? Tab.env .eql 3 v73 v75) fun v76 => (ifV v76
(W.onS (fieldAddr? Tab.env 69 (ptrTo (M.n m48)) 2) fun v77 => (W.onS (fieldAddr? Tab.env 62 v77 0) fun v78 => (W.onS (load? Tab.env m64 3 v78) fun v79 => (W.onS (fieldAddr? Tab.env 45 (ptrTo (M.n m17)) 3) fun v80 => (W.onS (load? Tab.env m64 3 v80) fun v81 => (W.onS (bin? Tab.env .leq 3 v79 v81) fun v82 => (ifV v82
(W.onS (fieldAddr? Tab.env 45 (ptrTo (M.n m17)) 3) fun v83 => (W.onS (load? Tab.env m64 3 v83) fun v84 => (W.onS (fieldAddr? Tab.env 69 (ptrTo (M.n m48)) 2) fun v85 => (W.onS (fieldAddr? Tab.env 62 v85 1) fun v86 => (W.onS (load? Tab.env m64 3 v86) fun v87 => (W.onS (bin? Tab.env .lss 3 v84 v87) fun v88 => (ifV v88
(W.onS (fieldAddr? Tab.env 69 (ptrTo (M.n m48)) 3) fun v89 => (W.onS (fieldAddr? Tab.env 62 v89 0) fun v90 => (W.onS (load? Tab.env m64 3 v90) fun v91 => (W.onS (fieldAddr? Tab.env 45 (ptrTo (M.n m17)) 4) fun v92 => (W.onS (load? Tab.env m64 3 v92) fun v93 => (W.onS (bin? Tab.env .leq 3 v91 v93) fun v94 => (ifV v94
(W.onS (fieldAddr? Tab.env 45 (ptrTo (M.n m17)) 4) fun v95 => (W.onS (load? Tab.env m64 3 v95) fun v96 => (W.onS (fieldAddr? Tab.env 69 (ptrTo (M.n m48)) 3) fun v97 => (W.onS (fieldAddr? Tab.env 62 v97 1) fun v98 => (W.onS (load? Tab.env m64 3 v98) fun v99 => (W.onS (bin? Tab.env .lss 3 v96 v99) fun v100 => (W.onS (bin? Tab.env .add 3 v52 (.int .i64 1)) fun v101 => (P46 [v100, v101] m64 (min lo49 b65)))))))))
(W.onS (bin? Tab.env .add 3 v52 (.int .i64 1)) fun v102 => (P46 [(.bool false), v102] m64 (min lo49 b65))))))))))
(W.onS (bin? Tab.env .add 3 v52 (.int .i64 1)) fun v103 => (P46 [(.bool false), v103] m64 (min lo49 b65))))))))))
(W.onS (bin? Tab.env .add 3 v52 (.int .i64 1)) fun v104 => (P46 [(.bool false), v104] m64 (min lo49 b65))))))))))
(W.onS (bin? Tab.env .add 3 v52 (.int .i64 1)) fun v105 => (P46 [(.bool false), v105] m64 (min lo49 b65)))))))))
(W.onS (bin? Tab.env .add 3 v52 (.int .i64 1)) fun v106 => (P46 [(.bool false), v106] m64 (min lo49 b65))))))))))))))))
(W.jn (fun R107 => (W.onS (bin? Tab.env .neq 50 v42 (.int .i64 0)) fun v111 => (ifV v111
(R107 [(.bool true)] m48 lo49)
(W.onS (fieldAddr? Tab.env 49 (ptrTo (M.n m39)) 1) fun v112 => (W.onS (load? Tab.env m48 4 v112) fun v113 => (ifV v113
(R107 [(.bool true)] m48 lo49)
(W.onS (fieldAddr? Tab.env 49 (ptrTo (M.n m39)) 0) fun v114 => (W.onS (load? Tab.env m48 4 v114) fun v115 => (W.onS (bin? Tab.env .neq 4 v115 v50) fun v116 => (R107 [v116] m48 lo49))))))))))
(fun vs108 m109 lo110 => W.un vs108 fun v117 r118 => (ifV v117
(R [(.bool false)] m109 lo110)
(W.onS (fieldAddr? Tab.env 42 (ptrTo (M.n m9)) 2) fun v119 => (W.onS (load? Tab.env m109 40 v119) fun v120 => (W.on2 (builtin? Tab.env m109 .len [40] [v120]) fun v121 _ => (W.onS (bin? Tab.env .eql 3 v121 (.int .i64 0)) fun v123 => (ifV v123
(R [v3] m109 lo110)
(W.onS (fieldAddr? Tab.env 42 (ptrTo (M.n m9)) 2) fun v124 => (W.onS (load? Tab.env m109 40 v124) fun v125 => (W.onS (fieldAddr? Tab.env 42 (ptrTo (M.n m9)) 2) fun v126 => (W.onS (load? Tab.env m109 40 v126) fun v127 => (W.on2 (builtin? Tab.env m109 .len [40] [v127]) fun v128 _ => (W.onC (.func 19) [x2, v128] m109 fun v130 m131 b132 => ((M.n m109 ≤ b132) ∧ (W.onS (indexAddr? Tab.env 40 v125 v130) fun v133 => (W.onS (load? Tab.env m131 71 v133) fun v134 => (W.onM (M.push m131 (.cells [(.int .i64 0), (.int .i64 0), (.int .i64 0), (.int .i64 0), (.int .i64 0), (.int .i64 0), (.int .i64 0)] 71 none)) fun m135 => (W.on2 (store? Tab.env m135 71 (ptrTo (M.n m131)) v134) fun m136 b137 => (W.onS (fieldAddr? Tab.env 42 (ptrTo (M.n m9)) 0) fun v138 => (W.onS (load? Tab.env m136 38 v138) fun v139 => (W.onS (fieldAddr? Tab.env 42 (ptrTo (M.n m9)) 1) fun v140 => (W.onS (load? Tab.env m136 39 v140) fun v141 => (W.onS (load? Tab.env m136 71 (ptrTo (M.n m131))) fun v142 => (W.on2 (buildSlice? Tab.env m136 40 1 [(0, v142)]) fun v143 m144 => (W.onS (build? Tab.env 42 [(0, v139), (1, v141), (2, v143)]) fun v145 => (W.onM (M.push m144 (.cells [(.slice none 0 0), (.slice none 0 0), (.slice none 0 0), (.slice none 0 0), (.slice none 0 0)] 42 none)) fun m146 => (W.on2 (store? Tab.env m146 42 (ptrTo (M.n m144)) v145) fun m147 b148 => (W.onS (load? Tab.env m147 42 (ptrTo (M.n m144))) fun v149 => (W.onS (fieldAddr? Tab.env 71 (ptrTo (M.n m131)) 1) fun v150 => (W.onS (load? Tab.env m147 3 v150) fun v151 => (W.onS (fieldAddr? Tab.env 71 (ptrTo (M.n m131)) 0) fun v152 => (W.onS (load? Tab.env m147 3 v152) fun v153 => (W.onS (fieldAddr? Tab.env 71 (ptrTo (M.n m131)) 2) fun v154 => (W.onS (load? Tab.env m147 3 v154) fun v155 => (W.onS (fieldAddr? Tab.env 71 (ptrTo (M.n m131)) 3) fun v156 => (W.onS (fieldAddr? Tab.env 62 v156 0) fun v157 => (W.onS (load? Tab.env m147 3 v157) fun v158 => (W.onS (fieldAddr? Tab.env 71 (ptrTo (M.n m131)) 3) fun v159 => (W.onS (fieldAddr? Tab.env 62 v159 1) fun v160 => (W.onS (load? Tab.env m147 3 v160) fun v161 => (W.onS (bin? Tab.env .sub 3 v161 (.int .i64 1)) fun v162 => (W.onS (fieldAddr? Tab.env 71 (ptrTo (M.n m131)) 3) fun v163 => (W.onS (fieldAddr? Tab.env 62 v163 0) fun v164 => (W.onS (load? Tab.env m147 3 v164) fun v165 => (W.onS (bin? Tab.env .sub 3 v162 v165) fun v166 => (W.onS (bin? Tab.env .quo 3 v166 (.int .i64 2)) fun v167 => (W.onS (bin? Tab.env .add 3 v158 v167) fun v168 => (W.onS (fieldAddr? Tab.env 45 (ptrTo (M.n m17)) 4) fun v169 => (W.onS (load? Tab.env m147 3 v169) fun v170 => (W.onS (build? Tab.env 45 [(0, v151), (1, v153), (2, v155), (3, v168), (4, v170)]) fun v171 => (W.onC (.func 11) [v149, v171] m147 fun v172 m173 b174 => (W.onS (extr? v172 0) fun v175 => (W.onS (extr? v172 1) fun v176 => (W.onM (M.push m173 (.cells [(.bool false), (.bool false), (.slice none 0 0), (.int .i64 0), (.int .i64 0)] 49 none)) fun m177 => (W.on2 (store? Tab.env m177 49 (ptrTo (M.n m173)) v175) fun m178 b179 => (W.onS (load? Tab.env m178 42 (ptrTo (M.n m144))) fun v180 => (W.onS (fieldAddr? Tab.env 71 (ptrTo (M.n m131)) 1) fun v181 => (W.onS (load? Tab.env m178 3 v181) fun v182 => (W.onS (fieldAddr? Tab.env 71 (ptrTo (M.n m131)) 0) fun v183 => (W.onS (load? Tab.env m178 3 v183) fun v184 => (W.onS (fieldAddr? Tab.env 71 (ptrTo (M.n m131)) 2) fun v185 => (W.onS (load? Tab.env m178 3 v185) fun v186 => (W.onS (fieldAddr? Tab.env 71 (ptrTo (M.n m131)) 3) fun v187 => (W.onS (fieldAddr? Tab.env 62 v187 1) fun v188 => (W.onS (load? Tab.env m178 3 v188) fun v189 => (W.onS (fieldAddr? Tab.env 71 (ptrTo (M.n m131)) 4) fun v190 => (W.onS (fieldAddr? Tab.env 62 v190 0) fun v191 => (W.onS (load? Tab.env m178 3 v191) fun v192 => (W.onS (build? Tab.env 45 [(0, v182), (1, v184), (2, v186), (3, v189), (4, v192)]) fun v193 => (W.onC (.func 11) [v180, v193] m178 fun v194 m195 b196 => (W.onS (extr? v194 0) fun v197 => (W.onS (extr? v194 1) fun v198 => (W.onM (M.push m195 (.cells [(.bool false), (.bool false), (.slice none 0 0), (.int .i64 0), (.int .i64 0)] 49 none)) fun m199 => (W.on2 (store? Tab.env m199 49 (ptrTo (M.n m195)) v197) fun m200 b201 => (W.jn (fun R202 => (W.onS (bin? Tab.env .eql 50 v176 (.int .i64 0)) fun v206 => (ifV v206
(W.onS (bin? Tab.env .eql 50 v198 (.int .i64 0)) fun v207 => (ifV v207
(W.onS (fieldAddr? Tab.env 49 (ptrTo (M.n m173)) 4) fun v208 => (W.onS (load? Tab.env m200 3 v208) fun v209 => (W.onS (bin? Tab.env .eql 3 v209 (.int .i64 0)) fun v210 => (W.onS (fieldAddr? Tab.env 71 (ptrTo (M.n m131)) 4) fun v211 => (W.onS (fieldAddr? Tab.env 62 v211 0) fun v212 => (W.onS (load? Tab.env m200 3 v212) fun v213 => (W.onS (fieldAddr? Tab.env 45 (ptrTo (M.n m17)) 4) fun v214 => (W.onS (load? Tab.env m200 3 v214) fun v215 => (W.onS (bin? Tab.env .leq 3 v213 v215) fun v216 => (ifV v216
(W.onS (fieldAddr? Tab.env 45 (ptrTo (M.n m17)) 4) fun v217 => (W.onS (load? Tab.env m200 3 v217) fun v218 => (W.onS (fieldAddr? Tab.env 71 (ptrTo (M.n m131)) 4) fun v219 => (W.onS (fieldAddr? Tab.env 62 v219 1) fun v220 => (W.onS (load? Tab.env m200 3 v220) fun v221 => (W.onS (bin? Tab.env .lss 3 v218 v221) fun v222 => (W.onS (bin? Tab.env .eql 4 v210 v222) fun v223 => (ifV v223
(W.onS (fieldAddr? Tab.env 49 (ptrTo (M.n m173)) 4) fun v224 => (W.onS (load? Tab.env m200 3 v224) fun v225 => (W.onS (bin? Tab.env .eql 3 v225 (.int .i64 (-1))) fun v226 => (W.onS (fieldAddr? Tab.env 49 (ptrTo (M.n m173)) 4) fun v227 => (W.onS (load? Tab.env m200 3 v227) fun v228 => (W.onS (bin? Tab.env .neq 3 v228 (.int .i64 0)) fun v229 => (W.onS (bin? Tab.env .eql 4 v226 v229) fun v230 => (ifV v230
(W.onS (fieldAddr? Tab.env 49 (ptrTo (M.n m195)) 4) fun v231 => (W.onS (load? Tab.env m200 3 v231) fun v232 => (W.onS (bin? Tab.env .eql 3 v232 (.int .i64 (-1))) fun v233 => (R202 [v233] m200 (min (min (min (min (min (min (min lo110 b132) b137) b148) b174) b179) b196) b201)))))
(R202 [(.bool false)] m200 (min (min (min (min (min (min (min lo110 b132) b137) b148) b174) b179) b196) b201))))))))))
(R202 [(.bool false)] m200 (min (min (min (min (min (min (min lo110 b132) b137) b148) b174) b179) b196) b201))))))))))
(W.onS (bin? Tab.env .eql 4 v210 (.bool false)) fun v234 => (ifV v234
(W.onS (fieldAddr? Tab.env 49 (ptrTo (M.n m173)) 4) fun v235 => (W.onS (load? Tab.env m200 3 v235) fun v236 => (W.onS (bin? Tab.env .eql 3 v236 (.int .i64 (-1))) fun v237 => (W.onS (fieldAddr? Tab.env 49 (ptrTo (M.n m173)) 4) fun v238 => (W.onS (load? Tab.env m200 3 v238) fun v239 => (W.onS (bin? Tab.env .neq 3 v239 (.int .i64 0)) fun v240 => (W.onS (bin? Tab.env .eql 4 v237 v240) fun v241 => (ifV v241
(W.onS (fieldAddr? Tab.env 49 (ptrTo (M.n m195)) 4) fun v242 => (W.onS (load? Tab.env m200 3 v242) fun v243 => (W.onS (bin? Tab.env .eql 3 v243 (.int .i64 (-1))) fun v244 => (R202 [v244] m200 (min (min (min (min (min (min (min lo110 b132) b137) b148) b174) b179) b196) b201)))))
(R202 [(.bool false)] m200 (min (min (min (min (min (min (min lo110 b132) b137) b148) b174) b179) b196) b201))))))))))
(R202 [(.bool false)] m200 (min (min (min (min (min (min (min lo110 b132) b137) b148) b174) b179) b196) b201))))))))))))))
(R202 [(.bool false)] m200 (min (min (min (min (min (min (min lo110 b132) b137) b148) b174) b179) b196) b201))))
(R202 [(.bool false)] m200 (min (min (min (min (min (min (min lo110 b132) b137) b148) b174) b179) b196) b201)))))
(fun vs203 m204 lo205 => W.un vs203 fun v245 r246 => (R [v245] m204 lo205)))))))))))))))))))))))))))))))))))))))))))))))))))))))))))))))))))))))))))))))))))) [(.bool false), (.int .i64 0)] m44 (min (min (min (min (min (min (min (min (min (min (M.n m) b5) b10) b13) b18) b21) b24) b27) b35) b40) b45))))))))))))))))))))))))))))))))) := by kernel_rfl
set_option maxRecDepth 100000 in
theorem FJ5 {X : CallFn} {x0 x1 x2 x3 : Value} {m : M} {R : List Value → M → Nat → Prop} : vcFJ Tab.env X Tryz.f5 [x0, x1, x2, x3] m R =
(onM (M.push m (.cells (cells x0) 29 none)) fun m1 => (onM (M.push m1 (.cells (cells x1) 30 none)) fun m2 => (onC Tab.env X (.func 8) [] m2 fun v3 m4 b5 => (onS (un? .not v3) fun v6 => (ifV v6
(R [(.bool false)] m4 (min (M.n m) b5))
(onS (load? Tab.env m4 29 (ptrTo (M.n m))) fun v7 => (onC Tab.env X (.func 9) [v7] m4 fun v8 m9 b10 => (onM (M.push m9 (.cells [(.slice none 0 0), (.slice none 0 0), (.slice none 0 0), (.slice none 0 0), (.slice none 0 0)] 42 none)) fun m11 => (on2 (store? Tab.env m11 42 (ptrTo (M.n m9)) v8) fun m12 b13 => (onS (load? Tab.env m12 42 (ptrTo (M.n m9))) fun v14 => (onS (load? Tab.env m12 30 (ptrTo (M.n m1))) fun v15 => (onC Tab.env X (.func 10) [v14, v15] m12 fun v16 m17 b18 => (onM (M.push m17 (.cells [(.int .i64 0), (.int .i64 0), (.int .i64 0), (.int .i64 0), (.int .i64 0)] 45 none)) fun m19 => (on2 (store? Tab.env m19 45 (ptrTo (M.n m17)) v16) fun m20 b21 => (onC Tab.env X (.func 19) [x3, (.int .i64 120)] m20 fun v22 m23 b24 => (onS (fieldAddr? Tab.env 45 (ptrTo (M.n m17)) 4) fun v25 => (on2 (store? Tab.env m23 3 v25 v22) fun m26 b27 => (onS (fieldAddr? Tab.env 42 (ptrTo (M.n m9)) 1) fun v28 => (onS (load? Tab.env m26 39 v28) fun v29 => (onS (fieldAddr? Tab.env 42 (ptrTo (M.n m9)) 2) fun v30 => (onS (load? Tab.env m26 40 v30) fun v31 => (onS (build? Tab.env 42 [(1, v29), (2, v31)]) fun v32 => (onM (M.push m26 (.cells [(.slice none 0 0), (.slice none 0 0), (.slice none 0 0), (.slice none 0 0), (.slice none 0 0)] 42 none)) fun m33 => (on2 (store? Tab.env m33 42 (ptrTo (M.n m26)) v32) fun m34 b35 => (onS (load? Tab.env m34 42 (ptrTo (M.n m26))) fun v36 => (onS (load? Tab.env m34 45 (ptrTo (M.n m17))) fun v37 => (onC Tab.env X (.func 11) [v36, v37] m34 fun v38 m39 b40 => (onS (extr? v38 0) fun v41 => (onS (extr? v38 1) fun v42 => (onM (M.push m39 (.cells [(.bool false), (.bool false), (.slice none 0 0), (.int .i64 0), (.int .i64 0)] 49 none)) fun m43 => (on2 (store? Tab.env m43 49 (ptrTo (M.n m39)) v41) fun m44 b45 => (Lp (fun P46 vs47 m48 lo49 => un vs47 fun v50 r51 => un r51 fun v52 r53 => (onS (fieldAddr? Tab.env 42 (ptrTo (M.n m9)) 1) fun v54 => (onS (load? Tab.env m48 39 v54) fun v55 => (on2 (builtin? Tab.env m48 .len [39] [v55]) fun v56 _ => (onS (bin? Tab.env .lss 3 v52 v56) fun v58 => (ifV v58
(onS (fieldAddr? Tab.env 42 (ptrTo (M.n m9)) 1) fun v59 => (onS (load? Tab.env m48 39 v59) fun v60 => (onS (indexAddr? Tab.env 39 v60 v52) fun v61 => (onS (load? Tab.env m48 69 v61) fun v62 => (onM (M.push m48 (.cells [(.int .i64 0), (.int .i64 0), (.int .i64 0), (.int .i64 0), (.int .i64 0), (.int .i64 0)] 69 none)) fun m63 => (on2 (store? Tab.env m63 69 (ptrTo (M.n m48)) v62) fun m64 b65 => (ifV v50
(onS (bin? Tab.env .add 3 v52 (.int .i64 1)) fun v66 => (P46 [(.bool true), v66] m64 (min lo49 b65)))
(onS (fieldAddr? Tab.env 69 (ptrTo (M.n m48)) 0) fun v67 => (onS (load? Tab.env m64 3 v67) fun v68 => (onS (fieldAddr? Tab.env 45 (ptrTo (M.n m17)) 1) fun v69 => (onS (load? Tab.env m64 3 v69) fun v70 => (onS (bin? Tab.env .eql 3 v68 v70) fun v71 => (ifV v71
(onS (fieldAddr? Tab.env 69 (ptrTo (M.n m48)) 1) fun v72 => (onS (load? Tab.env m64 3 v72) fun v73 => (onS (fieldAddr? Tab.env 45 (ptrTo (M.n m17)) 2) fun v74 => (onS (load? Tab.env m64 3 v74) fun v75 => (onS (bin? Tab.env .eql 3 v73 v75) fun v76 => (ifV v76
(onS (fieldAddr? Tab.env 69 (ptrTo (M.n m48)) 2) fun v77 => (onS (fieldAddr? Tab.env 62 v77 0) fun v78 => (onS (load? Tab.env m64 3 v78) fun v79 => (onS (fieldAddr? Tab.env 45 (ptrTo (M.n m17)) 3) fun v80 => (onS (load? Tab.env m64 3 v80) fun v81 => (onS (bin? Tab.env .leq 3 v79 v81) fun v82 => (ifV v82
(onS (fieldAddr? Tab.env 45 (ptrTo (M.n m17)) 3) fun v83 => (onS (load? Tab.env m64 3 v83) fun v84 => (onS (fieldAddr? Tab.env 69 (ptrTo (M.n m48)) 2) fun v85 => (onS (fieldAddr? Tab.env 62 v85 1) fun v86 => (onS (load? Tab.env m64 3 v86) fun v87 => (onS (bin? Tab.env .lss 3 v84 v87) fun v88 => (ifV v88
(onS (fieldAddr? Tab.env 69 (ptrTo (M.n m48)) 3) fun v89 => (onS (fieldAddr? Tab.env 62 v89 0) fun v90 => (onS (load? Tab.env m64 3 v90) fun v91 => (onS (fieldAddr? Tab.env 45 (ptrTo (M.n m17)) 4) fun v92 => (onS (load? Tab.env m64 3 v92) fun v93 => (onS (bin? Tab.env .leq 3 v91 v93) fun v94 => (ifV v94
(onS (fieldAddr? Tab.env 45 (ptrTo (M.n m17)) 4) fun v95 => (onS (load? Tab.env m64 3 v95) fun v96 => (onS (fieldAddr? Tab.env 69 (ptrTo (M.n m48)) 3) fun v97 => (onS (fieldAddr? Tab.env 62 v97 1) fun v98 => (onS (load? Tab.env m64 3 v98) fun v99 => (onS (bin? Tab.env .lss 3 v96 v99) fun v100 => (onS (bin? Tab.env .add 3 v52 (.int .i64 1)) fun v101 => (P46 [v100, v101] m64 (min lo49 b65)))))))))
(onS (bin? Tab.env .add 3 v52 (.int .i64 1)) fun v102 => (P46 [(.bool false), v102] m64 (min lo49 b65))))))))))
(onS (bin? Tab.env .add 3 v52 (.int .i64 1)) fun v103 => (P46 [(.bool false), v103] m64 (min lo49 b65))))))))))
(onS (bin? Tab.env .add 3 v52 (.int .i64 1)) fun v104 => (P46 [(.bool false), v104] m64 (min lo49 b65))))))))))
(onS (bin? Tab.env .add 3 v52 (.int .i64 1)) fun v105 => (P46 [(.bool false), v105] m64 (min lo49 b65)))))))))
(onS (bin? Tab.env .add 3 v52 (.int .i64 1)) fun v106 => (P46 [(.bool false), v106] m64 (min lo49 b65))))))))))))))))
(jn (fun R107 => (onS (bin? Tab.env .neq 50 v42 (.int .i64 0)) fun v111 => (ifV v111
(R107 [(.bool true)] m48 lo49)
(onS (fieldAddr? Tab.env 49 (ptrTo (M.n m39)) 1) fun v112 => (onS (load? Tab.env m48 4 v112) fun v113 => (ifV v113
(R107 [(.bool true)] m48 lo49)
(onS (fieldAddr? Tab.env 49 (ptrTo (M.n m39)) 0) fun v114 => (onS (load? Tab.env m48 4 v114) fun v115 => (onS (bin? Tab.env .neq 4 v115 v50) fun v116 => (R107 [v116] m48 lo49))))))))))
(fun vs108 m109 lo110 => un vs108 fun v117 r118 => (ifV v117
(R [(.bool false)] m109 lo110)
(onS (fieldAddr? Tab.env 42 (ptrTo (M.n m9)) 2) fun v119 => (onS (load? Tab.env m109 40 v119) fun v120 => (on2 (builtin? Tab.env m109 .len [40] [v120]) fun v121 _ => (onS (bin? Tab.env .eql 3 v121 (.int .i64 0)) fun v123 => (ifV v123
(R [v3] m109 lo110)
(onS (fieldAddr? Tab.env 42 (ptrTo (M.n m9)) 2) fun v124 => (onS (load? Tab.env m109 40 v124) fun v125 => (onS (fieldAddr? Tab.env 42 (ptrTo (M.n m9)) 2) fun v126 => (onS (load? Tab.env m109 40 v126) fun v127 => (on2 (builtin? Tab.env m109 .len [40] [v127]) fun v128 _ => (onC Tab.env X (.func 19) [x2, v128] m109 fun v130 m131 b132 => ((M.n m109 ≤ b132) ∧ (onS (indexAddr? Tab.env 40 v125 v130) fun v133 => (onS (load? Tab.env m131 71 v133) fun v134 => (onM (M.push m131 (.cells [(.int .i64 0), (.int .i64 0), (.int .i64 0), (.int .i64 0), (.int .i64 0), (.int .i64 0), (.int .i64 0)] 71 none)) fun m135 => (on2 (store? Tab.env m135 71 (ptrTo (M.n m131)) v134) fun m136 b137 => (onS (fieldAddr? Tab.env 42 (ptrTo (M.n m9)) 0) fun v138 => (onS (load? Tab.env m136 38 v138) fun v139 => (onS (fieldAddr? Tab.env 42 (ptrTo (M.n m9)) 1) fun v140 => (onS (load? Tab.env m136 39 v140) fun v141 => (onS (load? Tab.env m136 71 (ptrTo (M.n m131))) fun v142 => (on2 (buildSlice? Tab.env m136 40 1 [(0, v142)]) fun v143 m144 => (onS (build? Tab.env 42 [(0, v139), (1, v141), (2, v143)]) fun v145 => (onM (M.push m144 (.cells [(.slice none 0 0), (.slice none 0 0), (.slice none 0 0), (.slice none 0 0), (.slice none 0 0)] 42 none)) fun m146 => (on2 (store? Tab.env m146 42 (ptrTo (M.n m144)) v145) fun m147 b148 => (onS (load? Tab.env m147 42 (ptrTo (M.n m144))) fun v149 => (onS (fieldAddr? Tab.env 71 (ptrTo (M.n m131)) 1) fun v150 => (onS (load? Tab.env m147 3 v150) fun v151 => (onS (fieldAddr? Tab.env 71 (ptrTo (M.n m131)) 0) fun v152 => (onS (load? Tab.env m147 3 v152) fun v153 => (onS (fieldAddr? Tab.env 71 (ptrTo (M.n m131)) 2) fun v154 => (onS (load? Tab.env m147 3 v154) fun v155 => (onS (fieldAddr? Tab.env 71 (ptrTo (M.n m131)) 3) fun v156 => (onS (fieldAddr? Tab.env 62 v156 0) fun v157 => (onS (load? Tab.env m147 3 v157) fun v158 => (onS (fieldAddr? Tab.env 71 (ptrTo (M.n m131)) 3) fun v159 => (onS (fieldAddr? Tab.env 62 v159 1) fun v160 => (onS (load? Tab.env m147 3 v160) fun v161 => (onS (bin? Tab.env .sub 3 v161 (.int .i64 1)) fun v162 => (onS (fieldAddr? Tab.env 71 (ptrTo (M.n m131)) 3) fun v163 => (onS (fieldAddr? Tab.env 62 v163 0) fun v164 => (onS (load? Tab.env m147 3 v164) fun v165 => (onS (bin? Tab.env .sub 3 v162 v165) fun v166 => (onS (bin? Tab.env .quo 3 v166 (.int .i64 2)) fun v167 => (onS (bin? Tab.env .add 3 v158 v167) fun v168 => (onS (fieldAddr? Tab.env 45 (ptrTo (M.n m17)) 4) fun v169 => (onS (load? Tab.env m147 3 v169) fun v170 => (onS (build? Tab.env 45 [(0, v151), (1, v153), (2, v155), (3, v168), (4, v170)]) fun v171 => (onC Tab.env X (.func 11) [v149, v171] m147 fun v172 m173 b174 => (onS (extr? v172 0) fun v175 => (onS (extr? v172 1) fun v176 => (onM (M.push m173 (.cells [(.bool false), (.bool false), (.slice none 0 0), (.int .i64 0), (.int .i64 0)] 49 none)) fun m177 => (on2 (store? Tab.env m177 49 (ptrTo (M.n m173)) v175) fun m178 b179 => (onS (load? Tab.env m178 42 (ptrTo (M.n m144))) fun v180 => (onS (fieldAddr? Tab.env 71 (ptrTo (M.n m131)) 1) fun v181 => (onS (load? Tab.env m178 3 v181) fun v182 => (onS (fieldAddr? Tab.env 71 (ptrTo (M.n m131)) 0) fun v183 => (onS (load? Tab.env m178 3 v183) fun v184 => (onS (fieldAddr? Tab.env 71 (ptrTo (M.n m131)) 2) fun v185 => (onS (load? Tab.env m178 3 v185) fun v186 => (onS (fieldAddr? Tab.env 71 (ptrTo (M.n m131)) 3) fun v187 => (onS (fieldAddr? Tab.env 62 v187 1) fun v188 => (onS (load? Tab.env m178 3 v188) fun v189 => (onS (fieldAddr? Tab.env 71 (ptrTo (M.n m131)) 4) fun v190 => (onS (fieldAddr? Tab.env 62 v190 0) fun v191 => (onS (load? Tab.env m178 3 v191) fun v192 => (onS (build? Tab.env 45 [(0, v182), (1, v184), (2, v186), (3, v189), (4, v192)]) fun v193 => (onC Tab.env X (.func 11) [v180, v193] m178 fun v194 m195 b196 => (onS (extr? v194 0) fun v197 => (onS (extr? v194 1) fun v198 => (onM (M.push m195 (.cells [(.bool false), (.bool false), (.slice none 0 0), (.int .i64 0), (.int .i64 0)] 49 none)) fun m199 => (on2 (store? Tab.env m199 49 (ptrTo (M.n m195)) v197) fun m200 b201 => (jn (fun R202 => (onS (bin? Tab.env .eql 50 v176 (.int .i64 0)) fun v206 => (ifV v206
(onS (bin? Tab.env .eql 50 v198 (.int .i64 0)) fun v207 => (ifV v207
(onS (fieldAddr? Tab.env 49 (ptrTo (M.n m173)) 4) fun v208 => (onS (load? Tab.env m200 3 v208) fun v209 => (onS (bin? Tab.env .eql 3 v209 (.int .i64 0)) fun v210 => (onS (fieldAddr? Tab.env 71 (ptrTo (M.n m131)) 4) fun v211 => (onS (fieldAddr? Tab.env 62 v211 0) fun v212 => (onS (load? Tab.env m200 3 v212) fun v213 => (onS (fieldAddr? Tab.env 45 (ptrTo (M.n m17)) 4) fun v214 => (onS (load? Tab.env m200 3 v214) fun v215 => (onS (bin? Tab.env .leq 3 v213 v215) fun v216 => (ifV v216
(onS (fieldAddr? Tab.env 45 (ptrTo (M.n m17)) 4) fun v217 => (onS (load? Tab.env m200 3 v217) fun v218 => (onS (fieldAddr? Tab.env 71 (ptrTo (M.n m131)) 4) fun v219 => (onS (fieldAddr? Tab.env 62 v219 1) fun v220 => (onS (load? Tab.env m200 3 v220) fun v221 => (onS (bin? Tab.env .lss 3 v218 v221) fun v222 => (onS (bin? Tab.env .eql 4 v210 v222) fun v223 => (ifV v223
(onS (fieldAddr? Tab.env 49 (ptrTo (M.n m173)) 4) fun v224 => (onS (load? Tab.env m200 3 v224) fun v225 => (onS (bin? Tab.env .eql 3 v225 (.int .i64 (-1))) fun v226 => (onS (fieldAddr? Tab.env 49 (ptrTo (M.n m173)) 4) fun v227 => (onS (load? Tab.env m200 3 v227) fun v228 => (onS (bin? Tab.env .neq 3 v228 (.int .i64 0)) fun v229 => (onS (bin? Tab.env .eql 4 v226 v229) fun v230 => (ifV v230
(onS (fieldAddr? Tab.env 49 (ptrTo (M.n m195)) 4) fun v231 => (onS (load? Tab.env m200 3 v231) fun v232 => (onS (bin? Tab.env .eql 3 v232 (.int .i64 (-1))) fun v233 => (R202 [v233] m200 (min (min (min (min (min (min (min lo110 b132) b137) b148) b174) b179) b196) b201)))))
(R202 [(.bool false)] m200 (min (min (min (min (min (min (min lo110 b132) b137) b148) b174) b179) b196) b201))))))))))
(R202 [(.bool false)] m200 (min (min (min (min (min (min (min lo110 b132) b137) b148) b174) b179) b196) b201))))))))))
(onS (bin? Tab.env .eql 4 v210 (.bool false)) fun v234 => (ifV v234
(onS (fieldAddr? Tab.env 49 (ptrTo (M.n m173)) 4) fun v235 => (onS (load? Tab.env m200 3 v235) fun v236 => (onS (bin? Tab.env .eql 3 v236 (.int .i64 (-1))) fun v237 => (onS (fieldAddr? Tab.env 49 (ptrTo (M.n m173)) 4) fun v238 => (onS (load? Tab.env m200 3 v238) fun v239 => (onS (bin? Tab.env .neq 3 v239 (.int .i64 0)) fun v240 => (onS (bin? Tab.env .eql 4 v237 v240) fun v241 => (ifV v241
(onS (fieldAddr? Tab.env 49 (ptrTo (M.n m195)) 4) fun v242 => (onS (load? Tab.env m200 3 v242) fun v243 => (onS (bin? Tab.env .eql 3 v243 (.int .i64 (-1))) fun v244 => (R202 [v244] m200 (min (min (min (min (min (min (min lo110 b132) b137) b148) b174) b179) b196) b201)))))
(R202 [(.bool false)] m200 (min (min (min (min (min (min (min lo110 b132) b137) b148) b174) b179) b196) b201))))))))))
(R202 [(.bool false)] m200 (min (min (min (min (min (min (min lo110 b132) b137) b148) b174) b179) b196) b201))))))))))))))
(R202 [(.bool false)] m200 (min (min (min (min (min (min (min lo110 b132) b137) b148) b174) b179) b196) b201))))
(R202 [(.bool false)] m200 (min (min (min (min (min (min (min lo110 b132) b137) b148) b174) b179) b196) b201)))))
(fun vs203 m204 lo205 => un vs203 fun v245 r246 => (R [v245] m204 lo205)))))))))))))))))))))))))))))))))))))))))))))))))))))))))))))))))))))))))))))))))))) [(.bool false), (.int .i64 0)] m44 (min (min (min (min (min (min (min (min (min (min (M.n m) b5) b10) b13) b18) b21) b24) b27) b35) b40) b45))))))))))))))))))))))))))))))))) := vcFW_eq.trans FW5

end Go.Proofs.YtbpmlholiohkpaaGreatDoor
