/- A byte as an argument. A body, leaf by leaf. What is known of calls, put together; runs of a region, part by part; a call known at one store. append of something: the new row is a new one. Maps from places to lists of units, as they lie in the store. One unit more at a place. One unit more at a place: the whole step. Contracts: draw.covers. Contracts: draw.covers, the walk. Contracts: the elevation of a valid fabric. slices.Sorted over the keys of a map: what is known of the call beforehand. Calls that a contract makes known: what they come to, said of a store of one's own choice. plane.Valid, plane.Cell and the elevation, known beforehand. What is known of plane.Valid, plane.Cell and the elevation is so. The shelf contracts for strings, laid at this program (printed by the kit tool lay-plain). -/
import Derived.Test.YtjecgmfildhpiaaGreatDoorBtJ
import Derived.Test.YtjecgmfildhpiaaGreatDoorG4J
import Derived.Test.YtjecgmfildhpiaaGreatDoorG5J
import Derived.Test.YtjecgmfildhpiaaGreatDoorG8J
import Derived.Shelf.Strings.BuilderK
import Derived.Shelf.Strings.OnBuilder
import Derived.Shelf.Strings.Search3
import Derived.Shelf.Strings.Count
import Derived.Shelf.Strings.SplitCore
import Derived.Test.YtjecgmfildhpiaaGreatDoorChecked
/- A byte as an argument. -/
namespace Go.Proofs.YtjecgmfildhpiaaGreatDoor
open Go Go.D Go.ChangeShapes Go.WideShapes Go.ChangeAt Go.RowKit
theorem u_byte : Tryz.prog.underlying 5 = some (.int .u8) := by kernel_rfl
section
variable {H : Type} {enc : TypeId × Value → H} {W W' : World} {sp : Nat → Bool} {held : Bool} {base : Nat}
set_option maxRecDepth 100000 in
theorem byte_of {v : Value} {d : DataW H} {ps : List MemPlace} (hok : Value.okWide Tryz.prog W .any base 5 v) (h : DataW.Trod enc Tryz.prog W 0 sp held 5 v d ps) :
    VRel (sgOf W) v v ∧ ∃ c : UInt8, v = .int .u8 c.toNat := by
  obtain ⟨fuel, h⟩ := h
  obtain ⟨z, hz, _, hwf⟩ := DataW.trod_int u_byte h
  have hv : v = .int .u8 z := by
    simp only [Value.okWide, u_byte] at hok
    cases v with
    | agg cs =>
      exfalso
      revert hok
      simp [Cell.okWide, Cell.ok, u_byte]
    | int k n => simpa [Value.cells] using hz
    | _ => simp [Value.cells] at hz
  subst hv
  have hmm : IntKind.u8.min = 0 ∧ IntKind.u8.max = 255 := ⟨by decide, by decide⟩
  simp only [Lit.wf, Bool.and_eq_true, decide_eq_true_eq, hmm] at hwf
  refine ⟨VRel.of_flat1 rfl, UInt8.ofNat z.toNat, ?_⟩
  have : ((UInt8.ofNat z.toNat).toNat : Int) = z := by rw [UInt8.toNat_ofNat']; omega
  rw [this]
end
section
variable {H : Type} {enc : TypeId × Value → H} {W W' : World} {v : Value} {d : DataW H} {ps : List MemPlace}
theorem stays5 (hb : Below W.heap.size W W') (h : DataW.Trod enc Tryz.prog W 0 (fun _ => true) true 5 v d ps) (hlt : ∀ x ∈ ps, x.block < W.heap.size) (sp : Nat → Bool) (hs : ∀ x ∈ ps, sp x.block = true) : DataW.Trod enc Tryz.prog W' 0 sp true 5 v d ps :=
  WideElems.Trod_stays laidOut (by kernel_rfl) (of_decide_eq_true (by kernel_rfl)) h (fun x hx => hb.same (hlt x hx)) hs
end
end Go.Proofs.YtjecgmfildhpiaaGreatDoor

/- A body, leaf by leaf. -/
namespace Go.D
open Go
section
variable {E : Env} {call : CallFn} {n : Nat}
def flat : Code → List Code
  | .seq a b => flat a ++ flat b
  | c => [c]
def execs (f : Code → Fr → Option (Ex × Fr)) : List Code → Fr → Option (Ex × Fr)
  | [], fr => some (.normal, fr)
  | c :: r, fr => match f c fr with
    | some (.normal, fr) => execs f r fr
    | r => r
theorem execs_app (f : Code → Fr → Option (Ex × Fr)) : ∀ (a b : List Code) (fr : Fr), execs f (a ++ b) fr = match execs f a fr with | some (.normal, fr) => execs f b fr | r => r
  | [], b, fr => rfl
  | c :: a, b, fr => by
    show (match f c fr with | some (.normal, fr) => execs f (a ++ b) fr | r => r) = match (match f c fr with | some (.normal, fr) => execs f a fr | r => r) with | some (.normal, fr) => execs f b fr | r => r
    cases h : f c fr with
    | none => rfl
    | some p =>
      obtain ⟨e, fr1⟩ := p
      cases e with
      | normal => exact execs_app f a b fr1
      | exit id => rfl
      | ret => rfl
theorem exec_flat : ∀ (c : Code) (fr : Fr), exec? E call n c fr = execs (exec? E call n) (flat c) fr
  | .seq a b, fr => by
    rw [flat, execs_app, ← exec_flat a fr]
    show (match exec? E call n a fr with | some (.normal, fr) => exec? E call n b fr | r => r) = _
    cases h : exec? E call n a fr with
    | none => rfl
    | some p =>
      obtain ⟨e, fr1⟩ := p
      cases e with
      | normal => exact exec_flat b fr1
      | exit id => rfl
      | ret => rfl
  | .skip, fr => one_leaf _ fr
  | .region _ _ _, fr => one_leaf _ fr
  | .cond _ _ _, fr => one_leaf _ fr
  | .block _ _, fr => one_leaf _ fr
  | .loop _, fr => one_leaf _ fr
  | .exit _, fr => one_leaf _ fr
  | .ret, fr => one_leaf _ fr
  | .label _, fr => one_leaf _ fr
  | .goto _, fr => one_leaf _ fr
  | .rangeFunc _ _ _ _, fr => one_leaf _ fr
  | .scope _, fr => one_leaf _ fr
  | .refuse _, fr => one_leaf _ fr
where
  one_leaf (c : Code) (fr : Fr) : exec? E call n c fr = execs (exec? E call n) [c] fr := by
    unfold execs
    cases h : exec? E call n c fr with
    | none => rfl
    | some p =>
      obtain ⟨e, fr1⟩ := p
      cases e <;> rfl
theorem execs_cut {f : Code → Fr → Option (Ex × Fr)} {l : List Code} {fr fr' : Fr} (a k : Nat) (h : execs f ((l.drop a).take k) fr = some (.normal, fr')) : execs f (l.drop a) fr = execs f (l.drop (a + k)) fr' := by
  have e : l.drop a = (l.drop a).take k ++ l.drop (a + k) := by rw [← List.drop_drop, List.take_append_drop]
  rw [e, execs_app, h]
/-- A call, out of its body's run. -/
theorem call_of_exec {X : CallFn} {f : FuncId} {fn : Func} {c : Code} {args : List Value} {m : M} {fr : Fr} {v : Value} (hX : X (.func f) args m = none) (hf : E.fn.get f = some fn) (hb : fn.body = some c) (hle : Nat.ble args.length fn.ntmps = true)
    (he : exec? E (call? E X n) n c { T := enter args 0, m := { m with low := m.n } } = some (.ret, fr)) (hr : result? E fn fr.T fr.m = some v) (hv : flat2 v = true) (hl : Nat.ble m.n fr.m.low = true) : call? E X (n + 1) (.func f) args m = some (v, m) := by
  unfold call?
  rw [hX, hf]
  dsimp only
  rw [hb]
  dsimp only
  rw [hle, cond_true, he]
  dsimp only
  rw [hr]
  dsimp only
  rw [hv, hl]
  rfl
end
end Go.D

/- What is known of calls, put together; runs of a region, part by part; a call known at one store. -/
namespace Go.D
open Go
section
variable {P : Program}
noncomputable def orX (X Y : CallFn) : CallFn := fun f args m => match X f args m with | some r => some r | none => Y f args m
theorem orX_cases {X Y : CallFn} {f : Fn} {args : List Value} {m : M} {r : Value × M} (h : orX X Y f args m = some r) : X f args m = some r ∨ Y f args m = some r := by
  unfold orX at h
  cases hx : X f args m with
  | none => rw [hx] at h; exact .inr h
  | some r' => rw [hx] at h; exact .inl h
theorem orX_ok {X Y : CallFn} (hX : CallOK P X) (hY : CallOK P Y) : CallOK P (orX X Y) :=
  ⟨fun f args m v m' h => (orX_cases h).elim (hX.func f args m v m') (hY.func f args m v m'),
   fun l args m v m' h => (orX_cases h).elim (hX.yield l args m v m') (hY.yield l args m v m'),
   fun f args m v m' h => (orX_cases h).elim (hX.keep f args m v m') (hY.keep f args m v m'),
   fun a m v m' b h => (orX_cases h).elim (hX.prv a m v m' b) (hY.prv a m v m' b)⟩
theorem orX_none {X Y : CallFn} {f : Fn} {args : List Value} {m : M} (h1 : X f args m = none) (h2 : Y f args m = none) : orX X Y f args m = none := by
  unfold orX; rw [h1]; exact h2
end
section
variable {E : Env} {call : CallFn}
/-- Operations, part by part. -/
theorem ops_app {ops : Array Oper} : ∀ (a b : List Oper) (fr : Fr), ops? E call ops (a ++ b) fr = match ops? E call ops a fr with | some fr => ops? E call ops b fr | none => none
  | [], b, fr => rfl
  | o :: a, b, fr => by
    rw [List.cons_append, ops?_cons, ops?_cons]
    cases wanted? ops fr.T o with
    | false => simp only [cond_false]; exact ops_app a b _
    | true =>
      simp only [cond_true]
      cases op? o.op E call fr.T fr.m with
      | none => rfl
      | some r => exact ops_app a b _
theorem draw_app {ops : Array Oper} : ∀ (a b : List Oper) (j : Nat) (fr : Fr), draw? E call ops (a ++ b) j fr = match draw? E call ops a j fr with | some fr => draw? E call ops b (j + a.length) fr | none => none
  | [], b, j, fr => rfl
  | o :: a, b, j, fr => by
    have hj : j + (o :: a).length = (j + 1) + a.length := by simp only [List.length_cons]; omega
    rw [List.cons_append, draw?_cons, draw?_cons, hj]
    cases wanted? ops fr.T o with
    | false => simp only [cond_false]; exact draw_app a b _ _
    | true =>
      simp only [cond_true]
      cases op? o.op E call fr.T { fr.m with low := fr.m.n } with
      | none => rfl
      | some r =>
        dsimp only
        cases (Nat.ble fr.m.n r.2.low || (barrier ops j || priv ops j fr.m fr.T o.op)) with
        | false => rfl
        | true => simp only [cond_true]; exact draw_app a b _ _
theorem ops_cut {ops : Array Oper} {l : List Oper} {fr fr' : Fr} (a k : Nat) (h : ops? E call ops ((l.drop a).take k) fr = some fr') : ops? E call ops (l.drop a) fr = ops? E call ops (l.drop (a + k)) fr' := by
  have e : l.drop a = (l.drop a).take k ++ l.drop (a + k) := by rw [← List.drop_drop, List.take_append_drop]
  rw [e, ops_app, h]
theorem draw_cut {ops : Array Oper} {l : List Oper} {fr fr' : Fr} (a k j : Nat) (hk : ((l.drop a).take k).length = k) (h : draw? E call ops ((l.drop a).take k) j fr = some fr') : draw? E call ops (l.drop a) j fr = draw? E call ops (l.drop (a + k)) (j + k) fr' := by
  have e : l.drop a = (l.drop a).take k ++ l.drop (a + k) := by rw [← List.drop_drop, List.take_append_drop]
  rw [e, draw_app, h, hk]
end
end Go.D

/- append of something: the new row is a new one. -/
namespace Go.D
open Go
section
variable {E : Env} {α : Type} [Rep α] {n1 : Nat} {m : M} {l ys : List α} {v y : Value} {T : TypeId}
/-- append of something to a slice of the call's own. -/
theorem Ow.append_new (hT : ApT E T α) (hty : Rep.ty α ∉ Rep.tys α) (h : Ow n1 m l v) (hy : Sl m ys y) (hn : n1 ≤ m.n) (hs : l.length + ys.length ≤ 268435456) (hne : ys ≠ []) :
    ∃ v' m1, builtin? E (m.wl m.n) .append [T, T] [v, y] = some (v', m1) ∧ Ow m.n m1 (l ++ ys) v' ∧ Fr' n1 m m1 ∧ n1 ≤ m1.low ∧ m1.n = m.n + 1 := by
  obtain ⟨ti, ei, t1, t2, t3, t4, t5, t6⟩ := hT
  obtain ⟨news, e1, e2, e3, e4, e5⟩ := hy.first
  have hpos := Rep.pos (α := α)
  have hc : (Nat.beq ti.es 0 || Nat.blt 65536 ei.bytes || !news.all D.one || Nat.blt 268435456 (l.length + ys.length) || !Nat.beq news.length (ys.length * ti.es) || !zeroLen ei.zero ti.es) = false := by
    have c1 : Nat.beq ti.es 0 = false := by
      cases hb : Nat.beq ti.es 0 with
      | false => rfl
      | true => have := Nat.eq_of_beq_eq_true hb; omega
    have c2 : Nat.blt 65536 ei.bytes = false := by
      cases hb : Nat.blt 65536 ei.bytes with
      | false => rfl
      | true => rw [Nat.blt_eq] at hb; omega
    have c3 : Nat.blt 268435456 (l.length + ys.length) = false := by
      cases hb : Nat.blt 268435456 (l.length + ys.length) with
      | false => rfl
      | true => rw [Nat.blt_eq] at hb; omega
    have c4 : Nat.beq news.length (ys.length * ti.es) = true := by rw [e3, t3]; exact Nat.beq_refl _
    rw [c1, c2, c3, c4, e4, t3, t6]; rfl
  have hfirst : first? (m.wl m.n) ti.es ys.length y = some news := by rw [first?_wl, t3]; exact e2
  rcases h with ⟨rfl, rfl⟩ | ⟨b, cs, rfl, h2, h3, h4, h5, h6⟩
  · -- nothing there yet
    cases hys : ys with
    | nil => exact absurd hys hne
    | cons y0 ys' =>
      rw [← hys]
      have hylen : 0 < ys.length := by rw [hys]; simp
      have hble : Nat.ble (0 + ys.length) 0 = false := by
        cases hb : Nat.ble (0 + ys.length) 0 with
        | false => rfl
        | true => have := Nat.le_of_ble_eq_true hb; omega
      refine ⟨.slice (some ⟨m.n, 0, none⟩) ys.length ys.length, (m.wl m.n).push (.cells news (Rep.ty α) (some (Rep.sz α))), ?_, ?_, ⟨by show m.n ≤ m.n + 1; omega, fun c hc => by rw [M.get_push_lt (by show c < m.n; omega)]; rfl⟩, hn, rfl⟩
      · simp only [builtin?, append?, t1, e1, t2, t4, hfirst]
        simp only [List.length_nil] at hc
        rw [hc, hble]
        simp only [cond_false, grow?]
        have : (Nat.beq 0 0 && Nat.beq 0 0) = true := rfl
        rw [this, t3]
        simp only [cond_true, Nat.zero_add]
        rfl
      · refine .inr ⟨m.n, news, by simp, by simpa using hylen, Nat.le_refl _, M.get_push_new (m := m.wl m.n), by simpa using e3, fun i x hi => ?_⟩
        have := e5 i x (by simpa using hi)
        exact Rep.keepE this ⟨by show m.n ≤ m.n + 1; omega, fun c hc => by rw [M.get_push_lt (m := m.wl m.n) hc]; rfl⟩
  · -- there is a row
    have hbn := M.lt_of_get h4
    cases hys : ys with
    | nil => exact absurd hys hne
    | cons y0 ys' =>
      rw [← hys]
      have hylen : 0 < ys.length := by rw [hys]; simp
      have hble : Nat.ble (l.length + ys.length) l.length = false := by
        cases hb : Nat.ble (l.length + ys.length) l.length with
        | false => rfl
        | true => have := Nat.le_of_ble_eq_true hb; omega
      have hold : (bif Nat.beq l.length 0 then some [] else loadCells (m.wl m.n) ⟨b, 0, none⟩ (l.length * Rep.sz α)) = some cs := by
        cases hb : Nat.beq l.length 0 with
        | true => have := Nat.eq_of_beq_eq_true hb; omega
        | false =>
          simp only [cond_false, loadCells_wl]
          rw [loadCells_of h4 (by omega), List.drop_zero, List.take_of_length_le (by omega)]
      have g1 : ((some (Rep.sz α) : Option Nat).isNone || ((some (Rep.sz α) : Option Nat) == some (Rep.sz α) && Nat.blt (0 + l.length * Rep.sz α) cs.length)) = false := by
        have : Nat.blt (0 + l.length * Rep.sz α) cs.length = false := by
          cases hb : Nat.blt (0 + l.length * Rep.sz α) cs.length with
          | false => rfl
          | true => rw [Nat.blt_eq] at hb; omega
        rw [this]; simp
      have g2 : ((some (Rep.sz α) : Option Nat) == some (Rep.sz α) && Nat.beq 0 0 && (none : Option Nat).isNone && Nat.beq (l.length * Rep.sz α) cs.length && Nat.beq l.length l.length && Nat.beq (Rep.ty α) (Rep.ty α)) = true := by
        rw [h5]
        simp
      refine ⟨.slice (some ⟨m.n, 0, none⟩) (l.length + ys.length) (l.length + ys.length), ((m.wl m.n).set b .dead).push (.cells (cs ++ news) (Rep.ty α) (some (Rep.sz α))), ?_, ?_, ⟨by show m.n ≤ m.n + 1; omega, fun c hc => ?_⟩, ?_, rfl⟩
      · simp only [builtin?, append?, t1, e1, t2, t4, hfirst]
        rw [hc, hble]
        simp only [cond_false, grow?, t3]
        have hg : (m.wl m.n).get b = .cells cs (Rep.ty α) (some (Rep.sz α)) := h4
        simp only [hg, hold, g1, cond_false]
        rw [g2]
        rfl
      · have hget : ∀ c, c < m.n → c ≠ b → (((m.wl m.n).set b .dead).push (.cells (cs ++ news) (Rep.ty α) (some (Rep.sz α)))).get c = m.get c := fun c hc hne => by
          rw [M.get_push_lt (by show c < m.n; exact hc), M.get_set_ne hne]; rfl
        have hrep : ∀ x c, Rep.rep m x c → Rep.rep (α := α) (((m.wl m.n).set b .dead).push (.cells (cs ++ news) (Rep.ty α) (some (Rep.sz α)))) x c := fun x c hx => by
          refine Rep.keep hx fun b' c' t g hb ht => ?_
          rw [hget b' (M.lt_of_get hb) (fun e => by subst e; rw [h4] at hb; cases hb; exact hty ht), hb]
        refine .inr ⟨m.n, cs ++ news, by simp, by simp; omega, Nat.le_refl _, M.get_push_new (m := (m.wl m.n).set b .dead), by simp [h5, e3, Nat.add_mul], fun i x hi => ?_⟩
        by_cases hlt : i < l.length
        · rw [chunk_append_left h5 hlt]
          rw [List.getElem?_append_left hlt] at hi
          exact hrep _ _ (h6 i x hi)
        · rw [chunk_append_right h5 (by omega)]
          rw [List.getElem?_append_right (by omega)] at hi
          exact hrep _ _ (e5 _ x hi)
      · rw [M.get_push_lt (by show c < m.n; omega), M.get_set_ne (by omega)]; rfl
      · show n1 ≤ min m.n b
        omega
end
end Go.D

/- Maps from places to lists of units, as they lie in the store. -/
namespace Go.Proofs.YtjecgmfildhpiaaGreatDoor
open Go Go.D
variable {X : CallFn} {m : M}

/-- A unit with the slice of its corners. -/
structure UW where
  u : Un
  w : Value
abbrev UW.c (x : UW) : List Value := x.u.c x.w
abbrev UW.v (x : UW) : Value := x.u.v x.w
instance : Rep UW where
  ty := 57
  sz := 6
  agg := true
  tys := []
  rep _ x cs := cs = x.c ∧ one x.w = true
  pos := by decide
  one := by intro h; cases h
  len := by rintro _ _ _ ⟨rfl, _⟩; rfl
  ones := by rintro _ x _ ⟨rfl, h⟩; exact Un.c_one h
  keep := by rintro _ _ _ _ h _; exact h
theorem slt_uw : SlT Tab.env 29 57 UW := ⟨Tab.t29, Tab.t57, by kernel_rfl, ⟨_, rfl⟩, rfl, by kernel_rfl, rfl, rfl⟩
theorem apt_uw : ApT Tab.env 29 UW := ⟨Tab.t29, Tab.t57, by kernel_rfl, rfl, rfl, by kernel_rfl, by decide, rfl⟩
/-- Units with their slices show the units. -/
theorem _root_.Go.D.Sl.of_uw {l : List UW} {v : Value} (h : Sl m l v) (hs : ∀ x ∈ l, Sl m x.u.shape x.w) : Sl m (l.map (·.u)) v := by
  rcases h with ⟨rfl, rfl⟩ | ⟨b, o, c, bc, g, rfl, h2, h3, h4⟩
  · exact .inl ⟨rfl, rfl⟩
  · refine .inr ⟨b, o, c, bc, g, by rw [List.length_map], h2, by rw [List.length_map]; exact h3, fun i u hi => ?_⟩
    rw [List.getElem?_map, Option.map_eq_some_iff] at hi
    obtain ⟨x, hx, rfl⟩ := hi
    exact ⟨x.w, (h4 i x hx).1, hs x (List.mem_of_getElem? hx)⟩
/-- Each list of units is one of units with their slices. -/
theorem _root_.Go.D.Sl.to_uw {l : List Un} {v : Value} (h : Sl m l v) : ∃ l' : List UW, l'.map (·.u) = l ∧ Sl m l' v ∧ ∀ x ∈ l', Sl m x.u.shape x.w := by
  rcases h with ⟨rfl, rfl⟩ | ⟨b, o, c, bc, g, rfl, h2, h3, h4⟩
  · exact ⟨[], rfl, .inl ⟨rfl, rfl⟩, fun x hx => by cases hx⟩
  · have key : ∀ i u, l[i]? = some u → ∃ w, (bc.drop (o + i * 6)).take 6 = u.c w ∧ Sl m u.shape w ∧ bc[o + i * 6 + 3]? = some w := fun i u hi => by
      obtain ⟨w, hw, hs⟩ := h4 i u hi
      have hw : (bc.drop (o + i * 6)).take 6 = u.c w := hw
      refine ⟨w, hw, hs, ?_⟩
      have := congrArg (·[3]?) hw
      simp only [List.getElem?_take_of_lt (show 3 < 6 by decide), List.getElem?_drop] at this
      rw [this]; rfl
    refine ⟨l.mapIdx fun i u => ⟨u, (bc[o + i * 6 + 3]?).getD undef⟩, ?_, .inr ⟨b, o, c, bc, g, by rw [List.length_mapIdx], h2, by rw [List.length_mapIdx]; exact h3, fun i x hx => ?_⟩, fun x hx => ?_⟩
    · refine List.ext_getElem? fun i => ?_
      rw [List.getElem?_map, List.getElem?_mapIdx]
      cases l[i]? <;> rfl
    · rw [List.getElem?_mapIdx, Option.map_eq_some_iff] at hx
      obtain ⟨u, hu, rfl⟩ := hx
      obtain ⟨w, hw, hs, hb⟩ := key i u hu
      rw [hb]
      exact ⟨hw, hs.one⟩
    · obtain ⟨i, hi⟩ := List.mem_iff_getElem?.1 hx
      rw [List.getElem?_mapIdx, Option.map_eq_some_iff] at hi
      obtain ⟨u, hu, rfl⟩ := hi
      obtain ⟨w, hw, hs, hb⟩ := key i u hu
      rw [hb]
      exact hs
/-- A place, the units there, the row they lie in. -/
abbrev KV' := Pl × List UW × Nat
abbrev KV'.val (k : KV') : Value := .slice (some ⟨k.2.2, 0, none⟩) k.2.1.length k.2.1.length
/-- A row that holds units. -/
def Own (n1 : Nat) (m : M) (l : List UW) (b : Nat) : Prop := 0 < l.length ∧ n1 ≤ b ∧ ∃ cs, m.get b = .cells cs 57 (some 6) ∧ cs.length = l.length * 6 ∧ ∀ i x, l[i]? = some x → Rep.rep m x (chunk cs 6 i)
theorem Own.ow {n1 : Nat} {l : List UW} {b : Nat} (h : Own n1 m l b) : Ow n1 m l (.slice (some ⟨b, 0, none⟩) l.length l.length) := by
  obtain ⟨h1, h2, cs, h3, h4, h5⟩ := h
  exact .inr ⟨b, cs, rfl, h1, h2, h3, h4, h5⟩
theorem Own.of {n1 : Nat} {l : List UW} {v : Value} (h : Ow n1 m l v) (hne : l ≠ []) : ∃ b, v = .slice (some ⟨b, 0, none⟩) l.length l.length ∧ Own n1 m l b := by
  rcases h with ⟨_, h⟩ | ⟨b, cs, rfl, h1, h2, h3, h4, h5⟩
  · exact absurd h hne
  · exact ⟨b, rfl, h1, h2, cs, h3, h4, h5⟩
theorem Own.keep {n1 : Nat} {l : List UW} {b : Nat} {m' : M} (h : Own n1 m l b) (hb : m'.get b = m.get b) : Own n1 m' l b := by
  obtain ⟨h1, h2, cs, h3, h4, h5⟩ := h
  exact ⟨h1, h2, cs, by rw [hb, h3], h4, fun i x hi => h5 i x hi⟩
def kvs (es : List MapEntry) (kv : List KV') : Prop := es.map (fun e => (e.key, e.val)) = kv.map (fun k => (k.1.v, KV'.val k))
structure PM (n1 : Nat) (m : M) (r : Nat) (kv : List KV') : Prop where
  ex : ∃ es clock, m.get r = .map es clock ∧ kvs es kv ∧ (∀ e ∈ es, e.born < clock) ∧ (es.map (·.born)).Nodup
  keys : (kv.map (·.1)).Nodup
  blks : (kv.map (·.2.2)).Nodup
  own : ∀ k ∈ kv, Own n1 m k.2.1 k.2.2
def getL (kv : List KV') (p : Pl) : List UW := match kv.find? (fun k => decide (k.1 = p)) with | some k => k.2.1 | none => []
theorem PM.keepE {n1 r : Nat} {kv : List KV'} {m' : M} (h : PM n1 m r kv) (hx : Ext m m') : PM n1 m' r kv := by
  obtain ⟨es, clock, h1, h2⟩ := h.ex
  refine ⟨⟨es, clock, by rw [hx.get r (M.lt_of_map h1), h1], h2⟩, h.keys, h.blks, fun k hk => ?_⟩
  have ho := h.own k hk
  obtain ⟨_, _, cs, h3, _⟩ := id ho
  exact ho.keep (by rw [hx.get _ (M.lt_of_get h3)])
theorem eq_pl {p q : Pl} : eq? Tab.env 64 p.v q.v = some (decide (p = q)) := by
  have e : eq? Tab.env 64 p.v q.v = some ((p.x == q.x) && ((p.y == q.y) && true)) := by kernel_rfl
  rw [e]
  obtain ⟨a, b⟩ := p
  obtain ⟨c, d⟩ := q
  by_cases h1 : a = c <;> by_cases h2 : b = d <;> simp [h1, h2]
theorem keyed_pl {p : Pl} : keyed Tab.env 64 p.v = true := by kernel_rfl
/-- What is found of a place. -/
theorem kvs_find : ∀ {es : List MapEntry} {kv : List KV'} {p : Pl} {i : Nat}, kvs es kv → (getL kv p = [] ∧ p ∉ kv.map (·.1) ∧ findKey Tab.env 64 p.v es i = some none) ∨
    (∃ j k, kv[j]? = some k ∧ k.1 = p ∧ getL kv p = k.2.1 ∧ findKey Tab.env 64 p.v es i = some (some (i + j, KV'.val k)))
  | [], [], p, i, _ => .inl ⟨rfl, by simp, rfl⟩
  | [], k :: kv, _, _, h => by cases h
  | e :: es, [], _, _, h => by cases h
  | e :: es, k :: kv, p, i, h => by
    have h : (e.key, e.val) :: es.map (fun e => (e.key, e.val)) = (k.1.v, KV'.val k) :: kv.map (fun k => (k.1.v, KV'.val k)) := h
    injection h with h1 h2
    injection h1 with hk hv
    have hstep : findKey Tab.env 64 p.v (e :: es) i = bif decide (p = k.1) then some (some (i, e.val)) else findKey Tab.env 64 p.v es (i + 1) := by
      conv => lhs; unfold findKey
      rw [hk, eq_pl]
      cases decide (p = k.1) <;> rfl
    by_cases hp : p = k.1
    · refine .inr ⟨0, k, rfl, hp.symm, ?_, ?_⟩
      · unfold getL
        rw [List.find?_cons_of_pos (by simp [hp])]
      · rw [hstep, hv, show decide (p = k.1) = true by simp [hp], cond_true]; rfl
    · have hg : getL (k :: kv) p = getL kv p := by
        unfold getL
        rw [List.find?_cons_of_neg (by simpa using fun h => hp h.symm)]
      rw [hstep, show decide (p = k.1) = false by simp [hp], cond_false, hg]
      rcases kvs_find (p := p) (i := i + 1) (show kvs es kv from h2) with ⟨a, b, c⟩ | ⟨j, k', a, b, c, d⟩
      · exact .inl ⟨a, by simp [hp] at b ⊢; exact b, c⟩
      · exact .inr ⟨j + 1, k', by simpa using a, b, c, by rw [d, show i + 1 + j = i + (j + 1) by omega]⟩
theorem zero_un : zero? Tab.env 29 = some (.slice none 0 0) := by kernel_rfl
/-- What a lookup hands back. -/
theorem PM.lookup {n1 r : Nat} {kv : List KV'} (h : PM n1 m r kv) (p : Pl) : ∃ v, lookup? Tab.env m 103 (.map (some r)) p.v false = some v ∧ Sl m (getL kv p) v := by
  obtain ⟨es, clock, h1, h2, _⟩ := h.ex
  have e : lookup? Tab.env m 103 (.map (some r)) p.v false = match findKey Tab.env 64 p.v es 0 with
      | some (some (_, v)) => some v
      | some none => some (.slice none 0 0)
      | none => none := by
    unfold lookup?
    rw [show Tab.env.ty.get 103 = some Tab.t103 by kernel_rfl]
    dsimp only [Tab.t103]
    rw [h1]
    dsimp only
    rw [keyed_pl, cond_true, zero_un]
    rfl
  rw [e]
  rcases kvs_find (p := p) (i := 0) h2 with ⟨a, b, c⟩ | ⟨j, k, a, b, c, d⟩
  · rw [c, a]
    exact ⟨_, rfl, Sl.nil⟩
  · rw [d, c]
    exact ⟨_, rfl, (h.own k (List.mem_of_getElem? a)).ow.sl⟩
end Go.Proofs.YtjecgmfildhpiaaGreatDoor

/- One unit more at a place. -/
namespace Go.Proofs.YtjecgmfildhpiaaGreatDoor
open Go Go.D
variable {m : M}

theorem stampIx_of : ∀ {es : List MapEntry} {j i : Nat} {e : MapEntry}, (es.map (·.born)).Nodup → es[j]? = some e → stampIx (e.born : Int) es i = some (i + j)
  | f :: es, 0, i, e, _, h => by
    cases h
    unfold stampIx
    simp
  | f :: es, j + 1, i, e, hd, h => by
    have h : es[j]? = some e := by simpa using h
    simp only [List.map_cons, List.nodup_cons] at hd
    have hne : f.born ≠ e.born := fun x => hd.1 (by rw [x]; exact List.mem_map.2 ⟨e, List.mem_of_getElem? h, rfl⟩)
    unfold stampIx
    rw [show decide ((f.born : Int) = (e.born : Int)) = false by simp; omega, cond_false, stampIx_of hd.2 h, show i + 1 + j = i + (j + 1) by omega]
theorem kvs_len {es : List MapEntry} {kv : List KV'} (h : kvs es kv) : es.length = kv.length := by
  have := congrArg List.length h
  simpa using this
theorem kvs_at {es : List MapEntry} {kv : List KV'} (h : kvs es kv) {j : Nat} {e : MapEntry} {k : KV'} (he : es[j]? = some e) (hk : kv[j]? = some k) : e.key = k.1.v ∧ e.val = KV'.val k := by
  have := congrArg (·[j]?) h
  simp only [List.getElem?_map, he, hk, Option.map_some, Option.some.injEq, Prod.mk.injEq] at this
  exact this
theorem one_un {v : Value} : buildSlice? Tab.env m 29 1 [(0, v)] = match fill (fun i => some (i * 6, 6)) Un.zc [(0, v)] with | some cs => some (.slice (some ⟨m.n, 0, none⟩) 1 1, m.push (.cells cs 57 none)) | none => none := by kernel_rfl
theorem one_un' {x : UW} : buildSlice? Tab.env m 29 1 [(0, x.v)] = some (.slice (some ⟨m.n, 0, none⟩) 1 1, m.push (.cells x.c 57 none)) := by kernel_rfl
theorem sl_one_un {x : UW} {b : Nat} {g : Option Nat} (h : m.get b = .cells x.c 57 g) (hw : one x.w = true) : Sl m [x] (.slice (some ⟨b, 0, none⟩) 1 1) :=
  .inr ⟨b, 0, 1, _, g, rfl, h, Nat.le_refl _, fun i y hi => by
    match i with
    | 0 => cases hi; exact ⟨rfl, hw⟩
    | i + 1 => cases hi⟩
/-- What such a step leaves as it is. -/
structure Fr1 (n1 r : Nat) (m m' : M) : Prop where
  n : m.n ≤ m'.n
  cell : ∀ c cs t g, m.get c = .cells cs t g → (t ≠ 57 ∨ g = none) → m'.get c = .cells cs t g
  low : ∀ c, c < n1 → c ≠ r → m'.get c = m.get c
theorem mapEntry_eq {r : Nat} {es : List MapEntry} {clock : Nat} (h : m.get r = .map es clock) (p : Pl) : mapEntry? Tab.env m 103 (.map (some r)) p.v = match findKey Tab.env 64 p.v es 0 with
    | some (some (i, v)) => some (.tuple #[v, .int .i64 (((es[i]?).map (·.born)).getD 0)], m.set r (.map (es.modify i fun e => { e with key := p.v }) clock))
    | some none => some (.tuple #[.slice none 0 0, .int .i64 clock], m.set r (.map (es ++ [{ key := p.v, val := .slice none 0 0, born := clock }]) (clock + 1)))
    | none => none := by
  unfold mapEntry?
  rw [show Tab.env.ty.get 103 = some Tab.t103 by kernel_rfl]
  dsimp only [Tab.t103]
  rw [h]
  dsimp only
  rw [keyed_pl, cond_true, zero_un]
  rfl
theorem entryStore_eq {r : Nat} {es : List MapEntry} {clock j : Nat} {b : Int} {v : Value} (h : m.get r = .map es clock) (hj : stampIx b es 0 = some j) : entryStore? m (.map (some r)) (.int .i64 b) v = some (m.set r (.map (es.modify j fun e => { e with val := v }) clock)) := by
  unfold entryStore?
  dsimp only
  rw [h]
  dsimp only
  rw [hj]
theorem getL_set {kv : List KV'} {j : Nat} {k : KV'} {l : List UW} {b : Nat} (hk : kv[j]? = some k) (hd : (kv.map (·.1)).Nodup) (q : Pl) : getL (kv.set j (k.1, l, b)) q = if q = k.1 then l else getL kv q := by
  induction kv generalizing j with
  | nil => simp at hk
  | cons f kv ih =>
    simp only [List.map_cons, List.nodup_cons] at hd
    cases j with
    | zero =>
      cases hk
      rw [List.set_cons_zero]
      unfold getL
      by_cases hq : q = k.1
      · rw [List.find?_cons_of_pos (by simp [hq]), if_pos hq]
      · rw [List.find?_cons_of_neg (by simpa using fun h => hq h.symm), List.find?_cons_of_neg (by simpa using fun h => hq h.symm), if_neg hq]
    | succ j =>
      have hk : kv[j]? = some k := by simpa using hk
      rw [List.set_cons_succ]
      have ih := ih hk hd.2
      have hne : f.1 ≠ k.1 := fun e => hd.1 (by rw [e]; exact List.mem_map.2 ⟨k, List.mem_of_getElem? hk, rfl⟩)
      unfold getL at ih ⊢
      by_cases hq : f.1 = q
      · rw [List.find?_cons_of_pos (by simp [hq]), List.find?_cons_of_pos (by simp [hq]), if_neg (fun e => hne (hq.trans e))]
      · rw [List.find?_cons_of_neg (by simpa using hq), List.find?_cons_of_neg (by simpa using hq)]
        exact ih
theorem getL_snoc {kv : List KV'} {k : KV'} (hn : k.1 ∉ kv.map (·.1)) (q : Pl) : getL (kv ++ [k]) q = if q = k.1 then k.2.1 else getL kv q := by
  induction kv with
  | nil =>
    unfold getL
    by_cases hq : q = k.1
    · rw [if_pos hq, List.nil_append, List.find?_cons_of_pos (by simp [hq])]
    · rw [if_neg hq, List.nil_append, List.find?_cons_of_neg (by simpa using fun h => hq h.symm)]
  | cons f kv ih =>
    simp only [List.map_cons, List.mem_cons, not_or] at hn
    have ih := ih hn.2
    rw [List.cons_append]
    unfold getL at ih ⊢
    by_cases hq : f.1 = q
    · rw [List.find?_cons_of_pos (by simp [hq]), List.find?_cons_of_pos (by simp [hq]), if_neg (fun e => hn.1 (e.symm.trans hq.symm))]
    · rw [List.find?_cons_of_neg (by simpa using hq), List.find?_cons_of_neg (by simpa using hq)]
      exact ih
end Go.Proofs.YtjecgmfildhpiaaGreatDoor

/- One unit more at a place: the whole step. -/
namespace Go.Proofs.YtjecgmfildhpiaaGreatDoor
open Go Go.D
variable {m : M}

theorem nodup_get {α : Type} : ∀ {l : List α}, l.Nodup ↔ ∀ (i j : Nat) (x : α), l[i]? = some x → l[j]? = some x → i = j
  | [] => by simp
  | a :: l => by
    rw [List.nodup_cons, nodup_get (l := l)]
    constructor
    · rintro ⟨h1, h2⟩ i j x hi hj
      match i, j with
      | 0, 0 => rfl
      | 0, j + 1 => cases hi; exact absurd (List.mem_of_getElem? (by simpa using hj)) h1
      | i + 1, 0 => cases hj; exact absurd (List.mem_of_getElem? (by simpa using hi)) h1
      | i + 1, j + 1 => rw [h2 i j x (by simpa using hi) (by simpa using hj)]
    · intro h
      refine ⟨fun hm => ?_, fun i j x hi hj => ?_⟩
      · obtain ⟨i, hi⟩ := List.mem_iff_getElem?.1 hm
        have := h 0 (i + 1) a rfl (by simpa using hi)
        omega
      · have := h (i + 1) (j + 1) x (by simpa using hi) (by simpa using hj)
        omega
theorem get_modify {α : Type} {l : List α} {j i : Nat} {f : α → α} : (l.modify j f)[i]? = if j = i then l[i]?.map f else l[i]? := by
  rw [List.getElem?_modify]
  by_cases h : j = i
  · simp only [h, if_true]; cases l[i]? <;> rfl
  · simp only [h, if_false]; cases l[i]? <;> rfl
theorem kvs_modify_key {es : List MapEntry} {kv : List KV'} {j : Nat} {k : KV'} {p : Pl} (h : kvs es kv) (hk : kv[j]? = some k) (hp : k.1 = p) : es.modify j (fun e => { e with key := p.v }) = es := by
  refine List.ext_getElem? fun i => ?_
  rw [get_modify]
  by_cases hij : j = i
  · subst hij
    rw [if_pos rfl]
    cases he : es[j]? with
    | none => rfl
    | some e =>
      have := (kvs_at h he hk).1
      simp only [Option.map_some, Option.some.injEq]
      rw [← hp, ← this]
  · rw [if_neg hij]
theorem kvs_modify_val {es : List MapEntry} {kv : List KV'} {j : Nat} {k : KV'} (h : kvs es kv) {p : Pl} {l : List UW} {b : Nat} (hk : kv[j]? = some k) (hp : k.1 = p) :
    kvs (es.modify j (fun e => { e with val := KV'.val (p, l, b) })) (kv.set j (p, l, b)) := by
  unfold kvs
  refine List.ext_getElem? fun i => ?_
  rw [List.getElem?_map, List.getElem?_map, get_modify, List.getElem?_set]
  have hlen := kvs_len h
  by_cases hij : j = i
  · subst hij
    have hj := (List.getElem?_eq_some_iff.1 hk).1
    rw [if_pos rfl, if_pos rfl, if_pos hj]
    obtain ⟨e, he⟩ : ∃ e, es[j]? = some e := ⟨_, List.getElem?_eq_getElem (by omega)⟩
    rw [he]
    have := (kvs_at h he hk).1
    show some (e.key, KV'.val (p, l, b)) = some (p.v, KV'.val (p, l, b))
    rw [this, hp]
  · rw [if_neg hij, if_neg hij]
    have := congrArg (·[i]?) h
    simp only [List.getElem?_map] at this
    rw [← this]
theorem born_modify {es : List MapEntry} {j : Nat} {v : Value} : (es.modify j (fun e => { e with val := v })).map (·.born) = es.map (·.born) := by
  refine List.ext_getElem? fun i => ?_
  rw [List.getElem?_map, List.getElem?_map, get_modify]
  by_cases hij : j = i
  · rw [if_pos hij]; cases es[i]? <;> rfl
  · rw [if_neg hij]
theorem PM.add {n0 n1 r : Nat} {kv : List KV'} (h : PM n1 m r kv) (hn0 : n0 ≤ r) (hn1 : n0 ≤ n1) (hnm : n1 ≤ m.n) (hr : r < n1) {p : Pl} {u : UW} (hw : one u.w = true) (hs : (getL kv p).length < 1000000) {P : M → M → M → Prop}
    (hP : ∀ m2 m3 m4 kv', PM n1 m4 r kv' → (∀ q, getL kv' q = if q = p then getL kv p ++ [u] else getL kv q) → Fr1 n1 r m m4 → m2.n = m.n + 1 → m3.n = m.n + 2 → m4.n = m.n + 2 → n0 ≤ m2.low → n0 ≤ m3.low → n0 ≤ m4.low → P m2 m3 m4) :
    on2 (buildSlice? Tab.env m 29 1 [(0, u.v)]) fun a m1 => on2 (mapEntry? Tab.env (m1.wl m1.n) 103 (.map (some r)) p.v) fun e m2 => onS (extr? e 0) fun old =>
      on2 (builtin? Tab.env (m2.wl m2.n) .append [29, 29] [old, a]) fun nw m3 => onS (extr? e 1) fun st => onS (entryStore? (m3.wl m3.n) (.map (some r)) st nw) fun m4 => P m2 m3 m4 := by
  rw [one_un', on2_some]
  obtain ⟨es, clock, he, hkv, hborn, hnd⟩ := h.ex
  generalize hm1 : m.push (.cells u.c 57 none) = m1
  have hn1' : m1.n = m.n + 1 := by rw [← hm1]; rfl
  have hx1 : Ext m m1 := by rw [← hm1]; exact Ext.refl.push
  have hg1 : m1.get m.n = .cells u.c 57 none := by rw [← hm1]; exact M.get_push_new
  have hrm : r < m.n := M.lt_of_map he
  have he1 : (m1.wl m1.n).get r = .map es clock := by show m1.get r = _; rw [hx1.get r hrm, he]
  rw [mapEntry_eq he1]
  -- what the two cases have in common: the new row, and the rest
  have tail : ∀ (m2 : M) (old : Value) (ol : List UW), m2.n = m1.n → m2.low = r → (∀ c, c ≠ r → m2.get c = m1.get c) → Ow n1 m2 ol old → ol.length < 1000000 →
      ∃ nw m3 b, builtin? Tab.env (m2.wl m2.n) .append [29, 29] [old, .slice (some ⟨m.n, 0, none⟩) 1 1] = some (nw, m3) ∧ nw = KV'.val (p, ol ++ [u], b) ∧ Own n1 m3 (ol ++ [u]) b ∧ m.n + 1 ≤ b ∧ m3.n = m.n + 2 ∧ n1 ≤ m3.low ∧
        (∀ c, c < m2.n → (∀ a n k, old = .slice (some a) n k → c ≠ a.block) → m3.get c = m2.get c) ∧ (∀ c, c < n1 → m3.get c = m2.get c) := by
    intro m2 old ol h2n h2l h2g hol hlen
    have hgm : m2.get m.n = .cells u.c 57 none := by rw [h2g _ (by omega), hg1]
    obtain ⟨nw, m3, e1, ho, hf, hl, hn3⟩ := hol.append_new apt_uw (by simp [Rep.tys]) (sl_one_un hgm hw) (by omega) (by simp; omega) (by simp)
    obtain ⟨b, rfl, hb⟩ := Own.of ho (by simp)
    exact ⟨_, m3, b, e1, rfl, ⟨hb.1, by have := hb.2.1; omega, hb.2.2⟩, by have := hb.2.1; omega, by omega, hl, fun c hc hca => append_other e1 hc hca, hf.get⟩
  have plr : ∀ c cs t g, m.get c = .cells cs t g → c ≠ r := fun c cs t g hc e => by subst e; rw [he] at hc; cases hc
  rcases kvs_find (p := p) (i := 0) hkv with ⟨a, b, c⟩ | ⟨j, k, hj, hkp, hgl, hfind⟩
  · -- a new entry
    rw [c]
    dsimp only
    rw [on2_some, extr_tuple]
    simp only [List.getElem?_cons_zero, List.getElem?_cons_succ, onS_some]
    generalize hm2 : (m1.wl m1.n).set r (.map (es ++ [{ key := p.v, val := .slice none 0 0, born := clock }]) (clock + 1)) = m2
    have h2n : m2.n = m1.n := by rw [← hm2]; rfl
    have h2l : m2.low = r := by rw [← hm2]; show min m1.n r = r; omega
    have h2g : ∀ c, c ≠ r → m2.get c = m1.get c := fun c hc => by rw [← hm2, M.get_set_ne hc]; rfl
    have h2r : m2.get r = .map (es ++ [{ key := p.v, val := .slice none 0 0, born := clock }]) (clock + 1) := by rw [← hm2]; exact M.get_set_same (m := m1.wl m1.n) (by show r < m1.n; omega)
    obtain ⟨nw, m3, b', e1, rfl, hown, hb', h3n, h3l, h3g, h3low⟩ := tail m2 (.slice none 0 0) [] h2n h2l h2g Ow.nil (by simp)
    rw [e1, on2_some, extr_tuple]
    simp only [List.getElem?_cons_zero, List.getElem?_cons_succ, onS_some]
    have h3r : (m3.wl m3.n).get r = .map (es ++ [{ key := p.v, val := .slice none 0 0, born := clock }]) (clock + 1) := by
      show m3.get r = _
      rw [h3low r hr, h2r]
    have hnd' : ((es ++ [{ key := p.v, val := .slice none 0 0, born := clock }] : List MapEntry).map (·.born)).Nodup := by
      rw [List.map_append]
      refine List.nodup_append.2 ⟨hnd, by simp, ?_⟩
      intro x hx y hy hxy
      obtain ⟨e, hee, rfl⟩ := List.mem_map.1 hx
      have := hborn e hee
      simp at hy
      omega
    have hst : stampIx ((clock : Nat) : Int) (es ++ [{ key := p.v, val := .slice none 0 0, born := clock }]) 0 = some es.length := by
      have := stampIx_of (i := 0) (j := es.length) (e := { key := p.v, val := .slice none 0 0, born := clock }) hnd' (by simp)
      rw [this, Nat.zero_add]
    rw [entryStore_eq h3r hst, onS_some]
    generalize hm4 : (m3.wl m3.n).set r _ = m4
    have h4n : m4.n = m3.n := by rw [← hm4]; rfl
    have h4g : ∀ c, c ≠ r → m4.get c = m3.get c := fun c hc => by rw [← hm4, M.get_set_ne hc]; rfl
    have hlow4 : m4.low = r := by rw [← hm4]; show min m3.n r = r; omega
    have h4r : m4.get r = .map (es ++ [{ key := p.v, val := KV'.val (p, [] ++ [u], b'), born := clock }]) (clock + 1) := by
      rw [← hm4, M.get_set_same (m := m3.wl m3.n) (by show r < m3.n; omega)]
      congr 1
      refine List.ext_getElem? fun i => ?_
      rw [get_modify]
      by_cases hi : es.length = i
      · subst hi; simp
      · rw [if_neg hi]
        by_cases hlt : i < es.length
        · rw [List.getElem?_append_left hlt, List.getElem?_append_left hlt]
        · rw [List.getElem?_eq_none (by simp; omega), List.getElem?_eq_none (by simp; omega)]
    have old4 : ∀ c, c < m.n → c ≠ r → m4.get c = m.get c := fun c hc hcr => by rw [h4g c hcr, h3g c (by omega) (fun a n k e => by cases e), h2g c hcr, hx1.get c hc]
    refine hP m2 m3 m4 (kv ++ [(p, [] ++ [u], b')]) ⟨⟨_, _, h4r, ?_, ?_, ?_⟩, ?_, ?_, ?_⟩ ?_ ⟨by omega, ?_, ?_⟩ (by omega) h3n (by omega) (by omega) (by omega) (by omega)
    · unfold kvs at hkv ⊢
      rw [List.map_append, List.map_append, hkv]; rfl
    · intro e hee
      rcases List.mem_append.1 hee with h | h
      · have := hborn e h; omega
      · obtain rfl := List.mem_singleton.1 h
        show clock < clock + 1
        omega
    · rw [List.map_append] at hnd' ⊢; exact hnd'
    · rw [List.map_append]
      exact List.nodup_append.2 ⟨h.keys, by simp, fun x hx y hy hxy => b (by simp at hy; rw [← hy, ← hxy]; exact hx)⟩
    · rw [List.map_append]
      refine List.nodup_append.2 ⟨h.blks, by simp, fun x hx y hy hxy => ?_⟩
      obtain ⟨k, hk, rfl⟩ := List.mem_map.1 hx
      obtain ⟨_, _, cs, hcs, _⟩ := h.own k hk
      have := M.lt_of_get hcs
      simp at hy
      omega
    · intro k hk
      rcases List.mem_append.1 hk with hk | hk
      · have ho := h.own k hk
        obtain ⟨_, _, cs, hcs, _⟩ := id ho
        exact ho.keep (old4 _ (M.lt_of_get hcs) (plr _ _ _ _ hcs))
      · obtain rfl := List.mem_singleton.1 hk
        exact hown.keep (h4g _ (by show b' ≠ r; omega))
    · intro q
      rw [getL_snoc b q, a]
    · intro c cs t g hc _
      rw [old4 c (M.lt_of_get hc) (plr _ _ _ _ hc), hc]
    · intro c hc hcr
      exact old4 c (by omega) hcr
  · -- the entry is there
    have hjl := (List.getElem?_eq_some_iff.1 hj).1
    have hlen := kvs_len hkv
    obtain ⟨e, hej⟩ : ∃ e, es[j]? = some e := ⟨_, List.getElem?_eq_getElem (by omega)⟩
    rw [hfind]
    dsimp only
    rw [on2_some, extr_tuple]
    simp only [List.getElem?_cons_zero, List.getElem?_cons_succ, onS_some, Nat.zero_add, hej, Option.map_some, Option.getD_some]
    rw [kvs_modify_key hkv hj hkp]
    generalize hm2 : (m1.wl m1.n).set r (.map es clock) = m2
    have h2n : m2.n = m1.n := by rw [← hm2]; rfl
    have h2l : m2.low = r := by rw [← hm2]; show min m1.n r = r; omega
    have h2g : ∀ c, c ≠ r → m2.get c = m1.get c := fun c hc => by rw [← hm2, M.get_set_ne hc]; rfl
    have h2r : m2.get r = .map es clock := by rw [← hm2]; exact M.get_set_same (m := m1.wl m1.n) (by show r < m1.n; omega)
    have hok := h.own k (List.mem_of_getElem? hj)
    obtain ⟨_, hb0, cs0, hcs0, _⟩ := id hok
    have hb0m := M.lt_of_get hcs0
    have old2 : ∀ c cs t g, m.get c = .cells cs t g → m2.get c = .cells cs t g := fun c cs t g hc => by rw [h2g c (plr _ _ _ _ hc), hx1.get c (M.lt_of_get hc), hc]
    have hok2 : Own n1 m2 k.2.1 k.2.2 := hok.keep (by rw [hcs0]; exact old2 _ _ _ _ hcs0)
    obtain ⟨nw, m3, b', e1, rfl, hown, hb', h3n, h3l, h3g, h3low⟩ := tail m2 (KV'.val k) k.2.1 h2n h2l h2g hok2.ow (by rw [← hgl]; exact hs)
    rw [e1, on2_some, extr_tuple]
    simp only [List.getElem?_cons_zero, List.getElem?_cons_succ, onS_some]
    have h3r : (m3.wl m3.n).get r = .map es clock := by
      show m3.get r = _
      rw [h3low r hr, h2r]
    have hst : stampIx ((e.born : Nat) : Int) es 0 = some j := by
      rw [stampIx_of (i := 0) hnd hej, Nat.zero_add]
    rw [entryStore_eq h3r hst, onS_some]
    generalize hm4 : (m3.wl m3.n).set r _ = m4
    have h4n : m4.n = m3.n := by rw [← hm4]; rfl
    have h4g : ∀ c, c ≠ r → m4.get c = m3.get c := fun c hc => by rw [← hm4, M.get_set_ne hc]; rfl
    have hlow4 : m4.low = r := by rw [← hm4]; show min m3.n r = r; omega
    have h4r : m4.get r = .map (es.modify j fun e => { e with val := KV'.val (p, k.2.1 ++ [u], b') }) clock := by
      rw [← hm4, M.get_set_same (m := m3.wl m3.n) (by show r < m3.n; omega)]
    have old4 : ∀ c, c < m.n → c ≠ r → c ≠ k.2.2 → m4.get c = m.get c := fun c hc hcr hck => by rw [h4g c hcr, h3g c (by omega) (fun a n q e => by cases e; exact hck), h2g c hcr, hx1.get c hc]
    have hset : kv.set j (p, k.2.1 ++ [u], b') = kv.set j (k.1, k.2.1 ++ [u], b') := by rw [hkp]
    refine hP m2 m3 m4 (kv.set j (p, k.2.1 ++ [u], b')) ⟨⟨_, _, h4r, kvs_modify_val hkv hj hkp, ?_, ?_⟩, ?_, ?_, ?_⟩ ?_ ⟨by omega, ?_, ?_⟩ (by omega) h3n (by omega) (by omega) (by omega) (by omega)
    · intro f hf
      have : f.born ∈ (es.modify j fun e => { e with val := KV'.val (p, k.2.1 ++ [u], b') }).map (·.born) := List.mem_map.2 ⟨f, hf, rfl⟩
      rw [born_modify] at this
      obtain ⟨f', hf', hfe⟩ := List.mem_map.1 this
      rw [← hfe]
      exact hborn f' hf'
    · rw [born_modify]; exact hnd
    · have e : (kv.set j (p, k.2.1 ++ [u], b')).map (·.1) = kv.map (·.1) := by
        rw [List.map_set]
        refine List.ext_getElem? fun i => ?_
        rw [List.getElem?_set]
        by_cases hij : j = i
        · subst hij; rw [if_pos rfl, List.length_map, if_pos hjl, List.getElem?_map, hj, Option.map_some, hkp]
        · rw [if_neg hij]
      rw [e]; exact h.keys
    · rw [List.map_set]
      have hnin : b' ∉ kv.map (·.2.2) := fun hin => by
        obtain ⟨q, hq, hqb⟩ := List.mem_map.1 hin
        obtain ⟨_, _, cs, hcs, _⟩ := h.own q hq
        have := M.lt_of_get hcs
        omega
      have hold := nodup_get.1 h.blks
      refine nodup_get.2 fun i i' x hi hi' => ?_
      rw [List.getElem?_set, List.length_map] at hi hi'
      by_cases h1 : j = i <;> by_cases h2 : j = i'
      · omega
      · rw [if_pos h1, if_pos hjl] at hi
        rw [if_neg h2] at hi'
        cases hi
        exact absurd (List.mem_of_getElem? hi') hnin
      · rw [if_pos h2, if_pos hjl] at hi'
        rw [if_neg h1] at hi
        cases hi'
        exact absurd (List.mem_of_getElem? hi) hnin
      · rw [if_neg h1] at hi
        rw [if_neg h2] at hi'
        exact hold i i' x hi hi'
    · intro q hq
      obtain ⟨i, hi⟩ := List.mem_iff_getElem?.1 hq
      rw [List.getElem?_set] at hi
      by_cases hij : j = i
      · rw [if_pos hij, if_pos hjl] at hi
        cases hi
        exact hown.keep (h4g _ (by show b' ≠ r; omega))
      · rw [if_neg hij] at hi
        have ho := h.own q (List.mem_of_getElem? hi)
        obtain ⟨_, _, cs, hcs, _⟩ := id ho
        have hne : q.2.2 ≠ k.2.2 := fun e => by
          exact hij (nodup_get.1 h.blks j i q.2.2 (by rw [List.getElem?_map, hj, Option.map_some, e]) (by rw [List.getElem?_map, hi, Option.map_some]))
        exact ho.keep (old4 _ (M.lt_of_get hcs) (plr _ _ _ _ hcs) hne)
    · intro q
      rw [hset, getL_set hj h.keys q, hkp, hgl]
    · intro c cs t g hc ht
      rw [old4 c (M.lt_of_get hc) (plr _ _ _ _ hc) (fun e => by
        subst e
        rw [hcs0] at hc
        cases hc
        rcases ht with h | h
        · exact h rfl
        · cases h), hc]
    · intro c hc hcr
      exact old4 c (by omega) hcr (by omega)
end Go.Proofs.YtjecgmfildhpiaaGreatDoor

/- Contracts: draw.covers. -/
namespace Go.Proofs.YtjecgmfildhpiaaGreatDoor
open Go Go.D
variable {X : CallFn} {m : M}

/-- The least and the greatest coordinates of the first corners. -/
def boxLo (l : List Pl) (i : Nat) : Pl := (l.take i).foldl (fun q p => ⟨min q.x p.x, min q.y p.y⟩) (l.headD ⟨0, 0⟩)
def boxHi (l : List Pl) (i : Nat) : Pl := (l.take i).foldl (fun q p => ⟨max q.x p.x, max q.y p.y⟩) (l.headD ⟨0, 0⟩)
theorem boxLo_succ {l : List Pl} {i : Nat} {p : Pl} (h : l[i]? = some p) : boxLo l (i + 1) = ⟨min (boxLo l i).x p.x, min (boxLo l i).y p.y⟩ := by
  unfold boxLo
  rw [List.take_add_one, h, Option.toList_some, List.foldl_append]; rfl
theorem boxHi_succ {l : List Pl} {i : Nat} {p : Pl} (h : l[i]? = some p) : boxHi l (i + 1) = ⟨max (boxHi l i).x p.x, max (boxHi l i).y p.y⟩ := by
  unfold boxHi
  rw [List.take_add_one, h, Option.toList_some, List.foldl_append]; rfl
def Pl.onM (p : Pl) : Prop := 0 ≤ p.x ∧ p.x ≤ 40 ∧ 0 ≤ p.y ∧ p.y ≤ 40
theorem box_on {l : List Pl} (hon : ∀ p ∈ l, p.off = false) (hne : l ≠ []) : ∀ i, i ≤ l.length → (boxLo l i).onM ∧ (boxHi l i).onM ∧ (boxLo l i).x ≤ (boxHi l i).x ∧ (boxLo l i).y ≤ (boxHi l i).y
  | 0, _ => by
    cases l with
    | nil => exact absurd rfl hne
    | cons p l =>
      have := Pl.on (hon p List.mem_cons_self)
      exact ⟨this, this, Int.le_refl _, Int.le_refl _⟩
  | i + 1, hi => by
    obtain ⟨h1, h2, h3, h4⟩ := box_on hon hne i (by omega)
    obtain ⟨p, hp⟩ : ∃ p, l[i]? = some p := ⟨_, List.getElem?_eq_getElem (by omega)⟩
    have := Pl.on (hon p (List.mem_of_getElem? hp))
    rw [boxLo_succ hp, boxHi_succ hp]
    unfold Pl.onM at h1 h2 ⊢
    dsimp only
    omega
/-- Does a unit cover a cell? -/
def inBx (l : List Pl) (q : Pl) : Bool := decide ((boxLo l l.length).x ≤ q.x) && decide (q.x < (boxHi l l.length).x) && decide ((boxLo l l.length).y ≤ q.y) && decide (q.y < (boxHi l l.length).y)
def covB (u : Un) (q : Pl) : Bool := inBx u.shape q && decide (0 ≤ cellZ u.shape q.x q.y)
/-- The units that cover a cell, in their order. -/
def covL (us : List UW) (q : Pl) : List UW := us.filter fun u => covB u.u q
/-- Is the cell among those before (x, y)? -/
def partB (y x : Int) (q : Pl) : Bool := decide (q.y < y) || (decide (q.y = y) && decide (q.x < x))
/-- So far with the cells. -/
def MapIs (kv : List KV') (us : List UW) (u : UW) (y x : Int) : Prop := ∀ q, getL kv q = covL us q ++ (if covB u.u q && partB y x q then [u] else [])
structure Cv (m0 : M) (u : UW) (b8 b16 b26 : Nat) (lo hi : Pl) (kv : List KV') (mm : M) : Prop where
  old : ∀ c, c < m0.n → mm.get c = m0.get c
  n : m0.n + 2 ≤ mm.n
  un : mm.get b8 = .cells u.c 57 none
  lo : mm.get b16 = .cells lo.c 64 none
  hi : mm.get b26 = .cells hi.c 64 none
  pm : PM (m0.n + 2) mm (m0.n + 1) kv
theorem Cv.keep {m0 : M} {u : UW} {b8 b16 b26 : Nat} {lo hi : Pl} {kv : List KV'} {mm mm' : M} (h : Cv m0 u b8 b16 b26 lo hi kv mm) (hx : Ext mm mm') : Cv m0 u b8 b16 b26 lo hi kv mm' :=
  ⟨fun c hc => by rw [hx.get c (by have := h.n; omega), h.old c hc], by have := h.n; have := hx.n; omega, hx.cells h.un, hx.cells h.lo, hx.cells h.hi, h.pm.keepE hx⟩
theorem sl_old {α : Type} [Rep α] {m0 mm : M} {l : List α} {v : Value} (h : Sl m0 l v) (ho : ∀ c, c < m0.n → mm.get c = m0.get c) : Sl mm l v := h.keep fun b c t g hb _ => by rw [ho b (M.lt_of_get hb), hb]
/-- A store into a row that append has not made. -/
theorem PM.store {n1 r b : Nat} {kv : List KV'} {m' : M} {cs : List Value} {t : TypeId} (h : PM n1 m r kv) (hb : m.get b = .cells cs t none) (hk : ∀ c, c ≠ b → m'.get c = m.get c) : PM n1 m' r kv := by
  obtain ⟨es, clock, h1, h2⟩ := h.ex
  refine ⟨⟨es, clock, by rw [hk r (fun e => by subst e; rw [h1] at hb; cases hb), h1], h2⟩, h.keys, h.blks, fun k hk' => ?_⟩
  have ho := h.own k hk'
  obtain ⟨_, _, cs', h3, _⟩ := id ho
  exact ho.keep (hk _ fun e => by rw [e, hb] at h3; cases h3)
theorem partB_row {l : List Pl} {y : Int} {q : Pl} (h : inBx l q = true) : partB y (boxHi l l.length).x q = partB (y + 1) (boxLo l l.length).x q := by
  simp only [inBx, Bool.and_eq_true, decide_eq_true_eq] at h
  have e1 : decide (q.x < (boxHi l l.length).x) = true := by simp; omega
  have e2 : decide (q.x < (boxLo l l.length).x) = false := by simp; omega
  unfold partB
  rw [e1, e2, Bool.and_true, Bool.and_false, Bool.or_false]
  by_cases h1 : q.y < y <;> by_cases h2 : q.y = y <;> by_cases h3 : q.y < y + 1 <;> simp [h1, h2, h3] <;> omega
theorem partB_step {y x : Int} {q : Pl} : partB y (x + 1) q = (partB y x q || decide (q = ⟨x, y⟩)) := by
  obtain ⟨a, b⟩ := q
  unfold partB
  dsimp only
  have e : decide (({ x := a, y := b } : Pl) = ⟨x, y⟩) = (decide (a = x) && decide (b = y)) := by by_cases h1 : a = x <;> by_cases h2 : b = y <;> simp [h1, h2]
  rw [e]
  by_cases h1 : b < y <;> by_cases h2 : b = y <;> by_cases h3 : a < x <;> by_cases h4 : a = x <;> by_cases h5 : a < x + 1 <;> simp [h1, h2, h3, h4, h5] <;> omega
theorem partB_no {y x : Int} : partB y x ⟨x, y⟩ = false := by
  unfold partB
  simp
/-- One cell more, which the unit covers or does not. -/
theorem MapIs.step {kv kv' : List KV'} {us : List UW} {u : UW} {y x : Int} (h : MapIs kv us u y x) (hc : covB u.u ⟨x, y⟩ = true) (hq : ∀ q, getL kv' q = if q = ⟨x, y⟩ then getL kv ⟨x, y⟩ ++ [u] else getL kv q) : MapIs kv' us u y (x + 1) := by
  intro q
  rw [hq, partB_step]
  by_cases e : q = ⟨x, y⟩
  · subst e
    rw [if_pos rfl, h ⟨x, y⟩, partB_no, hc]
    simp
  · rw [if_neg e, h q]
    simp [e]
theorem MapIs.skip {kv : List KV'} {us : List UW} {u : UW} {y x : Int} (h : MapIs kv us u y x) (hc : covB u.u ⟨x, y⟩ = false) : MapIs kv us u y (x + 1) := by
  intro q
  rw [h q, partB_step]
  by_cases e : q = ⟨x, y⟩
  · subst e
    rw [hc]; simp
  · simp [e]
theorem MapIs.row {kv : List KV'} {us : List UW} {u : UW} {y : Int} (h : MapIs kv us u y (boxHi u.u.shape u.u.shape.length).x) : MapIs kv us u (y + 1) (boxLo u.u.shape u.u.shape.length).x := by
  intro q
  rw [h q]
  congr 1
  cases hc : covB u.u q with
  | false => rfl
  | true =>
    have : inBx u.u.shape q = true := by
      unfold covB at hc
      rw [Bool.and_eq_true] at hc
      exact hc.1
    rw [partB_row this]
theorem MapIs.start {kv : List KV'} {us : List UW} {u : UW} (h : ∀ q, getL kv q = covL us q) : MapIs kv us u (boxLo u.u.shape u.u.shape.length).y (boxLo u.u.shape u.u.shape.length).x := by
  intro q
  rw [h q]
  have : (covB u.u q && partB (boxLo u.u.shape u.u.shape.length).y (boxLo u.u.shape u.u.shape.length).x q) = false := by
    cases hc : covB u.u q with
    | false => rfl
    | true =>
      unfold covB at hc
      simp only [inBx, Bool.and_eq_true, decide_eq_true_eq] at hc
      unfold partB
      simp
      omega
  rw [this]; simp
theorem MapIs.done {kv : List KV'} {us : List UW} {u : UW} {y x : Int} (h : MapIs kv us u y x) (hy : (boxHi u.u.shape u.u.shape.length).y ≤ y) : ∀ q, getL kv q = covL (us ++ [u]) q := by
  intro q
  rw [h q]
  unfold covL
  rw [List.filter_append]
  congr 1
  cases hc : covB u.u q with
  | false => simp [hc]
  | true =>
    have hc' := hc
    unfold covB at hc'
    simp only [inBx, Bool.and_eq_true, decide_eq_true_eq] at hc'
    have : partB y x q = true := by
      unfold partB
      simp
      omega
    simp [hc, this]
end Go.Proofs.YtjecgmfildhpiaaGreatDoor

/- Contracts: draw.covers, the walk. -/
namespace Go.Proofs.YtjecgmfildhpiaaGreatDoor
open Go Go.D
variable {X : CallFn} {m : M}

theorem _root_.Go.D.Sl.at_uw {l : List UW} {v : Value} (h : Sl m l v) {i : Nat} {x : UW} (hi : l[i]? = some x) {k : IntKind} : ∃ a, indexAddr? Tab.env 29 v (.int k i) = some a ∧ load? Tab.env m 57 a = some x.v ∧ one x.w = true := by
  obtain ⟨a, cs, h1, h2, rfl, h3⟩ := h.index slt_uw (k := k) hi
  exact ⟨a, h1, h2, h3⟩
theorem load_uw {b : Nat} {x : UW} {e : TypeId} {g : Option Nat} (h : m.get b = .cells x.c e g) : load? Tab.env m 57 (.pointer (some ⟨b, 0, none⟩)) = some x.v := load_un h
theorem covers_ok (hX : NoX X) {us : List UW} {v : Value} (hl : Sl m us v) (hsh : ∀ x ∈ us, Sl m x.u.shape x.w) (hval : ∀ x ∈ us, validB x.u.shape = true) (hlen : us.length ≤ 1000) :
    ∃ m' kv, C X (.func 55) [.agg #[v]] m m.n (.map (some (m.n + 1))) m' ∧ Ext m m' ∧ PM (m.n + 2) m' (m.n + 1) kv ∧ ∀ q, getL kv q = covL us q := by
  have key := Cl.heap (E := Tab.env) (X := X) (f := 55) (args := [.agg #[v]]) (m := m) (R := fun v' m' b => b = m.n ∧ v' = .map (some (m.n + 1)) ∧ Ext m m' ∧ ∃ kv, PM (m.n + 2) m' (m.n + 1) kv ∧ ∀ q, getL kv q = covL us q) (hX.no _ rfl) fn_55 rfl ?_
  · obtain ⟨v', m', b, hc, rfl, rfl, hx, kv, h1, h2⟩ := key
    exact ⟨m', kv, hc, hx, h1, h2⟩
  rw [F55]; dsimp only [plainW]
  refine onM_push fun m1 hn1 hg1 hk1 => ?_
  refine onM_push fun m2 hn2 hg2 hk2 => ?_
  have g0 : m2.get m.n = .cells [v] 31 none := by rw [hk2 _ (by omega), hg1]; rfl
  have old2 : ∀ c, c < m.n → m2.get c = m.get c := fun c hc => by rw [hk2 c (by omega), hk1 c hc]
  rw [hn1] at hg2 hn2 hk2 ⊢
  simp only [ptrTo]
  rw [fieldAddr_31_0, onS_some, load_29, cellAt_of g0]
  simp only [Nat.zero_add, List.getElem?_cons_zero, onS_some]
  rw [(sl_old hl old2).len slt_uw, on2_some]
  refine Lp.intro (γ := Nat) (fun i => us.length - i) (fun i vs m8 lo => vs = [.int .i64 i] ∧ i ≤ us.length ∧ (∀ c, c < m.n → m8.get c = m.get c) ∧ m.n + 2 ≤ m8.n ∧ m.n ≤ lo ∧ ∃ kv, PM (m.n + 2) m8 (m.n + 1) kv ∧ ∀ q, getL kv q = covL (us.take i) q) 0
    ⟨rfl, Nat.zero_le _, old2, by omega, Nat.le_refl _, [], ⟨⟨[], 0, hg2, rfl, (fun e he => by cases he), List.nodup_nil⟩, List.nodup_nil, List.nodup_nil, (fun k hk => by cases hk)⟩, fun q => rfl⟩ ?_
  rintro i vs m8 lo8 ⟨rfl, hi, old8, hn8, hlo8, kv8, hpm8, hget8⟩
  simp only [un_cons, bin_lss, onS_some, ifV_bool]
  refine ifB_intro (fun hlt => ?_) (fun hge => ?_)
  · have hlt : i < us.length := by simpa using hlt
    obtain ⟨x, hx⟩ : ∃ x, us[i]? = some x := ⟨_, List.getElem?_eq_getElem hlt⟩
    have hxm := List.mem_of_getElem? hx
    have hshx := hsh x hxm
    have hv := hval x hxm
    have hsl := valid_len hv
    have hon := valid_on hv
    have hne : x.u.shape ≠ [] := by intro e; rw [e] at hsl; simp at hsl
    obtain ⟨p0, hp0⟩ : ∃ p, x.u.shape[0]? = some p := ⟨_, List.getElem?_eq_getElem (by omega)⟩
    obtain ⟨a, e1, e2, hone⟩ := (sl_old hl old8).at_uw (k := .i64) hx
    rw [e1, onS_some, e2, onS_some]
    refine onM_push fun m15 hn15 hg15 hk15 => ?_
    refine on2_storeV ty_57 hg15 rfl rfl (Un.c_one hone) fun m16 hn16 hg16 hk16 => ?_
    have hx816 : Ext m8 m16 := ⟨by omega, fun b hb => by rw [hk16 b (by omega), hk15 b hb]⟩
    have old16 : ∀ c, c < m.n → m16.get c = m.get c := fun c hc => by rw [hx816.get c (by omega), old8 c hc]
    obtain ⟨b0, o0, bc0, gg0, cs0, ea0, hb0, _⟩ := hshx.indexA slt_pl (k := .i64) hp0
    have hb0m := M.lt_of_get hb0
    obtain ⟨a0, ea1, la0⟩ := (sl_old hshx old16).at_pl (k := .i64) hp0
    obtain rfl : a0 = .pointer (some ⟨b0, o0, none⟩) := by
      have := ea1.symm.trans ea0
      exact Option.some.inj this
    have ea1 : indexAddr? Tab.env 45 x.w (.int .i64 0) = some (.pointer (some ⟨b0, o0, none⟩)) := ea1
    have ldw : ∀ mm : M, mm.get m8.n = .cells x.c 57 none → load? Tab.env mm 45 (.pointer (some ⟨m8.n, 0 + 3, none⟩)) = some x.w := fun mm h => by
      rw [load_45, cellAt_of h]; rfl
    rw [fieldAddr_57_3, onS_some, ldw m16 hg16, onS_some, ea1, onS_some, la0, onS_some, onS_some, ldw m16 hg16, onS_some, ea1, onS_some, la0, onS_some]
    refine onM_push fun m26 hn26 hg26 hk26 => ?_
    refine onM_push fun m27 hn27 hg27 hk27 => ?_
    have h27 := (hk27 m16.n (by omega)).trans hg26
    refine on2_storeV ty_64 h27 rfl rfl rfl fun m28 hn28 hg28 hk28 => ?_
    refine ⟨.inr ⟨by show m8.n ≠ m16.n; omega, by show b0 ≠ m16.n; omega, trivial⟩, ?_⟩
    have h28 := (hk28 m26.n (by omega)).trans hg27
    refine on2_storeV ty_64 h28 rfl rfl rfl fun m30 hn30 hg30 hk30 => ?_
    have hx1630 : Ext m16 m30 := ⟨by omega, fun b hb => by rw [hk30 b (by omega), hk28 b (by omega), hk27 b (by omega), hk26 b hb]⟩
    have hp0' : boxLo x.u.shape 0 = p0 ∧ boxHi x.u.shape 0 = p0 := by
      have : x.u.shape.headD ⟨0, 0⟩ = p0 := by
        rw [List.headD_eq_head?_getD, List.head?_eq_getElem?, hp0]; rfl
      exact ⟨this, this⟩
    have cv30 : Cv m x m8.n m16.n m26.n (boxLo x.u.shape 0) (boxHi x.u.shape 0) kv8 m30 := by
      rw [hp0'.1, hp0'.2]
      exact ⟨fun c hc => by rw [hx1630.get c (by omega), old16 c hc], by omega, hx1630.cells hg16, by rw [hk30 _ (by omega), hg28]; rfl, by rw [hg30]; rfl, (hpm8.keepE hx816).keepE hx1630⟩
    rw [onS_some, ldw m30 cv30.un, onS_some, (sl_old hshx cv30.old).len slt_pl, on2_some]
    refine Lp.intro (γ := Nat) (fun k => x.u.shape.length - k) (fun k vs m37 lo => vs = [.int .i64 k] ∧ k ≤ x.u.shape.length ∧ Cv m x m8.n m16.n m26.n (boxLo x.u.shape k) (boxHi x.u.shape k) kv8 m37 ∧ m30.n ≤ m37.n ∧ m.n ≤ lo) 0 ⟨rfl, Nat.zero_le _, cv30, Nat.le_refl _, by omega⟩ ?_
    rintro k vs m37 lo37 ⟨rfl, hk, cv37, hn37, hlo37⟩
    simp only [un_cons, bin_lss, onS_some, ifV_bool]
    refine ifB_intro (fun hlt2 => ?_) (fun hge2 => ?_)
    · have hlt2 : k < x.u.shape.length := by simpa using hlt2
      obtain ⟨p, hp⟩ : ∃ p, x.u.shape[k]? = some p := ⟨_, List.getElem?_eq_getElem hlt2⟩
      obtain ⟨q, e1, e2⟩ := (sl_old hshx cv37.old).at_pl (k := .i64) hp
      rw [e1, onS_some, e2, onS_some]
      refine onM_push fun m44 hn44 hg44 hk44 => ?_
      refine on2_storeV ty_64 hg44 rfl rfl rfl fun m45 hn45 hg45 hk45 => ?_
      have hx45 : Ext m37 m45 := ⟨by omega, fun b hb => by rw [hk45 b (by omega), hk44 b hb]⟩
      have cv45 := cv37.keep hx45
      have glo := cv45.lo
      have ghi := cv45.hi
      have gp : m45.get m37.n = .cells p.c 64 none := hg45
      simp only [Pl.c] at glo ghi gp
      simp only [fieldAddr_64_0, fieldAddr_64_1, onS_some, load_3, cellAt_of glo, cellAt_of ghi, cellAt_of gp, Nat.zero_add, List.getElem?_cons_zero, List.getElem?_cons_succ, min_two, max_two, on2_some]
      rw [build_64_0_1 rfl rfl, onS_some, build_64_0_1 rfl rfl, onS_some]
      refine on2_storeV ty_64 glo rfl rfl rfl fun m69 hn69 hg69 hk69 => ?_
      refine ⟨.inr ⟨by show m26.n ≠ m16.n; omega, by show m37.n ≠ m16.n; omega, by show m26.n ≠ m16.n; omega, by show m37.n ≠ m16.n; omega, trivial⟩, ?_⟩
      have ghi69 := (hk69 m26.n (by omega)).trans ghi
      refine on2_storeV ty_64 ghi69 rfl rfl rfl fun m71 hn71 hg71 hk71 => ?_
      simp only [bin_add, onS_some]
      rw [wrap64 (by omega) (by omega)]
      refine ⟨k + 1, by omega, by simp, by omega, ⟨?_, ?_, ?_, ?_, ?_, ?_⟩, by omega, by omega⟩
      · intro c hc
        rw [hk71 c (by omega), hk69 c (by omega), cv45.old c hc]
      · have := cv45.n; omega
      · rw [hk71 _ (by omega), hk69 _ (by omega), cv45.un]
      · rw [hk71 _ (by omega), hg69, boxLo_succ hp]; rfl
      · rw [hg71, boxHi_succ hp]; rfl
      · exact (cv45.pm.store cv45.lo hk69).store ghi69 hk71
    · have hk' : k = x.u.shape.length := by
        have : ¬ (k : Int) < (x.u.shape.length : Int) := by simpa using hge2
        omega
      subst hk'
      obtain ⟨hbl, hbh, hbx, hby⟩ := box_on hon hne _ (Nat.le_refl _)
      generalize hLO : boxLo x.u.shape x.u.shape.length = LO at *
      generalize hHI : boxHi x.u.shape x.u.shape.length = HI at *
      unfold Pl.onM at hbl hbh
      have glo := cv37.lo
      simp only [Pl.c] at glo
      simp only [fieldAddr_64_0, fieldAddr_64_1, onS_some, load_3, cellAt_of glo, Nat.zero_add, List.getElem?_cons_zero, List.getElem?_cons_succ]
      refine Lp.intro (γ := Int) (fun y => (HI.y - y).toNat) (fun y vs m78 lo => vs = [.int .i64 y] ∧ LO.y ≤ y ∧ y ≤ HI.y ∧ m37.n ≤ m78.n ∧ m.n ≤ lo ∧ ∃ kv, Cv m x m8.n m16.n m26.n LO HI kv m78 ∧ MapIs kv (us.take i) x y LO.x) LO.y
        ⟨rfl, Int.le_refl _, hby, Nat.le_refl _, hlo37, kv8, cv37, by have := MapIs.start (u := x) hget8; rw [hLO] at this; exact this⟩ ?_
      rintro y vs m78 lo78 ⟨rfl, hy1, hy2, hn78, hlo78, kv78, cv78, hmap78⟩
      have ghi := cv78.hi
      have glo := cv78.lo
      simp only [Pl.c] at glo ghi
      simp only [un_cons, cellAt_of ghi, cellAt_of glo, List.getElem?_cons_zero, List.getElem?_cons_succ, onS_some, bin_geq, ifV_bool]
      refine ifB_intro (fun hend => ?_) (fun hgo => ?_)
      · have hend : HI.y ≤ y := by simpa using hend
        simp only [bin_add, onS_some]
        rw [wrap64 (by omega) (by omega)]
        refine ⟨i + 1, by omega, by simp, by omega, cv78.old, cv78.n, hlo78, kv78, cv78.pm, ?_⟩
        rw [List.take_add_one, hx]
        exact hmap78.done (by rw [hHI]; exact hend)
      · have hgo : y < HI.y := by
          have : ¬ HI.y ≤ y := by simpa using hgo
          omega
        refine Lp.intro (γ := Int) (fun z => (HI.x - z).toNat) (fun z vs m90 lo => vs = [.int .i64 z] ∧ LO.x ≤ z ∧ z ≤ HI.x ∧ m37.n ≤ m90.n ∧ m.n ≤ lo ∧ ∃ kv, Cv m x m8.n m16.n m26.n LO HI kv m90 ∧ MapIs kv (us.take i) x y z) LO.x
          ⟨rfl, Int.le_refl _, hbx, hn78, hlo78, kv78, cv78, hmap78⟩ ?_
        rintro z vs m90 lo90 ⟨rfl, hz1, hz2, hn90, hlo90, kv90, cv90, hmap90⟩
        have ghi := cv90.hi
        simp only [Pl.c] at ghi
        simp only [un_cons, cellAt_of ghi, List.getElem?_cons_zero, List.getElem?_cons_succ, onS_some, bin_lss, ifV_bool]
        refine ifB_intro (fun hgo2 => ?_) (fun hend2 => ?_)
        · have hgo2 : z < HI.x := by simpa using hgo2
          rw [build_64_0_1 rfl rfl, onS_some]
          refine onM_push fun m98 hn98 hg98 hk98 => ?_
          refine on2_storeV ty_64 hg98 rfl rfl rfl fun m99 hn99 hg99 hk99 => ?_
          have hx99 : Ext m90 m99 := ⟨by omega, fun b hb => by rw [hk99 b (by omega), hk98 b hb]⟩
          have cv99 := cv90.keep hx99
          have gq : m99.get m90.n = .cells (Pl.c ⟨z, y⟩) 64 none := hg99
          have hn99' := cv99.n
          rw [show load? Tab.env m99 45 (.pointer (some ⟨m8.n, 3, none⟩)) = some x.w from ldw m99 cv99.un, onS_some]
          refine onC_of (cell_ok hX (sl_old hshx cv99.old) (by omega) z y) ?_
          simp only [bin_geq, onS_some, ifV_bool]
          have hin : inBx x.u.shape ⟨z, y⟩ = true := by
            unfold inBx
            rw [hLO, hHI]
            simp only [Bool.and_eq_true, decide_eq_true_eq]
            exact ⟨⟨⟨hz1, hgo2⟩, hy1⟩, hgo⟩
          have hcov : covB x.u ⟨z, y⟩ = decide (0 ≤ cellZ x.u.shape z y) := by unfold covB; rw [hin, Bool.true_and]
          refine ifB_intro (fun hc => ?_) (fun hc => ?_)
          · rw [load_pl gq, onS_some, load_uw cv99.un, onS_some]
            have hsz : (getL kv90 ⟨z, y⟩).length < 1000000 := by
              rw [hmap90 ⟨z, y⟩, List.length_append]
              have h1 : (covL (us.take i) ⟨z, y⟩).length ≤ (us.take i).length := List.length_filter_le _ _
              have h2 : (us.take i).length ≤ us.length := by rw [List.length_take]; omega
              have h3 : (if covB x.u ⟨z, y⟩ && partB y z ⟨z, y⟩ then [x] else []).length ≤ 1 := by split <;> simp
              omega
            refine PM.add (n0 := m.n) cv99.pm (by omega) (by omega) (by omega) (by omega) hone hsz fun m112 m115 m117 kv' hpm' hget' hfr hm2 hm3 hm4 l2 l3 l4 => ?_
            simp only [bin_add, onS_some]
            rw [wrap64 (by omega) (by omega)]
            refine ⟨z + 1, by omega, rfl, by omega, by omega, by omega, by omega, kv', ⟨fun c hc => by rw [hfr.low c (by omega) (by omega), cv99.old c hc], by omega, hfr.cell _ _ _ _ cv99.un (.inr rfl), hfr.cell _ _ _ _ cv99.lo (.inr rfl), hfr.cell _ _ _ _ cv99.hi (.inr rfl), hpm'⟩, ?_⟩
            exact hmap90.step (by rw [hcov]; exact hc) hget'
          · simp only [bin_add, onS_some]
            rw [wrap64 (by omega) (by omega)]
            exact ⟨z + 1, by omega, rfl, by omega, by omega, by omega, by omega, kv90, cv99, hmap90.skip (by rw [hcov]; exact hc)⟩
        · have hz : z = HI.x := by
            have : ¬ z < HI.x := by simpa using hend2
            omega
          subst hz
          simp only [bin_add, onS_some]
          rw [wrap64 (by omega) (by omega)]
          refine ⟨y + 1, by omega, rfl, by omega, by omega, by omega, hlo90, kv90, cv90, ?_⟩
          have := MapIs.row (kv := kv90) (us := us.take i) (u := x) (y := y) (by rw [hHI]; exact hmap90)
          rw [hLO] at this
          exact this
  · have hi' : i = us.length := by
      have : ¬ (i : Int) < (us.length : Int) := by simpa using hge
      omega
    subst hi'
    rw [List.take_length] at hget8
    exact ⟨.inl rfl, by omega, rfl, ⟨by omega, old8⟩, kv8, hpm8, hget8⟩
end Go.Proofs.YtjecgmfildhpiaaGreatDoor

/- Contracts: the elevation of a valid fabric. -/
namespace Go.Proofs.YtjecgmfildhpiaaGreatDoor
open Go Go.D
variable {X : CallFn} {m : M}

/-- The units that cover a cell. -/
def covU (us : List Un) (q : Pl) : List Un := us.filter fun u => covB u q
theorem covL_map (us : List UW) (q : Pl) : (covL us q).map (·.u) = covU (us.map (·.u)) q := by
  unfold covL covU
  rw [List.filter_map]
  rfl
/-- What a cell of an elevation shows. -/
def elevZ (us : List Un) (behind : Bool) (x y : Int) : Int :=
  if behind then idZ (firstU (fun a b => decide (a.back < b.back)) (covU us ⟨39 - x, y⟩) none)
  else idZ (firstU (fun a b => decide (b.front < a.front)) (covU us ⟨x, y⟩) none)
theorem elevCell_ok (hX : NoX X) {us : List UW} {b1 b2 r n1 : Nat} {kv : List KV'} {behind : Bool} (h1 : m.get b1 = .cells [.bool behind] 4 none) (h2 : m.get b2 = .cells [.map (some r)] 103 none)
    (hpm : PM n1 m r kv) (hget : ∀ q, getL kv q = covL us q) (hsh : ∀ x ∈ us, Sl m x.u.shape x.w) (hlen : us.length ≤ 1000) {x y : Int} (hx : 0 ≤ x) (hx' : x < 40) :
    C X (.func 96) [.int .i64 x, .int .i64 y, ptrTo b1, ptrTo b2] m m.n (.int .i64 (elevZ (us.map (·.u)) behind x y)) m := by
  refine Cl.flat (hX.no _ rfl) fn_96 rfl rfl ?_
  rw [F96]; dsimp only [plainW]
  simp only [ptrTo]
  rw [load_4, cellAt_of h1]
  simp only [List.getElem?_cons_zero, onS_some, ifV_bool]
  have go : ∀ (bf : Un → Un → Bool) (fn : Nat) (q : Pl) (P : Value → M → Nat → Prop), (∀ a b wa wb (m1 : M), C X (.func fn) [a.v wa, b.v wb] m1 m1.n (.bool (bf a b)) m1) →
      (∀ m2, m.n ≤ m2.n → ∀ b, m.n ≤ b → P (.int .i64 (idZ (firstU bf (covU (us.map (·.u)) q) none))) m2 b) →
      onS (lookup? Tab.env m 103 (.map (some r)) q.v false) fun v5 => onC Tab.env X (.func 98) [v5, .func (.func fn) #[] #[]] m fun v6 m7 b8 => onS (extr? v6 0) fun v9 => onS (extr? v6 1) fun v10 => onC Tab.env X (.func 97) [v9, v10] m7 fun v11 m12 b13 => P v11 m12 (min (min m.n b8) b13) := by
    intro bf fn q P hs hP
    obtain ⟨v5, e5, hs5⟩ := hpm.lookup q
    rw [e5, onS_some]
    rw [hget q] at hs5
    have hsu := hs5.of_uw fun x hx => hsh x (List.mem_filter.1 hx |>.1)
    rw [covL_map] at hsu
    have hl : (covU (us.map (·.u)) q).length < 4611686018427387904 := by
      have : (covU (us.map (·.u)) q).length ≤ (us.map (·.u)).length := List.length_filter_le _ _
      rw [List.length_map] at this
      omega
    obtain ⟨rv, m7, hc, hx7, ho⟩ := first_ok hX (g := .func fn) (fi := #[]) (ca := #[]) bf hl hsu (fun a b wa wb m1 _ => hs a b wa wb m1)
    refine onC_of hc ?_
    rw [extr_tuple, extr_tuple]
    simp only [List.getElem?_cons_zero, List.getElem?_cons_succ, onS_some]
    refine onC_of (id_ok hX ho) ?_
    have := hx7.n
    exact hP m7 (by omega) _ (by omega)
  have ldm : load? Tab.env m 103 (.pointer (some ⟨b2, 0, none⟩)) = some (.map (some r)) := by rw [load_103, cellAt_of h2]; rfl
  refine ifB_intro (fun hb => ?_) (fun hb => ?_)
  · rw [ldm, onS_some, bin_sub, onS_some, wrap64 (by omega) (by omega), build_64_0_1 rfl rfl, onS_some]
    exact go (fun a b => decide (a.back < b.back)) 99 ⟨39 - x, y⟩ (fun v m2 b => mkres [v] = .int .i64 (elevZ (us.map (·.u)) behind x y) ∧ m.n ≤ b) (fun a b wa wb m1 => backs_ok hX a b wa wb) (fun m2 hn b hbb => ⟨by rw [mkres, elevZ, hb]; rfl, hbb⟩)
  · rw [ldm, onS_some, build_64_0_1 rfl rfl, onS_some]
    exact go (fun a b => decide (b.front < a.front)) 100 ⟨x, y⟩ (fun v m2 b => mkres [v] = .int .i64 (elevZ (us.map (·.u)) behind x y) ∧ m.n ≤ b) (fun a b wa wb m1 => fronts_ok hX a b wa wb) (fun m2 hn b hbb => ⟨by rw [mkres, elevZ, hb]; rfl, hbb⟩)
/-- The cells of an elevation. -/
def elevL (us : List Un) (behind : Bool) : List Int := gridZ (fun i j => elevZ us behind i j) 40 40
theorem elevation_ok (hX : NoX X) {us : List Un} {v : Value} {behind : Bool} (hl : Sl m us v) (hval : ∀ u ∈ us, validB u.shape = true) (hlen : us.length ≤ 1000) :
    ∃ v' m', C X (.func 48) [.agg #[v], .bool behind] m m.n (drV 40 40 v') m' ∧ Ext m m' ∧ Ow m.n m' (elevL us behind) v' := by
  have key := Cl.heap (E := Tab.env) (X := X) (f := 48) (args := [.agg #[v], .bool behind]) (m := m) (R := fun w m' b => b = m.n ∧ Ext m m' ∧ ∃ v', w = drV 40 40 v' ∧ Ow m.n m' (elevL us behind) v') (hX.no _ rfl) fn_48 rfl ?_
  · obtain ⟨w, m', b, hc, rfl, hx, v', rfl, hr⟩ := key
    exact ⟨v', m', hc, hx, hr⟩
  rw [F48]; dsimp only [plainW]
  refine onM_push fun m1 hn1 hg1 hk1 => ?_
  refine onM_push fun m2 hn2 hg2 hk2 => ?_
  refine onM_push fun m3 hn3 hg3 hk3 => ?_
  have hx3 : Ext m m3 := ⟨by omega, fun b hb => by rw [hk3 b (by omega), hk2 b (by omega), hk1 b hb]⟩
  have g0 : m3.get m.n = .cells [v] 31 none := by rw [hk3 _ (by omega), hk2 _ (by omega), hg1]; rfl
  have gb : m3.get m1.n = .cells [.bool behind] 4 none := by rw [hk3 _ (by omega), hg2]; rfl
  obtain ⟨usw, rfl, hsw, hshw⟩ := (hl.keepE hx3).to_uw
  simp only [ptrTo]
  rw [load_31, loadCells_of g0 (by simp)]
  simp only [List.drop_zero, List.take_succ_cons, List.take_zero, Option.map_some, onS_some]
  obtain ⟨m6, kv, hc, hx6, hpm, hget⟩ := covers_ok hX hsw hshw (fun x hx => hval x.u (List.mem_map.2 ⟨x, hx, rfl⟩)) (by rw [List.length_map] at hlen; exact hlen)
  refine onC_of hc ?_
  refine onM_push fun m8 hn8 hg8 hk8 => ?_
  refine on2_storeV ty_103 hg8 rfl rfl rfl fun m9 hn9 hg9 hk9 => ?_
  have hx69 : Ext m6 m9 := ⟨by omega, fun b hb => by rw [hk9 b (by omega), hk8 b hb]⟩
  have hx39 := hx6.trans hx69
  have h3n := hx39.n
  obtain ⟨v', m12, hc12, hx12, ho12⟩ := made_ok (m := m9) hX (w := 40) (h := 40) (by omega) (by omega) (g := .func 96) (fi := #[]) (ca := #[.pointer (some ⟨m1.n, 0, none⟩), .pointer (some ⟨m6.n, 0, none⟩)]) (fun i j => elevZ (usw.map (·.u)) behind i j)
    (fun i j mm hi hj hx => by
      have hx3m := hx39.trans hx
      exact elevCell_ok (m := mm) hX (b1 := m1.n) (b2 := m6.n) (hx3m.cells gb) (hx.cells (by rw [hg9]; rfl)) ((hpm.keepE hx69).keepE hx) hget (fun x hx' => (hshw x hx').keepE hx3m) (by rw [List.length_map] at hlen; exact hlen) (by omega) (by omega)) (by omega)
  refine onC_of hc12 ?_
  have hx312 := hx39.trans hx12
  have gd := hx312.cells hg3
  have hone : one v' = true := ho12.sl.one
  have h12n := hx312.n
  refine on2_storeV ty_27 gd rfl rfl (by show (true && (true && (one v' && true))) = true; rw [hone]; rfl) fun m14 hn14 hg14 hk14 => ?_
  have e2 : load? Tab.env m14 27 (.pointer (some ⟨m2.n, 0, none⟩)) = some (drV 40 40 v') := by rw [load_27, loadCells_of hg14 (by simp [cells_agg])]; rfl
  rw [e2, onS_some]
  have ho14 : Ow m9.n m14 (elevL (usw.map (·.u)) behind) v' := ho12.keep fun b c t g hb ht => by
    by_cases hbm : b = m2.n
    · subst hbm
      rw [gd] at hb
      cases hb
      simp [Rep.ty, Rep.tys] at ht
    · rw [hk14 b hbm, hb]
  have hfl : flat2 (mkres [drV 40 40 v']) = false := by
    have hne : elevL (usw.map (·.u)) behind ≠ [] := fun e => by
      have := congrArg List.length e
      unfold elevL at this
      rw [gridZ_len] at this
      simp at this
    rcases ho14 with ⟨_, h0⟩ | ⟨b, cs, rfl, _⟩
    · exact absurd h0 hne
    · rfl
  exact ⟨.inl hfl, by have := hx6.n; omega, ⟨by omega, fun b hb => by rw [hk14 b (by omega), (hx3.trans hx312).get b hb]⟩, v', rfl, ho14.mono (by omega)⟩
end Go.Proofs.YtjecgmfildhpiaaGreatDoor

/- slices.Sorted over the keys of a map: what is known of the call beforehand. -/
namespace Go.D
open Go

section
variable {P : Program} {σ : Sg} {m : M} {w w' : World}

/-- A new block, somewhere behind what lay there. -/
theorem Ev.new_at (h : Sim P σ m w) {g : Nat} {gr : Option (Nat × Nat × Nat)} {ob : Ob} (hk : ∀ B, B < w.heap.size → w'.heap[B]? = w.heap[B]?) (hle : w.heap.size ≤ w'.heap.size) (hg : w.heap.size ≤ g) (hg' : g < w'.heap.size)
    (hh : Holds (σ.add m.n ⟨g, gr⟩) ⟨g, gr⟩ w' ob) (ho : w'.os = w.os) (ht : w'.tape = w.tape) (hu : w'.output = w.output) : Ev P σ m w (σ.add m.n ⟨g, gr⟩) (m.push ob) w' := by
  have hn := h.next_none
  have hl := Sg.le_add (i := ⟨g, gr⟩) hn
  have hcase : ∀ b i, (σ.add m.n ⟨g, gr⟩) b = some i → (b = m.n ∧ i = ⟨g, gr⟩) ∨ (b ≠ m.n ∧ σ b = some i) := by
    intro b i hb
    unfold Sg.add at hb
    by_cases hbn : b = m.n
    · rw [if_pos hbn] at hb; exact .inl ⟨hbn, by injection hb with hb; exact hb.symm⟩
    · rw [if_neg hbn] at hb; exact .inr ⟨hbn, hb⟩
  have hpn : (m.push ob).n = m.n + 1 := rfl
  refine ⟨hl, ⟨?_, ?_, ?_, ?_, fun g hg => hl g _ (h.glob g hg)⟩, Nat.le_refl _, by omega, hle, ?_, ?_, fun B hB _ => hk B hB, ho, ht, hu⟩
  · intro b i hb
    rcases hcase b i hb with ⟨rfl, _⟩ | ⟨_, hb⟩
    · omega
    · have := h.dom b i hb; omega
  · intro b i hb
    rw [M.get_push]
    rcases hcase b i hb with ⟨rfl, rfl⟩ | ⟨hne, hb⟩
    · rw [if_pos rfl]; exact hh
    · rw [if_neg hne]; exact (h.obj b i hb).keep hl (hk _ (h.lt b i hb))
  · intro b i hb
    rcases hcase b i hb with ⟨_, rfl⟩ | ⟨_, hb⟩
    · exact hg'
    · have := h.lt b i hb; omega
  · intro b b' i i' hb hb' hd hd' he
    rw [M.get_push] at hd hd'
    rcases hcase b i hb with ⟨rfl, rfl⟩ | ⟨hne, hb⟩ <;> rcases hcase b' i' hb' with ⟨rfl, rfl⟩ | ⟨hne', hb'⟩
    · rfl
    · have := h.lt b' i' hb'; dsimp only at he; omega
    · have := h.lt b i hb; dsimp only at he; omega
    · rw [if_neg hne] at hd; rw [if_neg hne'] at hd'; exact h.inj b b' i i' hb hb' hd hd' he
  · intro b i hb hs
    rcases hcase b i hb with ⟨rfl, rfl⟩ | ⟨_, hb⟩
    · exact ⟨Nat.le_refl _, .inl hg⟩
    · rw [hs] at hb; cases hb
  · intro b _ hb
    rw [M.get_push, if_neg (by omega)]
/-- Nothing of what the store knows has turned. -/
theorem Ev.kept (h : Sim P σ m w) (hk : ∀ B, B < w.heap.size → w'.heap[B]? = w.heap[B]?) (hle : w.heap.size ≤ w'.heap.size) (ho : w'.os = w.os) (ht : w'.tape = w.tape) (hu : w'.output = w.output) : Ev P σ m w σ m w' :=
  ⟨fun _ _ x => x, ⟨h.dom, fun b i hb => (h.obj b i hb).keep (fun _ _ x => x) (hk _ (h.lt b i hb)), fun b i hb => Nat.lt_of_lt_of_le (h.lt b i hb) hle, h.inj, h.glob⟩, Nat.le_refl _, Nat.le_refl _, hle, fun b i x y => (by rw [x] at y; cases y), fun _ _ _ => rfl, fun B hB _ => hk B hB, ho, ht, hu⟩

/-- A list of ints, with one more, in order. -/
def ins (x : Int) : List Int → List Int
  | [] => [x]
  | y :: l => bif x ≤ y then x :: y :: l else y :: ins x l
def isort : List Int → List Int
  | [] => []
  | x :: l => ins x (isort l)
theorem ins_perm (x : Int) : ∀ l : List Int, (ins x l).Perm (x :: l)
  | [] => .refl _
  | y :: l => by
    unfold ins
    by_cases h : x ≤ y
    · simp [h]
    · simp only [h, decide_false, cond_false]
      exact ((ins_perm x l).cons y).trans (List.Perm.swap x y l)
theorem isort_perm : ∀ l : List Int, (isort l).Perm l
  | [] => .refl _
  | x :: l => (ins_perm x _).trans ((isort_perm l).cons x)
theorem ins_sorted (x : Int) : ∀ {l : List Int}, l.Pairwise (fun a b => a ≤ b) → (ins x l).Pairwise (fun a b => a ≤ b)
  | [], _ => by simp [ins]
  | y :: l, h => by
    unfold ins
    rw [List.pairwise_cons] at h
    by_cases hxy : x ≤ y
    · simp only [hxy, decide_true, cond_true, List.pairwise_cons]
      refine ⟨fun z hz => ?_, h⟩
      rcases List.mem_cons.1 hz with rfl | hz
      · exact hxy
      · exact Int.le_trans hxy (h.1 z hz)
    · simp only [hxy, decide_false, cond_false, List.pairwise_cons]
      refine ⟨fun z hz => ?_, ins_sorted x h.2⟩
      rcases List.mem_cons.1 ((ins_perm x l).mem_iff.1 hz) with rfl | hz
      · omega
      · exact h.1 z hz
theorem isort_sorted : ∀ l : List Int, (isort l).Pairwise (fun a b => a ≤ b)
  | [] => .nil
  | x :: l => ins_sorted x (isort_sorted l)
theorem isort_mergeSort {l l' : List Int} (h : l'.Perm l) : l'.mergeSort (fun x y => decide (x ≤ y)) = isort l := by
  have tr : ∀ a b c : Int, decide (a ≤ b) = true → decide (b ≤ c) = true → decide (a ≤ c) = true := fun a b c h1 h2 => by simp only [decide_eq_true_eq] at *; exact Int.le_trans h1 h2
  have to : ∀ a b : Int, (decide (a ≤ b) || decide (b ≤ a)) = true := fun a b => by simp only [Bool.or_eq_true, decide_eq_true_eq]; exact Int.le_total a b
  refine List.Perm.eq_of_pairwise (le := fun a b : Int => a ≤ b) (fun a b _ _ h1 h2 => Int.le_antisymm h1 h2) ?_ (isort_sorted l) (((List.mergeSort_perm l' _).trans h).trans (isort_perm l).symm)
  have := List.pairwise_mergeSort tr to l'
  exact this.imp (fun h => by simpa using h)

/-- The keys, if they are ints, each another, each entry older than the clock. -/
def intKeys? (clock : Nat) : List MapEntry → Option (List Int)
  | [] => some []
  | e :: es =>
    match e.key, intKeys? clock es with
    | .int .i64 x, some ks => bif Nat.blt e.born clock && !(ks.contains x) && !(es.any fun f => f.born == e.born) && decide (-9223372036854775808 ≤ x) && decide (x ≤ 9223372036854775807) then some (x :: ks) else none
    | _, _ => none
end
end Go.D

/- Calls that a contract makes known: what they come to, said of a store of one's own choice. -/
namespace Go.D
open Go
section
variable {P : Program} {E : Env} {X : CallFn} {σ : Sg} {m m1 : M} {w w' : World} {f : Nat} {args : List Value} {v : Value} {args' : Array Value}
theorem Cl.calls (hE : E.OK P) (hX : CallOK P X) (hc : Cl E X (.func f) args m m.n v m1) (hs : Sim P σ m w) (hl : LRel σ args args'.toList) :
    CallsIn Fence.wide 0 P f args' w (CallRes P σ (m.wl m.n) w v (m1.wl m.n)) ∧ (callFunc f args').run P w = .ok (.enter f args') w := by
  obtain ⟨hn, _, n0, h⟩ := hc
  have h1 := h (n0 + 1) (by omega) m.n (Nat.le_refl _)
  rw [Nat.min_self] at h1
  exact call_calls hE hX (call_sound' hE hX n0) h1 (hs.low m.n) hl
/-- A result without addresses. -/
theorem CallRes.flat (hs : Sim P σ m w) (hv : flat0 v = true) {e : Ending} (h : CallRes P σ (m.wl m.n) w v (m1.wl m.n) e w') : CallRes P σ m w v m e w' := by
  obtain ⟨v', σ', rfl, hv', he⟩ := h
  have := hv'.eq_of_flat0 hv
  subst this
  exact ⟨_, σ, rfl, .flat _ hv, Ev.kept hs (fun B hB => he.heap B hB fun b i hb _ => hs.dom b i hb) he.hle he.os he.tape he.output⟩
/-- A new row: it may as well be the next block. -/
theorem Ev.row (hs : Sim P σ m w) {σ' : Sg} (he : Ev P σ (m.wl m.n) w σ' (m1.wl m.n) w') {b n : Nat} {cs : List Value} {t : TypeId} {k : Nat} (hb : m.n ≤ b) (hg : m1.get b = .cells cs t (some k)) (hf : ∀ u ∈ cs, flat0 u = true) {u' : Value}
    (hv : VRel σ' (.slice (some ⟨b, 0, none⟩) n n) u') (hn : 0 < n) : ∃ τ, VRel τ (.slice (some ⟨m.n, 0, none⟩) n n) u' ∧ Ev P σ m w τ (m.push (.cells cs t (some k))) w' := by
  have go : ∀ i : BI, σ' b = some i → Ev P σ m w (σ.add m.n i) (m.push (.cells cs t (some k))) w' := by
    intro i hi
    have hσb : σ b = none := by
      cases h : σ b with
      | none => rfl
      | some j => have := hs.dom b j h; omega
    obtain ⟨_, hnew⟩ := he.new b i hi hσb
    have hnew : w.heap.size ≤ i.blk := by
      rcases hnew with h | ⟨b0, i0, h1, _, h2⟩
      · exact h
      · have := hs.dom b0 i0 h1
        have h2 : m.n ≤ b0 := h2
        omega
    have hobj : Holds σ' i w' (.cells cs t (some k)) := by
      have := he.sim.obj b i hi
      rw [show (m1.wl m.n).get b = .cells cs t (some k) from hg] at this
      exact this
    obtain ⟨blk, gr⟩ := i
    refine Ev.new_at hs (fun B hB => he.heap B hB fun b i hb _ => hs.dom b i hb) he.hle hnew (he.sim.lt b _ hi) ?_ he.os he.tape he.output
    obtain ⟨c', h1, h2, h3, h4⟩ := hobj
    refine ⟨c', h1, h2, ⟨h3.1, fun j u u' hu hu' => ?_⟩, h4⟩
    have hff := hf u (List.mem_of_getElem? hu)
    have := (h3.2 j u u' hu hu').eq_of_flat0 hff
    subst this
    exact .flat _ hff
  have hadd : ∀ i : BI, (σ.add m.n i) m.n = some i := fun i => by unfold Sg.add; rw [if_pos rfl]
  cases hv with
  | flat _ h => cases h
  | slice a i _ _ h hsn hgr => exact ⟨_, .slice ⟨m.n, 0, none⟩ i n n (hadd i) rfl hgr, go i h⟩
  | sliceG a i _ _ c' k' sz N h hsn hgr hc => exact ⟨_, .sliceG ⟨m.n, 0, none⟩ i n n c' k' sz N (hadd i) rfl hgr hc, go i h⟩
  | empty a a' i c' k' sz N h hgr ho => omega
end
end Go.D

/- plane.Valid, plane.Cell and the elevation, known beforehand. -/
namespace Go.Proofs.YtjecgmfildhpiaaGreatDoor
open Go Go.D
variable {m : M}

/-- The places that cells hold. -/
def parsePl : Nat → List Value → Option (List Pl)
  | 0, _ => some []
  | n + 1, .int .i64 x :: .int .i64 y :: r => match parsePl n r with | some l => some (⟨x, y⟩ :: l) | none => none
  | _ + 1, _ => none
noncomputable def plsAt (m : M) (v : Value) : Option (List Pl) :=
  match v with
  | .slice none 0 0 => some []
  | .slice (some a) n _ => match a.spot, m.get a.block with
    | none, .cells cs e _ => bif Nat.beq e 64 && Nat.ble (a.off + n * 2) cs.length then parsePl n (cs.drop a.off) else none
    | _, _ => none
  | _ => none
theorem parsePl_at : ∀ {n : Nat} {cs : List Value} {l : List Pl}, parsePl n cs = some l → l.length = n ∧ ∀ i p, l[i]? = some p → (cs.drop (i * 2)).take 2 = p.c
  | 0, _, l, h => by cases h; exact ⟨rfl, fun i p hi => by cases hi⟩
  | n + 1, cs, l, h => by
    unfold parsePl at h
    split at h
    · omega
    · rename_i n' x y r hn
      cases hn
      cases hr : parsePl n r with
      | none => rw [hr] at h; cases h
      | some l' =>
        rw [hr] at h
        cases h
        obtain ⟨h1, h2⟩ := parsePl_at hr
        refine ⟨by simp [h1], fun i p hi => ?_⟩
        match i with
        | 0 => cases hi; rfl
        | i + 1 =>
          have := h2 i p (by simpa using hi)
          rw [show (i + 1) * 2 = i * 2 + 1 + 1 by omega, List.drop_succ_cons, List.drop_succ_cons]
          exact this
    · cases h
theorem plsAt_sl {v : Value} {l : List Pl} (h : plsAt m v = some l) : Sl m l v := by
  unfold plsAt at h
  split at h
  · cases h; exact .inl ⟨rfl, rfl⟩
  · rename_i a n c
    split at h
    · rename_i cs e g hsp hg
      cases hc : (Nat.beq e 64 && Nat.ble (a.off + n * 2) cs.length) with
      | false => rw [hc] at h; cases h
      | true =>
        rw [hc, cond_true] at h
        rw [Bool.and_eq_true] at hc
        obtain rfl := Nat.eq_of_beq_eq_true hc.1
        have hle := Nat.le_of_ble_eq_true hc.2
        obtain ⟨h1, h2⟩ := parsePl_at h
        obtain ⟨ab, ao, sp⟩ := a
        have hsp : sp = none := hsp
        subst hsp
        refine .inr ⟨ab, ao, c, cs, g, by rw [h1], hg, by rw [h1]; exact hle, fun i p hi => ?_⟩
        have := h2 i p hi
        rw [List.drop_drop] at this
        exact this
    · cases h
  · cases h
/-- The units that cells hold. -/
noncomputable def parseUn (m : M) : Nat → List Value → Option (List Un)
  | 0, _ => some []
  | n + 1, .int .i64 a :: .int .i64 b :: .int .i64 c :: w :: .int .i64 d :: .int .i64 e :: r => match plsAt m w, parseUn m n r with | some s, some l => some (⟨a, b, c, s, d, e⟩ :: l) | _, _ => none
  | _ + 1, _ => none
noncomputable def unsAt (m : M) (v : Value) : Option (List Un) :=
  match v with
  | .slice none 0 0 => some []
  | .slice (some a) n _ => match a.spot, m.get a.block with
    | none, .cells cs e _ => bif Nat.beq e 57 && Nat.ble (a.off + n * 6) cs.length then parseUn m n (cs.drop a.off) else none
    | _, _ => none
  | _ => none
theorem parseUn_at : ∀ {n : Nat} {cs : List Value} {l : List Un}, parseUn m n cs = some l → l.length = n ∧ ∀ i u, l[i]? = some u → ∃ w, (cs.drop (i * 6)).take 6 = u.c w ∧ Sl m u.shape w
  | 0, _, l, h => by cases h; exact ⟨rfl, fun i p hi => by cases hi⟩
  | n + 1, cs, l, h => by
    unfold parseUn at h
    split at h
    · omega
    · rename_i n' a b c w d e r hn
      cases hn
      cases hs : plsAt m w with
      | none => rw [hs] at h; cases h
      | some s =>
        cases hr : parseUn m n r with
        | none => rw [hs, hr] at h; cases h
        | some l' =>
          rw [hs, hr] at h
          cases h
          obtain ⟨h1, h2⟩ := parseUn_at hr
          refine ⟨by simp [h1], fun i p hi => ?_⟩
          match i with
          | 0 => cases hi; exact ⟨w, rfl, plsAt_sl hs⟩
          | i + 1 =>
            have := h2 i p (by simpa using hi)
            rw [show (i + 1) * 6 = i * 6 + 1 + 1 + 1 + 1 + 1 + 1 by omega, List.drop_succ_cons, List.drop_succ_cons, List.drop_succ_cons, List.drop_succ_cons, List.drop_succ_cons, List.drop_succ_cons]
            exact this
    · cases h
theorem unsAt_sl {v : Value} {l : List Un} (h : unsAt m v = some l) : Sl m l v := by
  unfold unsAt at h
  split at h
  · cases h; exact .inl ⟨rfl, rfl⟩
  · rename_i a n c
    split at h
    · rename_i cs e g hsp hg
      cases hc : (Nat.beq e 57 && Nat.ble (a.off + n * 6) cs.length) with
      | false => rw [hc] at h; cases h
      | true =>
        rw [hc, cond_true] at h
        rw [Bool.and_eq_true] at hc
        obtain rfl := Nat.eq_of_beq_eq_true hc.1
        have hle := Nat.le_of_ble_eq_true hc.2
        obtain ⟨h1, h2⟩ := parseUn_at h
        obtain ⟨ab, ao, sp⟩ := a
        have hsp : sp = none := hsp
        subst hsp
        refine .inr ⟨ab, ao, c, cs, g, by rw [h1], hg, by rw [h1]; exact hle, fun i u hi => ?_⟩
        obtain ⟨w, hw, hs⟩ := h2 i u hi
        rw [List.drop_drop] at hw
        exact ⟨w, hw, hs⟩
    · cases h
  · cases h
/-- What is known. -/
noncomputable def planeX : CallFn := fun fn args m =>
  match fn with
  | .func f =>
    bif Nat.beq f 77 then
      match args with
      | [v] => match plsAt m v with | some l => bif Nat.ble l.length 1000 then some (.bool (validB l), m) else none | none => none
      | _ => none
    else bif Nat.beq f 33 then
      match args with
      | [v, .int .i64 x, .int .i64 y] => match plsAt m v with | some l => bif Nat.ble l.length 1000 then some (.int .i64 (cellZ l x y), m) else none | none => none
      | _ => none
    else bif Nat.beq f 48 then
      match args with
      | [.agg a, .bool b] => match a.toList with
        | [v] => match unsAt m v with
          | some us => bif Nat.ble us.length 1000 && us.all (fun u => validB u.shape) then some (drV 40 40 (.slice (some ⟨m.n, 0, none⟩) 1600 1600), m.push (.cells ((elevL us b).map (.int .i64)) 3 (some 1))) else none
          | none => none
        | _ => none
      | _ => none
    else none
  | _ => none
end Go.Proofs.YtjecgmfildhpiaaGreatDoor

/- What is known of plane.Valid, plane.Cell and the elevation is so. -/
namespace Go.Proofs.YtjecgmfildhpiaaGreatDoor
open Go Go.D
variable {m : M}

theorem noX_no : NoX noX := ⟨fun _ _ _ _ => rfl⟩
theorem ints_chunk : ∀ {l : List Int} {cs : List Value}, cs.length = l.length * 1 → (∀ i x, l[i]? = some x → chunk cs 1 i = [.int .i64 x]) → cs = l.map (.int .i64)
  | [], cs, h, _ => List.length_eq_zero_iff.1 (by simpa using h)
  | x :: l, a :: cs, h, hc => by
    have h0 := hc 0 x rfl
    simp only [chunk, Nat.zero_mul, List.drop_zero, List.take_succ_cons, List.take_zero] at h0
    injection h0 with h0
    rw [h0, List.map_cons, ← ints_chunk (l := l) (cs := cs) (by simp at h; omega) (fun i y hi => by
      have := hc (i + 1) y (by simpa using hi)
      simp only [chunk, Nat.mul_one, List.drop_succ_cons] at this ⊢
      exact this)]
  | x :: l, [], h, _ => by simp at h
theorem elevL_len {us : List Un} {b : Bool} : (elevL us b).length = 1600 := by unfold elevL; rw [gridZ_len]
theorem drawing_res {σ : Sg} {m1 : M} {w w' : World} {v1 : Value} {l : List Int} (hs : Sim Tryz.prog σ m w) (ho : Ow m.n m1 l v1) (hl : 0 < l.length) {e : Ending} (h : CallRes Tryz.prog σ (m.wl m.n) w (drV 40 40 v1) (m1.wl m.n) e w') :
    CallRes Tryz.prog σ m w (drV 40 40 (.slice (some ⟨m.n, 0, none⟩) l.length l.length)) (m.push (.cells (l.map (.int .i64)) 3 (some 1))) e w' := by
  obtain ⟨v', σ', rfl, hv, he⟩ := h
  rcases ho with ⟨_, rfl⟩ | ⟨b, cs, rfl, _, hb, hg, hcl, hch⟩
  · simp at hl
  have hcs : cs = l.map (.int .i64) := ints_chunk hcl hch
  subst hcs
  cases hv with
  | flat _ h => cases h
  | agg a a' ha h1 =>
    obtain ⟨τ, hvs, hev⟩ : ∃ τ, VRel τ (.slice (some ⟨m.n, 0, none⟩) l.length l.length) ((a'.toList[2]?).getD undef) ∧ Ev Tryz.prog σ m w τ (m.push (.cells (l.map (.int .i64)) 3 (some 1))) w' := by
      have hlt : 2 < a'.size := by rw [← ha]; exact Nat.lt_succ_self _
      have e2 : a'[2]? = some a'[2] := Array.getElem?_eq_getElem hlt
      have := h1 2 _ _ rfl e2
      have e3 : (a'.toList[2]?).getD undef = a'[2] := by rw [Array.getElem?_toList, e2]; rfl
      rw [e3]
      exact Ev.row hs he hb hg (fun u hu => by obtain ⟨z, _, rfl⟩ := List.mem_map.1 hu; rfl) this hl
    refine ⟨.agg a', τ, rfl, .agg _ _ ha fun j u u' hu hu' => ?_, hev⟩
    match j with
    | 0 =>
      have := (h1 0 _ _ rfl hu').eq_of_flat0 rfl
      cases hu
      rw [this]
      exact .flat _ rfl
    | 1 =>
      have := (h1 1 _ _ rfl hu').eq_of_flat0 rfl
      cases hu
      rw [this]
      exact .flat _ rfl
    | 2 =>
      cases hu
      have e3 : (a'.toList[2]?).getD undef = u' := by rw [Array.getElem?_toList, hu']; rfl
      rw [← e3]
      exact hvs
    | j + 3 => simp at hu
theorem planeX_ok : CallOK Tryz.prog planeX := by
  refine ⟨fun f args m v m' hx σ w args' hs hl => ?_, fun l args m v m' hx => by simp [planeX] at hx, fun f args m v m' hx => ?_, fun a m v m' b hx => by
    have e : planeX (.func stN) [.pointer (some a)] m = none := rfl
    rw [e] at hx
    cases hx⟩
  · unfold planeX at hx
    dsimp only at hx
    cases h1 : Nat.beq f 77 with
    | true =>
      obtain rfl := Nat.eq_of_beq_eq_true h1
      rw [h1, cond_true] at hx
      split at hx
      · rename_i v0
        split at hx
        · rename_i l hp
          cases hlen : Nat.ble l.length 1000 with
          | false => rw [hlen] at hx; cases hx
          | true =>
            rw [hlen, cond_true] at hx
            cases hx
            have hle := Nat.le_of_ble_eq_true hlen
            have hc := Cl.calls Tab.ok noX_ok (valid_ok noX_no (plsAt_sl hp) (by omega)) hs hl
            exact ⟨hc.1.mono fun e w' h => h.flat hs rfl, hc.2⟩
        · cases hx
      · cases hx
    | false =>
      rw [h1, cond_false] at hx
      cases h2 : Nat.beq f 33 with
      | true =>
        obtain rfl := Nat.eq_of_beq_eq_true h2
        rw [h2, cond_true] at hx
        split at hx
        · rename_i v0 x y
          split at hx
          · rename_i l hp
            cases hlen : Nat.ble l.length 1000 with
            | false => rw [hlen] at hx; cases hx
            | true =>
              rw [hlen, cond_true] at hx
              cases hx
              have hle := Nat.le_of_ble_eq_true hlen
              have hc := Cl.calls Tab.ok noX_ok (cell_ok noX_no (plsAt_sl hp) (by omega) x y) hs hl
              exact ⟨hc.1.mono fun e w' h => h.flat hs rfl, hc.2⟩
          · cases hx
        · cases hx
      | false =>
        rw [h2, cond_false] at hx
        cases h3 : Nat.beq f 48 with
        | false => rw [h3] at hx; cases hx
        | true =>
          obtain rfl := Nat.eq_of_beq_eq_true h3
          rw [h3, cond_true] at hx
          split at hx
          · rename_i a b
            split at hx
            · rename_i v0 ha
              split at hx
              · rename_i us hp
                cases hc : (Nat.ble us.length 1000 && us.all (fun u => validB u.shape)) with
                | false => rw [hc] at hx; cases hx
                | true =>
                  rw [hc, cond_true] at hx
                  rw [Bool.and_eq_true] at hc
                  have hle := Nat.le_of_ble_eq_true hc.1
                  have hval : ∀ u ∈ us, validB u.shape = true := fun u hu => by
                    have := List.all_eq_true.1 hc.2 u hu
                    exact this
                  cases hx
                  obtain ⟨al⟩ := a
                  have ha : al = [v0] := ha
                  subst ha
                  obtain ⟨v1, m1, hcl, hx1, ho⟩ := elevation_ok (behind := b) noX_no (unsAt_sl hp) hval hle
                  have hcc := Cl.calls Tab.ok noX_ok hcl hs hl
                  refine ⟨hcc.1.mono fun e w' h => ?_, hcc.2⟩
                  have := drawing_res hs ho (by rw [elevL_len]; decide) h
                  rw [elevL_len] at this
                  exact this
              · cases hx
            · cases hx
          · cases hx
  · unfold planeX at hx
    cases f with
    | func f =>
      dsimp only at hx
      cases h1 : Nat.beq f 77 with
      | true =>
        rw [h1, cond_true] at hx
        split at hx
        · split at hx
          · rename_i l hp
            cases hlen : Nat.ble l.length 1000 with
            | false => rw [hlen] at hx; cases hx
            | true => rw [hlen, cond_true] at hx; cases hx; exact LK.refl
          · cases hx
        · cases hx
      | false =>
        rw [h1, cond_false] at hx
        cases h2 : Nat.beq f 33 with
        | true =>
          rw [h2, cond_true] at hx
          split at hx
          · split at hx
            · rename_i l hp
              cases hlen : Nat.ble l.length 1000 with
              | false => rw [hlen] at hx; cases hx
              | true => rw [hlen, cond_true] at hx; cases hx; exact LK.refl
            · cases hx
          · cases hx
        | false =>
          rw [h2, cond_false] at hx
          cases h3 : Nat.beq f 48 with
          | false => rw [h3] at hx; cases hx
          | true =>
            rw [h3, cond_true] at hx
            split at hx
            · split at hx
              · split at hx
                · rename_i us hp
                  cases hc : (Nat.ble us.length 1000 && us.all (fun u => validB u.shape)) with
                  | false => rw [hc] at hx; cases hx
                  | true => rw [hc, cond_true] at hx; cases hx; exact LK.push
                · cases hx
              · cases hx
            · cases hx
    | _ => cases hx
end Go.Proofs.YtjecgmfildhpiaaGreatDoor

/- The shelf contracts for strings, laid at this program (printed by the kit tool lay-plain). -/
namespace Go.Proofs
open Go.Shelf
def Tryz.lays169_ren : Go.Shelf.Ren := ⟨fun | 169 => 65 | n => n, fun | 70 => 110 | 9 => 9 | 0 => 0 | 72 => 112 | 37 => 52 | 127 => 167 | 3 => 3 | 5 => 5 | n => n, fun | n => n⟩
theorem Tryz.lays169 : Go.Proofs.Lays.n169 Tryz.prog Tryz.lays169_ren := {
  mixed := by kernel_rfl
  f169 := Tryz.func65.trans (congrArg some (by kernel_rfl))
  t0 := Tryz.underlying0
  a0 := Tryz.isAgg0
  z0 := Tryz.sizeOf0
  v0 := Tryz.zeroValue0
  t3 := Tryz.underlying3
  a3 := Tryz.isAgg3
  z3 := Tryz.sizeOf3
  v3 := Tryz.zeroValue3
  t9 := Tryz.underlying9
  a9 := Tryz.isAgg9
  z9 := Tryz.sizeOf9
  v9 := Tryz.zeroValue9
  t37 := Tryz.underlying52
  a37 := Tryz.isAgg52
  z37 := Tryz.sizeOf52
  v37 := Tryz.zeroValue52
  t70 := Tryz.underlying110
  a70 := Tryz.isAgg110
  z70 := Tryz.sizeOf110
  v70 := Tryz.zeroValue110
  t72 := Tryz.underlying112
  a72 := Tryz.isAgg112
  z72 := Tryz.sizeOf112
  v72 := Tryz.zeroValue112
  t127 := Tryz.underlying167
  a127 := Tryz.isAgg167
  z127 := Tryz.sizeOf167
  v127 := Tryz.zeroValue167 }
theorem Tryz.Builder_Extra_169 : Builder.Extra Tryz.prog Tryz.lays169_ren := {
  sizeBuilder := by kernel_rfl
  liesBuilder := by kernel_rfl
  t5 := Tryz.underlying5
  a5 := Tryz.isAgg5
  z5 := Tryz.sizeOf5
  v5 := Tryz.zeroValue5
  infoByte := by kernel_rfl
  cellsByte := by kernel_rfl
  sizeByte := by kernel_rfl
  neB5 := by decide }
def Tryz.lays156_ren : Go.Shelf.Ren := ⟨fun | 156 => 67 | 165 => 108 | 166 => 63 | 169 => 65 | 240 => 107 | 241 => 138 | 276 => 137 | 277 => 170 | n => n, fun | 31 => 42 | 9 => 9 | 3 => 3 | 4 => 4 | 0 => 0 | 20 => 20 | 72 => 112 | 76 => 115 | 70 => 110 | 37 => 52 | 75 => 114 | 127 => 167 | 164 => 192 | 5 => 5 | 80 => 118 | n => n, fun | n => n⟩
theorem Tryz.lays156 : Go.Proofs.Lays.n156 Tryz.prog Tryz.lays156_ren := {
  mixed := by kernel_rfl
  f156 := Tryz.func67.trans (congrArg some (by kernel_rfl))
  f165 := Tryz.func108.trans (congrArg some (by kernel_rfl))
  f166 := Tryz.func63.trans (congrArg some (by kernel_rfl))
  f169 := Tryz.func65.trans (congrArg some (by kernel_rfl))
  f240 := Tryz.func107.trans (congrArg some (by kernel_rfl))
  f241 := Tryz.func138.trans (congrArg some (by kernel_rfl))
  f276 := Tryz.func137.trans (congrArg some (by kernel_rfl))
  f277 := Tryz.func170.trans (congrArg some (by kernel_rfl))
  t0 := Tryz.underlying0
  a0 := Tryz.isAgg0
  z0 := Tryz.sizeOf0
  v0 := Tryz.zeroValue0
  t3 := Tryz.underlying3
  a3 := Tryz.isAgg3
  z3 := Tryz.sizeOf3
  v3 := Tryz.zeroValue3
  t4 := Tryz.underlying4
  a4 := Tryz.isAgg4
  z4 := Tryz.sizeOf4
  v4 := Tryz.zeroValue4
  t9 := Tryz.underlying9
  a9 := Tryz.isAgg9
  z9 := Tryz.sizeOf9
  v9 := Tryz.zeroValue9
  t20 := Tryz.underlying20
  a20 := Tryz.isAgg20
  z20 := Tryz.sizeOf20
  v20 := Tryz.zeroValue20
  t31 := Tryz.underlying42
  a31 := Tryz.isAgg42
  z31 := Tryz.sizeOf42
  v31 := Tryz.zeroValue42
  t37 := Tryz.underlying52
  a37 := Tryz.isAgg52
  z37 := Tryz.sizeOf52
  v37 := Tryz.zeroValue52
  t70 := Tryz.underlying110
  a70 := Tryz.isAgg110
  z70 := Tryz.sizeOf110
  v70 := Tryz.zeroValue110
  t72 := Tryz.underlying112
  a72 := Tryz.isAgg112
  z72 := Tryz.sizeOf112
  v72 := Tryz.zeroValue112
  t75 := Tryz.underlying114
  a75 := Tryz.isAgg114
  z75 := Tryz.sizeOf114
  v75 := Tryz.zeroValue114
  t76 := Tryz.underlying115
  a76 := Tryz.isAgg115
  z76 := Tryz.sizeOf115
  v76 := Tryz.zeroValue115
  t127 := Tryz.underlying167
  a127 := Tryz.isAgg167
  z127 := Tryz.sizeOf167
  v127 := Tryz.zeroValue167
  t164 := Tryz.underlying192
  a164 := Tryz.isAgg192
  z164 := Tryz.sizeOf192
  v164 := Tryz.zeroValue192 }
theorem Tryz.Builder_Extra_156 : Builder.Extra Tryz.prog Tryz.lays156_ren := {
  sizeBuilder := by kernel_rfl
  liesBuilder := by kernel_rfl
  t5 := Tryz.underlying5
  a5 := Tryz.isAgg5
  z5 := Tryz.sizeOf5
  v5 := Tryz.zeroValue5
  infoByte := by kernel_rfl
  cellsByte := by kernel_rfl
  sizeByte := by kernel_rfl
  neB5 := by decide }
def Tryz.lays143_ren : Go.Shelf.Ren := ⟨fun | 143 => 141 | 219 => 174 | 217 => 195 | 225 => 196 | 224 => 197 | 267 => 198 | 266 => 220 | 314 => 221 | n => n, fun | 9 => 9 | 3 => 3 | 4 => 4 | 5 => 5 | 46 => 171 | 146 => 291 | 51 => 215 | n => n, fun | 1 => 0 | n => n⟩
theorem Tryz.lays143 : Go.Proofs.Lays.n143 Tryz.prog Tryz.lays143_ren := {
  mixed := by kernel_rfl
  f143 := Tryz.func141.trans (congrArg some (by kernel_rfl))
  f217 := Tryz.func195.trans (congrArg some (by kernel_rfl))
  f219 := Tryz.func174.trans (congrArg some (by kernel_rfl))
  f224 := Tryz.func197.trans (congrArg some (by kernel_rfl))
  f225 := Tryz.func196.trans (congrArg some (by kernel_rfl))
  f266 := Tryz.func220.trans (congrArg some (by kernel_rfl))
  f267 := Tryz.func198.trans (congrArg some (by kernel_rfl))
  f314 := Tryz.func221.trans (congrArg some (by kernel_rfl))
  t3 := Tryz.underlying3
  a3 := Tryz.isAgg3
  z3 := Tryz.sizeOf3
  v3 := Tryz.zeroValue3
  t4 := Tryz.underlying4
  a4 := Tryz.isAgg4
  z4 := Tryz.sizeOf4
  v4 := Tryz.zeroValue4
  t5 := Tryz.underlying5
  a5 := Tryz.isAgg5
  z5 := Tryz.sizeOf5
  v5 := Tryz.zeroValue5
  t9 := Tryz.underlying9
  a9 := Tryz.isAgg9
  z9 := Tryz.sizeOf9
  v9 := Tryz.zeroValue9
  t46 := Tryz.underlying171
  a46 := Tryz.isAgg171
  z46 := Tryz.sizeOf171
  v46 := Tryz.zeroValue171
  t51 := Tryz.underlying215
  a51 := Tryz.isAgg215
  z51 := Tryz.sizeOf215
  v51 := Tryz.zeroValue215
  t146 := Tryz.underlying291
  a146 := Tryz.isAgg291
  z146 := Tryz.sizeOf291
  v146 := Tryz.zeroValue291
  g1 := by kernel_rfl }
def Tryz.lays138_ren : Go.Shelf.Ren := ⟨fun | 138 => 140 | 195 => 171 | 218 => 173 | 143 => 141 | 219 => 174 | 217 => 195 | 225 => 196 | 224 => 197 | 267 => 198 | 266 => 220 | 314 => 221 | n => n, fun | 9 => 9 | 3 => 3 | 4 => 4 | 5 => 5 | 0 => 0 | 46 => 171 | 146 => 291 | 51 => 215 | n => n, fun | 1 => 0 | n => n⟩
theorem Tryz.lays138 : Go.Proofs.Lays.n138 Tryz.prog Tryz.lays138_ren := {
  mixed := by kernel_rfl
  f138 := Tryz.func140.trans (congrArg some (by kernel_rfl))
  f143 := Tryz.func141.trans (congrArg some (by kernel_rfl))
  f195 := Tryz.func171.trans (congrArg some (by kernel_rfl))
  f217 := Tryz.func195.trans (congrArg some (by kernel_rfl))
  f218 := Tryz.func173.trans (congrArg some (by kernel_rfl))
  f219 := Tryz.func174.trans (congrArg some (by kernel_rfl))
  f224 := Tryz.func197.trans (congrArg some (by kernel_rfl))
  f225 := Tryz.func196.trans (congrArg some (by kernel_rfl))
  f266 := Tryz.func220.trans (congrArg some (by kernel_rfl))
  f267 := Tryz.func198.trans (congrArg some (by kernel_rfl))
  f314 := Tryz.func221.trans (congrArg some (by kernel_rfl))
  t0 := Tryz.underlying0
  a0 := Tryz.isAgg0
  z0 := Tryz.sizeOf0
  v0 := Tryz.zeroValue0
  t3 := Tryz.underlying3
  a3 := Tryz.isAgg3
  z3 := Tryz.sizeOf3
  v3 := Tryz.zeroValue3
  t4 := Tryz.underlying4
  a4 := Tryz.isAgg4
  z4 := Tryz.sizeOf4
  v4 := Tryz.zeroValue4
  t5 := Tryz.underlying5
  a5 := Tryz.isAgg5
  z5 := Tryz.sizeOf5
  v5 := Tryz.zeroValue5
  t9 := Tryz.underlying9
  a9 := Tryz.isAgg9
  z9 := Tryz.sizeOf9
  v9 := Tryz.zeroValue9
  t46 := Tryz.underlying171
  a46 := Tryz.isAgg171
  z46 := Tryz.sizeOf171
  v46 := Tryz.zeroValue171
  t51 := Tryz.underlying215
  a51 := Tryz.isAgg215
  z51 := Tryz.sizeOf215
  v51 := Tryz.zeroValue215
  t146 := Tryz.underlying291
  a146 := Tryz.isAgg291
  z146 := Tryz.sizeOf291
  v146 := Tryz.zeroValue291
  g1 := by kernel_rfl }
def Tryz.lays221_ren : Go.Shelf.Ren := ⟨fun | 221 => 110 | 268 => 139 | 138 => 140 | 143 => 141 | 195 => 171 | 197 => 172 | 218 => 173 | 219 => 174 | 260 => 194 | 217 => 195 | 225 => 196 | 224 => 197 | 267 => 198 | 266 => 220 | 314 => 221 | n => n, fun | 9 => 9 | 3 => 3 | 31 => 42 | 4 => 4 | 0 => 0 | 105 => 243 | 21 => 21 | 5 => 5 | 46 => 171 | 119 => 287 | 139 => 290 | 138 => 289 | 146 => 291 | 51 => 215 | n => n, fun | 1 => 0 | 3 => 1 | 4 => 2 | n => n⟩
theorem Tryz.lays221 : Go.Proofs.Lays.n221 Tryz.prog Tryz.lays221_ren := {
  mixed := by kernel_rfl
  f138 := Tryz.func140.trans (congrArg some (by kernel_rfl))
  f143 := Tryz.func141.trans (congrArg some (by kernel_rfl))
  f195 := Tryz.func171.trans (congrArg some (by kernel_rfl))
  f197 := Tryz.func172.trans (congrArg some (by kernel_rfl))
  f217 := Tryz.func195.trans (congrArg some (by kernel_rfl))
  f218 := Tryz.func173.trans (congrArg some (by kernel_rfl))
  f219 := Tryz.func174.trans (congrArg some (by kernel_rfl))
  f221 := Tryz.func110.trans (congrArg some (by kernel_rfl))
  f224 := Tryz.func197.trans (congrArg some (by kernel_rfl))
  f225 := Tryz.func196.trans (congrArg some (by kernel_rfl))
  f260 := Tryz.func194.trans (congrArg some (by kernel_rfl))
  f266 := Tryz.func220.trans (congrArg some (by kernel_rfl))
  f267 := Tryz.func198.trans (congrArg some (by kernel_rfl))
  f268 := Tryz.func139.trans (congrArg some (by kernel_rfl))
  f314 := Tryz.func221.trans (congrArg some (by kernel_rfl))
  t0 := Tryz.underlying0
  a0 := Tryz.isAgg0
  z0 := Tryz.sizeOf0
  v0 := Tryz.zeroValue0
  t3 := Tryz.underlying3
  a3 := Tryz.isAgg3
  z3 := Tryz.sizeOf3
  v3 := Tryz.zeroValue3
  t4 := Tryz.underlying4
  a4 := Tryz.isAgg4
  z4 := Tryz.sizeOf4
  v4 := Tryz.zeroValue4
  t5 := Tryz.underlying5
  a5 := Tryz.isAgg5
  z5 := Tryz.sizeOf5
  v5 := Tryz.zeroValue5
  t9 := Tryz.underlying9
  a9 := Tryz.isAgg9
  z9 := Tryz.sizeOf9
  v9 := Tryz.zeroValue9
  t21 := Tryz.underlying21
  a21 := Tryz.isAgg21
  z21 := Tryz.sizeOf21
  v21 := Tryz.zeroValue21
  t31 := Tryz.underlying42
  a31 := Tryz.isAgg42
  z31 := Tryz.sizeOf42
  v31 := Tryz.zeroValue42
  t46 := Tryz.underlying171
  a46 := Tryz.isAgg171
  z46 := Tryz.sizeOf171
  v46 := Tryz.zeroValue171
  t51 := Tryz.underlying215
  a51 := Tryz.isAgg215
  z51 := Tryz.sizeOf215
  v51 := Tryz.zeroValue215
  t105 := Tryz.underlying243
  a105 := Tryz.isAgg243
  z105 := Tryz.sizeOf243
  v105 := Tryz.zeroValue243
  t119 := Tryz.underlying287
  a119 := Tryz.isAgg287
  z119 := Tryz.sizeOf287
  t138 := Tryz.underlying289
  a138 := Tryz.isAgg289
  z138 := Tryz.sizeOf289
  v138 := Tryz.zeroValue289
  t139 := Tryz.underlying290
  a139 := Tryz.isAgg290
  z139 := Tryz.sizeOf290
  v139 := Tryz.zeroValue290
  t146 := Tryz.underlying291
  a146 := Tryz.isAgg291
  z146 := Tryz.sizeOf291
  v146 := Tryz.zeroValue291
  g1 := by kernel_rfl
  g3 := by kernel_rfl
  g4 := by kernel_rfl }
end Go.Proofs
