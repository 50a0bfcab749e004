/- Calls: what D returns, the model returns. The program logic over D, its first part: how a run depends on the mark 'low', and on the temporaries. The program logic over D, its second part: operations. The program logic over D, its third part: what a statement does, by a formula that is read off the code ('vc'), and the proof that the formula suffices. The formula names values alone: the temporaries are gone from it. -/
import Derived.Test.YtjecgmfildhpiaaGreatDoorG3J
/- Calls: what D returns, the model returns. -/
namespace Go.D
open Go

section
variable {E : Env} {P : Program} {call : CallFn} {nt : Nat} {σ σ' : Sg} {m m' : M} {w w' : World} {a : Act}

theorem at_enter : ∀ (l : List Value) (i t : Nat), at? (enter l i) t = if t < i then undef else (l[t - i]?).getD undef
  | [], i, t => by
    unfold enter at?
    rw [Tr.get_e]
    by_cases h : t < i <;> simp [h]
  | v :: l, i, t => by
    unfold enter
    have ih := at_enter l (i + 1) t
    unfold at? at ih ⊢
    rw [Tr.get_set]
    by_cases h : t = i
    · subst h; simp
    · rw [if_neg h, ih]
      by_cases h1 : t < i
      · rw [if_pos (by omega), if_pos h1]
      · rw [if_neg (by omega), if_neg h1]
        have : t - i = (t - (i + 1)) + 1 := by omega
        rw [this]
        simp
theorem enter_rel {args : List Value} {args' : Array Value} (h : LRel σ args args'.toList) (hn : args.length ≤ nt) :
    FrRel σ (enter args 0) { tmps := args' ++ Array.replicate (nt - args'.size) undef, defers := [] } nt := by
  have hl := h.1
  simp only [Array.length_toList] at hl
  refine ⟨by simp; omega, fun t ht => ?_⟩
  rw [at_enter, if_neg (by omega), Nat.sub_zero]
  simp only [Act.eval]
  by_cases hta : t < args'.size
  · have h1 : args[t]? = some args[t] := by simp [show t < args.length by omega]
    obtain ⟨u', hu, hr⟩ := h.get h1
    have hu' : args'[t]? = some u' := by simpa using hu
    rw [h1, Option.getD_some, Array.getD_eq_getD_getElem?, Array.getElem?_append_left hta, hu']
    exact hr
  · rw [List.getElem?_eq_none (by omega), Option.getD_none, Array.getD_eq_getD_getElem?, Array.getElem?_append_right (by omega), Array.getElem?_replicate]
    split <;> exact VRel.undef

theorem resultOne_sound (hE : E.OK P) (hs : Sim P σ m w) {T : Tr Value} (hf : FrRel σ T a nt) {r : ResultVar} (hr : (match r with | .tmp t => Nat.blt t nt | .cell a _ => Nat.blt a nt) = true) {v : Value} (h : resultOne E T m r = some v) :
    ∃ v', ((match r with | .tmp t => pure (a.tmps.getD t undef) | .cell x t => do Go.loadVar t (← asAddr (a.tmps.getD x undef))) : Sem Value).run P w = .ok v' w ∧ VRel σ v v' := by
  unfold resultOne at h
  cases r with
  | tmp t =>
    cases h
    have hr : Nat.blt t nt = true := hr
    rw [blt_iff] at hr
    exact ⟨_, rfl, hf.2 t (by simpa using hr)⟩
  | cell x t =>
    have hr : Nat.blt x nt = true := hr
    rw [blt_iff] at hr
    have hx := hf.2 x (by simpa using hr)
    dsimp only at h
    split at h
    · rename_i ad had
      rw [had] at hx
      obtain ⟨i, hi, _, he⟩ := hx.ptr_inv
      have he : a.tmps.getD x undef = _ := he
      obtain ⟨v', h1, h2, _⟩ := loadVar_sound (w := w) hE hs hi h
      refine ⟨v', ?_, h2⟩
      dsimp only
      rw [he, Sem.run_bind]
      simp only [asAddr, Sem.run_pure, Result.andThen_ok]
      exact h1
    · cases h
theorem results_sound (hE : E.OK P) (hs : Sim P σ m w) {T : Tr Value} (hf : FrRel σ T a nt) : ∀ (rs : List ResultVar) (vs : List Value), (∀ r ∈ rs, (match r with | .tmp t => Nat.blt t nt | .cell a _ => Nat.blt a nt) = true) → results? E T m rs = some vs →
    ∃ vs' : List Value, (rs.mapM (m := Sem) fun | .tmp t => pure (a.tmps.getD t undef) | .cell x t => do Go.loadVar t (← asAddr (a.tmps.getD x undef))).run P w = .ok vs' w ∧ LRel σ vs vs'
  | [], vs, _, h => by
    simp only [results?, Option.some.injEq] at h
    subst h
    exact ⟨[], rfl, LRel.nil⟩
  | r :: rs, vs, hr, h => by
    unfold results? at h
    cases h1 : resultOne E T m r with
    | none => rw [h1] at h; simp at h
    | some v =>
      cases h2 : results? E T m rs with
      | none => rw [h1, h2] at h; simp at h
      | some vs1 =>
        rw [h1, h2] at h
        simp only [Option.some.injEq] at h
        subst h
        obtain ⟨v', q1, q2⟩ := resultOne_sound hE hs hf (hr r List.mem_cons_self) h1
        obtain ⟨vs', q3, q4⟩ := results_sound hE hs hf rs vs1 (fun r h => hr r (List.mem_cons_of_mem _ h)) h2
        refine ⟨v' :: vs', ?_, LRel.cons q2 q4⟩
        rw [List.mapM_cons, Sem.run_bind]
        generalize hG : Sem.run P _ w = G
        have hG : G = .ok v' w := hG.symm.trans q1
        rw [hG, Result.andThen_ok, Sem.run_bind, q3]
        rfl
theorem result_sound (hE : E.OK P) (hs : Sim P σ m w) {T : Tr Value} {fn : Func} (hf : FrRel σ T a nt) (hr : ∀ r ∈ fn.results.toList, (match r with | .tmp t => Nat.blt t nt | .cell a _ => Nat.blt a nt) = true) {v : Value} (h : result? E fn T m = some v) :
    ∃ v', (results fn a.tmps).run P w = .ok v' w ∧ VRel σ v v' := by
  unfold result? at h
  cases h1 : results? E T m fn.results.toList with
  | none => rw [h1] at h; simp at h
  | some vs =>
    rw [h1] at h
    obtain ⟨vs', q1, q2⟩ := results_sound hE hs hf fn.results.toList vs hr h1
    refine ⟨if h : vs'.toArray.size = 1 then vs'.toArray[0] else .tuple vs'.toArray, ?_, ?_⟩
    · unfold results
      rw [Array.mapM_eq_mapM_toList]
      rw [Sem.run_bind, Sem.run_map]
      generalize hG : Sem.run P (List.mapM _ _) w = G
      have hG : G = .ok vs' w := hG.symm.trans q1
      rw [hG]
      rfl
    · split at h
      · rename_i v1 hv1
        cases hv1
        cases h
        obtain ⟨v', l2, rfl, hv, hl⟩ := q2.cases
        obtain rfl := hl.nil_eq
        simpa using hv
      · rename_i vs1 hne hv1
        cases hv1
        cases h
        have hlen : ¬ vs'.toArray.size = 1 := by
          intro hl
          have : vs.length = 1 := by rw [q2.1]; simpa using hl
          obtain ⟨x, rfl⟩ := List.length_eq_one_iff.1 this
          exact hne x rfl
        rw [dif_neg hlen]
        exact q2.tuple
      · rename_i hv1; cases hv1

theorem Ev.relow (h : Ev P σ { m with low := m.n } w σ' m' w') : Ev P σ m w σ' { m' with low := min m.low m'.low } w' where
  ext := h.ext
  sim := h.sim.low _
  low := Nat.min_le_left _ _
  nle := h.nle
  hle := h.hle
  new := fun b i x y => by
    obtain ⟨h1, h2⟩ := h.new b i x y
    refine ⟨h1, h2.imp id ?_⟩
    rintro ⟨b0, i0, p, q, r⟩
    exact ⟨b0, i0, p, q, by dsimp only; omega⟩
  abs := fun b x y => h.abs b (by dsimp only at x; omega) y
  heap := fun B x y => h.heap B x fun b i p q => by have := y b i p q; dsimp only at this; omega
  os := h.os
  tape := h.tape
  output := h.output
theorem VRel.eq_of_flat2 {v v' : Value} (h : VRel σ v v') (h0 : flat2 v = true) : v' = v := by
  by_cases hc : flat1 v = true
  · exact h.eq_of_flat1 hc
  · cases v with
    | tuple vs =>
      obtain ⟨a', rfl, ha⟩ := h.tuple_inv
      congr 1
      apply Array.ext'
      apply List.ext_getElem?
      intro j
      cases hj : vs.toList[j]? with
      | none => exact List.getElem?_eq_none (by rw [← ha.1]; exact List.getElem?_eq_none_iff.1 hj)
      | some u =>
        obtain ⟨u', hu, hr⟩ := ha.get hj
        rw [hu, hr.eq_of_flat1 (List.all_eq_true.1 h0 u (List.mem_of_getElem? hj))]
    | _ => exact absurd h0 hc
/-- A call that has written nothing of what lay before it, and whose result bears no address. -/
theorem Ev.forget (hs : Sim P σ m w) (h : Ev P σ { m with low := m.n } w σ' m' w') (hl : m.n ≤ m'.low) : Ev P σ m w σ m w' := by
  have hk : ∀ B, B < w.heap.size → w'.heap[B]? = w.heap[B]? := fun B hB => h.heap B hB fun b i p _ => by have := hs.dom b i p; omega
  have hsz := h.hle
  refine ⟨fun _ _ x => x, ⟨hs.dom, fun b i hb => (hs.obj b i hb).keep (fun _ _ x => x) (hk _ (hs.lt b i hb)), fun b i hb => ?_, hs.inj, hs.glob⟩, Nat.le_refl _, Nat.le_refl _, hsz, fun b i x y => (by rw [x] at y; cases y), fun _ _ _ => rfl, fun B hB _ => hk B hB, h.os, h.tape, h.output⟩
  have := hs.lt b i hb
  omega

/-- A block of which the store knows nothing, and that was not there before. -/
theorem Ev.touch {r : Nat} {o : Obj} (h : Ev P σ m w σ' m' w') (hb : w.heap.size ≤ r) (hr : ∀ b i, σ' b = some i → i.blk ≠ r) : Ev P σ m w σ' m' (w'.putObj r o) := by
  have hs := h.sim
  refine ⟨h.ext, ⟨hs.dom, fun b i x => (hs.obj b i x).keep (fun _ _ x => x) (World.putObj_heap_other (hr b i x)), fun b i x => by rw [World.putObj_size]; exact hs.lt b i x, hs.inj, hs.glob⟩, h.low, h.nle, by rw [World.putObj_size]; exact h.hle, h.new, h.abs, fun B x y => ?_, h.os, h.tape, h.output⟩
  rw [World.putObj_heap_other (by omega)]
  exact h.heap B x y
theorem DefOK.touch {base r : Nat} {o : Obj} : ∀ {ds : List Deferred}, DefOK base σ w ds → (∀ d ∈ ds, d.target ≠ .collected r) → DefOK base σ (w.putObj r o) ds
  | [], _, _ => trivial
  | d :: ds, h, hn => by
    obtain ⟨⟨q, h1, h2, h3, h4, h5⟩, h6⟩ := h
    refine ⟨⟨q, h1, h2, ?_, h4, h5⟩, h6.touch fun d' hd' => hn d' (List.mem_cons_of_mem _ hd')⟩
    rw [World.putObj_heap_other (fun e => hn d List.mem_cons_self (by rw [h1, e]))]
    exact h3
/-- A function that leaves with marks. -/
theorem leaves_marks {fn : Func} {tmps : Array Value} {R : Ending → World → Prop} : ∀ (ds : List Deferred) (w' : World), DefOK w.heap.size σ' w' ds → Ev P σ m w σ' m' w' →
    (∀ w2, Ev P σ m w σ' m' w2 → ∃ v, (results fn tmps).run P w2 = .ok v w2 ∧ R (.returned v) w2) → LeavesInM Fence.wide 0 P fn tmps R ds .returning w'
  | [], w', _, he, h => h w' he
  | d :: ds, w', hd, he, h => by
    obtain ⟨⟨r, h1, h2, h3, h4, h5⟩, h6⟩ := hd
    exact ⟨by simp, .inl ⟨r, _, h1, run_takeDeferred h3, leaves_marks ds _ (h6.touch h5) (he.touch h2 h4) h⟩⟩

/-- The same, ahead of other deferred calls. -/
theorem leaves_marksK {fn : Func} {tmps : Array Value} {R : Ending → World → Prop} {rest : List Deferred} {base : Nat} {K : World → Prop} (hK : ∀ w r o, base ≤ r → (∀ b i, σ' b = some i → i.blk ≠ r) → K w → K (w.putObj r o)) (hb : w.heap.size ≤ base) :
    ∀ (ds : List Deferred) (w' : World), DefOK base σ' w' ds → Ev P σ m w σ' m' w' → K w' →
    (∀ w2, Ev P σ m w σ' m' w2 → K w2 → LeavesInM Fence.wide 0 P fn tmps R rest .returning w2) → LeavesInM Fence.wide 0 P fn tmps R (ds ++ rest) .returning w'
  | [], w', _, he, hk, h => h w' he hk
  | d :: ds, w', hd, he, hk, h => by
    obtain ⟨⟨r, h1, h2, h3, h4, h5⟩, h6⟩ := hd
    exact ⟨by simp, .inl ⟨r, _, h1, run_takeDeferred h3, leaves_marksK hK hb ds _ (h6.touch h5) (he.touch (Nat.le_trans hb h2) h4) (hK _ _ _ h2 h4 hk) h⟩⟩

/-- What a call returns. -/
theorem fin_sound (hE : E.OK P) {fn : Func} {fr : Fr} {v : Value} (h : fin? E fn m fr = some (v, m')) (hok : (fn.results.toList.all fun | .tmp t => Nat.blt t nt | .cell a _ => Nat.blt a nt) = true)
    (hs : Sim P σ m w) (hf : FrRel σ' fr.T a nt) (he : Ev P σ { m with low := m.n } w σ' fr.m w') : ∃ v', (results fn a.tmps).run P w' = .ok v' w' ∧ CallRes P σ m w v m' (.returned v') w' := by
  unfold fin? at h
  cases hr : result? E fn fr.T fr.m with
  | none => rw [hr] at h; cases h
  | some v1 =>
    rw [hr] at h
    dsimp only at h
    obtain ⟨v', q1, q2⟩ := result_sound hE he.sim hf (fun r hr => by
      have := List.all_eq_true.1 hok r hr
      cases r <;> exact this) hr
    refine ⟨v', q1, ?_⟩
    cases hb : (flat2 v1 && Nat.ble m.n fr.m.low) with
    | true =>
      rw [hb] at h
      cases h
      simp only [Bool.and_eq_true] at hb
      have hv' := q2.eq_of_flat2 hb.1
      subst hv'
      exact ⟨_, σ, rfl, VRel.of_flat2 hb.1, Ev.forget hs he (Nat.le_of_ble_eq_true hb.2)⟩
    | false =>
      rw [hb] at h
      cases h
      exact ⟨_, σ', rfl, q2, he.relow⟩

/-- Statements, one behind the other. -/
theorem spineC_sound (hE : E.OK P) (hcall : CallOK P call) {n : Nat} : ∀ (pre : List Code) (c2 : Code) (fr : Fr) (e : Ex) (fr' : Fr), okCode nt P.globals.size (spineC pre c2) = true → execL? (exec? E call n) pre fr = some (e, fr') →
    ∀ (k base : Nat) (σ : Sg) (a : Act) (w : World) (Q : Exit → Act → World → Prop) (tl : List Deferred), FrRel σ fr.T a nt → Sim P σ fr.m w → DefT base σ w tl a.defers → base ≤ w.heap.size →
    (∀ σ' a' w', FrRel σ' fr'.T a' nt → DefT base σ' w' tl a'.defers → Ev P σ fr.m w σ' fr'.m w' → match e with | .normal => c2.wpIn (wideAt none) k P Q a' w' | e => Q e.to a' w') → (spineC pre c2).wpIn (wideAt none) k P Q a w
  | [], c2, fr, e, fr', _, h => fun k base σ a w Q tl hf hs hd _ hQ => by
    cases h
    exact hQ σ a w hf hd (Ev.refl hs)
  | c :: pre, c2, fr, e, fr', hok, h => fun k base σ a w Q tl hf hs hd hba hQ => by
    unfold spineC okCode at hok
    simp only [Bool.and_eq_true] at hok
    unfold execL? at h
    unfold spineC
    refine wpIn_seq ?_
    cases hc : exec? E call n c fr with
    | none => rw [hc] at h; cases h
    | some p =>
      obtain ⟨e1, fr1⟩ := p
      rw [hc] at h
      refine exec_sound hE hcall c fr e1 fr1 hok.1 hc none k base σ a w _ tl (.inl rfl) hf hs hd hba fun σ1 a1 w1 hf1 hd1 _ he1 => ?_
      cases e1 with
      | normal => exact spineC_sound hE hcall pre c2 fr1 e fr' hok.2 h k base σ1 a1 w1 Q tl hf1 he1.sim hd1 (Nat.le_trans hba he1.hle) fun σ2 a2 w2 hf2 hd2 he2 => hQ σ2 a2 w2 hf2 hd2 (he1.trans he2)
      | exit id => cases h; exact hQ σ1 a1 w1 hf1 hd1 he1
      | ret => cases h; exact hQ σ1 a1 w1 hf1 hd1 he1
theorem okCode_spineC : ∀ (pre : List Code) (c : Code) {n G : Nat}, okCode n G (spineC pre c) = true → okCode n G c = true
  | [], _, _, _, h => h
  | _ :: pre, c, n, G, h => by
    unfold spineC okCode at h
    simp only [Bool.and_eq_true] at h
    exact okCode_spineC pre c h.2
theorem run_enter {f : FuncId} {fn : Func} {body : Code} {args' : Array Value} (hfs : P.funcs[f]? = some fn) (hb : fn.body = some body) (hok : okFn P.globals.size fn = true) : (callFunc f args').run P w = .ok (.enter f args') w := by
  unfold okFn at hok
  simp only [Bool.and_eq_true] at hok
  have hne : (fn.name == "runtime.NumGoroutine") = false := by simpa using hok.2.1
  unfold callFunc
  simp only [Sem.run_bind, run_program, Result.andThen_ok, hfs, hne, hb]
  rfl

/-- Operations among which recover is asked. -/
theorem recs_sound {ops : Array Oper} (hops : ∀ o ∈ ops.toList, okOper nt P.globals.size o = true) {n : Nat} {c₀ : Frame} {cs : List Frame} (hu : c₀.mode = .returning) (hs : Sim P σ m w) {Q : Exit → Act → List Frame → World → Prop} {ds : List Deferred} {T' : Tr Value} :
    ∀ (l : List Oper) (i : Nat) (T : Tr Value) (a : Act), (∀ j o, l[j]? = some o → ops[i + j]? = some o) → recOps? l T = some T' → FrRel σ T a nt → a.defers = ds →
    (∀ a', FrRel σ T' a' nt → a'.defers = ds → Q .normal a' (c₀ :: cs) w) → wpOpsSIn Fence.wide n P ops Q (List.range' i l.length) a (c₀ :: cs) w
  | [], i, T, a, _, h, hf, hd, hQ => by
    cases h
    simp only [List.length_nil, List.range'_zero, wpOpsSIn]
    exact hQ a hf hd
  | o :: l, i, T, a, hi, h, hf, hd, hQ => by
    have ho : ops[i]? = some o := by have := hi 0 o rfl; simpa using this
    have hmem : o ∈ ops.toList := by simpa using Array.mem_of_getElem? ho
    have hokj := hops o hmem
    have next : ∀ (v v' : Value), recOps? l (put T o.dst v) = some T' → VRel σ v v' → wpOpsSIn Fence.wide n P ops Q (List.range' (i + 1) l.length) (a.put o.dst v') (c₀ :: cs) w := fun v v' h1 h2 =>
      recs_sound hops hu hs l (i + 1) _ _ (fun j o' hj => by have := hi (j + 1) o' (by simpa using hj); rw [show i + 1 + j = i + (j + 1) by omega]; exact this) h1 (hf.put (okOper_dst hokj) h2) (by rw [put_defers]; exact hd) hQ
    simp only [List.length_cons, List.range'_succ, wpOpsSIn, ho]
    refine ⟨fun _ _ => trivial, ?_⟩
    unfold recOps? at h
    have hw : o.guard = none → Region.wanted o (yielded ops a.tmps) = true := by
      intro hg
      unfold Region.wanted
      rw [hg]
    have hopnd : ∀ x ∈ o.op.operands.toList, VRel σ (ev T x) (a.eval x) := fun x hx => hf.opnd hs (okOper_ops hokj x hx)
    split at h
    · rename_i c hg hop
      rw [if_pos (hw hg)]
      split at h
      · rename_i hc
        cases hem : c.args.toList.isEmpty with
        | false => rw [hem] at h; cases h
        | true =>
          rw [hem] at h
          simp only [cond_true] at h
          have hrun : (execOp a.eval o).run P w = .ok .recover w := by
            unfold execOp
            rw [hop]
            unfold resolve
            dsimp only
            rw [hc]
            simp only [Sem.run_bind, Sem.run_pure, Result.andThen_ok, invoke, Go.builtin]
          rw [hrun]
          have hrec : recoverD (c₀ :: cs) = none := by simp [recoverD, hu]
          simp only [hrec]
          exact next .nilIface .nilIface h (.flat _ rfl)
      · cases h
    · rename_i x hg hop
      rw [if_pos (hw hg)]
      have hrun : (execOp a.eval o).run P w = .ok (.value (a.eval x)) w := by
        unfold execOp
        rw [hop]
        rfl
      rw [hrun]
      exact next _ _ h (hopnd x (by rw [hop]; simp [Op.operands]))
    · rename_i x hg hop
      rw [if_pos (hw hg)]
      have hrun : (execOp a.eval o).run P w = .ok (.value (a.eval x)) w := by
        unfold execOp
        rw [hop]
        rfl
      rw [hrun]
      exact next _ _ h (hopnd x (by rw [hop]; simp [Op.operands]))
    · cases h

/-- A deferred closure, where nothing panics. -/
theorem clo_sound (hE : E.OK P) (hcall : CallOK P call) {n : Nat} {g : Nat} {args : List Value} {m3 : M} (h : clo? E (exec? E call n) g args m = some m3) {args' : Array Value} (hs : Sim P σ m w) (hl : LRel σ args args'.toList) :
    CallsDIn Fence.wide 0 P g args' .returning w (fun e u' w' => u' = .returning ∧ ∃ v, e = .returned v ∧ ∃ σ', Ev P σ m w σ' m3 w') ∧ (callFunc g args').run P w = .ok (.enter g args') w := by
  unfold clo? at h
  split at h
  · rename_i c hc
    obtain ⟨hfs, hbody⟩ := hE.cl g c hc
    have hok := hE.codeC hc
    refine ⟨?_, run_enter hfs hbody hok⟩
    unfold okFn at hok
    rw [hbody] at hok
    simp only [Bool.and_eq_true] at hok
    cases hb : (Nat.ble args.length c.fn.ntmps && (c.fn.results.toList.isEmpty && noRF c.rest)) with
    | false => rw [hb] at h; cases h
    | true =>
      rw [hb] at h
      simp only [cond_true] at h
      simp only [Bool.and_eq_true, List.isEmpty_iff] at hb
      obtain ⟨hle, hres, hno⟩ := hb
      have hle := Nat.le_of_ble_eq_true hle
      have hcode := hok.1
      unfold okCode at hcode
      simp only [Bool.and_eq_true] at hcode
      have hreg := hcode.1
      unfold okCode at hreg
      simp only [Bool.and_eq_true] at hreg
      have hops : ∀ o ∈ c.ops.toList, okOper c.fn.ntmps P.globals.size o = true := List.all_eq_true.1 hreg.1
      have hent := enter_rel (nt := c.fn.ntmps) hl hle
      split at h
      · rename_i T hT
        have fin : ∀ (e : Ex) (fr : Fr), e = .normal ∨ e = .ret → exec? E call n c.rest { T := T, m := { m with low := m.n } } = some (e, fr) → m3 = { fr.m with low := min m.low fr.m.low } →
            CallsDIn Fence.wide 0 P g args' .returning w (fun e u' w' => u' = .returning ∧ ∃ v, e = .returned v ∧ ∃ σ', Ev P σ m w σ' m3 w') := by
          intro e fr hcase hex hm
          subst hm
          refine callsDIn_of_wpSIn hfs hbody trivial fun c₀ cs hu => wpSIn_seq (wpSIn_region ?_)
          rw [List.range_eq_range', ← Array.length_toList]
          refine recs_sound (nt := c.fn.ntmps) hops hu hs c.ops.toList 0 _ _ (fun j o hj => by simpa using hj) hT hent rfl fun a' hf' hd' => ?_
          refine wpSIn_of_wpIn rfl ?_
          refine exec_sound hE hcall c.rest _ e fr hcode.2 hex none 0 w.heap.size σ a' w _ [] (.inl rfl) hf' (hs.low m.n) ⟨[], by rw [hd']; rfl, trivial⟩ (Nat.le_refl _) fun σ1 a1 w1 hf1 hd1 hq1 he1 => ?_
          have hdef : a1.defers = [] := (hq1 hno).trans hd'
          have hr0 : (results c.fn a1.tmps).run P w1 = .ok (.tuple #[]) w1 := by
            have : c.fn.results = #[] := Array.eq_empty_of_size_eq_zero (by rw [← Array.length_toList, hres]; rfl)
            unfold results
            rw [this]
            simp
          have hc0 : c₀ :: cs = { c₀ with mode := .returning } :: cs := by rw [← hu]
          have hq : a1.defers = [] ∧ ∃ u', c₀ :: cs = { c₀ with mode := u' } :: cs ∧ ∃ v, (results c.fn a1.tmps).run P w1 = .ok v w1 ∧
              (u' = .returning ∧ ∃ v', Ending.returned v = .returned v' ∧ ∃ σ', Ev P σ m w σ' { fr.m with low := min m.low fr.m.low } w1) :=
            ⟨hdef, .returning, hc0, _, hr0, rfl, _, rfl, σ1, he1.relow⟩
          rcases hcase with rfl | rfl <;> exact hq
        split at h
        · cases h
        · cases h
        · rename_i e fr hne hex
          cases h
          refine fin e fr ?_ hex rfl
          cases e with
          | normal => exact .inl rfl
          | ret => exact .inr rfl
          | exit id => exact absurd rfl (hne id)
      · cases h
  · cases h

/-- A call of a function that defers. -/
theorem callD_calls (hE : E.OK P) (hcall : CallOK P call) {n : Nat} {f : FuncId} {d : DFn} (hd : E.df.get f = some d) {args : List Value} {v : Value} (h : callD? E (exec? E call n) d args m = some (v, m')) {args' : Array Value} (hs : Sim P σ m w) (hl : LRel σ args args'.toList) :
    CallsIn Fence.wide 0 P f args' w (CallRes P σ m w v m') ∧ (callFunc f args').run P w = .ok (.enter f args') w := by
  obtain ⟨hfs, hbody⟩ := hE.df f d hd
  have hok := hE.codeD hd
  refine ⟨?_, run_enter hfs hbody hok⟩
  unfold okFn at hok
  rw [hbody] at hok
  simp only [Bool.and_eq_true] at hok
  unfold callD? at h
  cases hle : Nat.ble args.length d.fn.ntmps with
  | false => rw [hle] at h; cases h
  | true =>
    rw [hle] at h
    simp only [cond_true] at h
    have hle := Nat.le_of_ble_eq_true hle
    have hent := enter_rel (nt := d.fn.ntmps) hl hle
    have hs0 := hs.low m.n
    have hcode := okCode_spineC _ _ hok.1
    unfold okCode at hcode
    simp only [Bool.and_eq_true] at hcode
    have hreg := hcode.1
    unfold okCode at hreg
    simp only [Bool.and_eq_true] at hreg
    have hops : ∀ o ∈ (#[d.mf, d.de] : Array Oper).toList, okOper d.fn.ntmps P.globals.size o = true := List.all_eq_true.1 hreg.1
    refine callsIn_of_wp_marks hfs hbody trivial ?_
    split at h
    · -- it returns before it defers
      rename_i fr hex
      refine spineC_sound hE hcall d.pre _ _ .ret fr hok.1 hex 0 w.heap.size σ _ w _ [] hent hs0 ⟨[], rfl, trivial⟩ (Nat.le_refl _) fun σ1 a1 w1 hf1 hd1 he1 => ?_
      obtain ⟨ms, hms, hdo⟩ := hd1
      have hms : a1.defers = ms := by rw [hms, List.append_nil]
      show LeavesInM Fence.wide 0 P d.fn a1.tmps (CallRes P σ m w v m') a1.defers .returning w1
      rw [hms]
      exact leaves_marks ms w1 hdo he1 fun w2 he2 => fin_sound hE h hok.2.2 hs hf1 he2
    · rename_i fr hex
      refine spineC_sound hE hcall d.pre _ _ .normal fr hok.1 hex 0 w.heap.size σ _ w _ [] hent hs0 ⟨[], rfl, trivial⟩ (Nat.le_refl _) fun σ1 a1 w1 hf1 hd1 he1 => ?_
      obtain ⟨ms1, hms1, hdo1⟩ := hd1
      have hms1 : a1.defers = ms1 := by rw [hms1, List.append_nil]
      dsimp only
      split at h
      · rename_i td g fi ca c hg1 hdst hmf hg2 hde
        split at h
        · rename_i t hcal
          cases hcond : (Nat.beq t td && (c.args.toList.isEmpty && fi.toList.isEmpty)) with
          | false => rw [hcond] at h; cases h
          | true =>
            rw [hcond] at h
            simp only [cond_true] at h
            simp only [Bool.and_eq_true, List.isEmpty_iff] at hcond
            obtain ⟨ht, hca, hfi⟩ := hcond
            obtain rfl := Nat.eq_of_beq_eq_true ht
            have hfi' : fi = #[] := Array.eq_empty_of_size_eq_zero (by rw [← Array.length_toList, hfi]; rfl)
            have hca' : c.args = #[] := Array.eq_empty_of_size_eq_zero (by rw [← Array.length_toList, hca]; rfl)
            subst hfi'
            have hok1 := hops d.mf (by simp)
            have hok2 := hops d.de (by simp)
            have hcav : LRel σ1 (ca.toList.map (ev fr.T)) (ca.toList.map a1.eval) := evs_sound _ (fun o hx => hf1.opnd he1.sim (okOper_ops hok1 o (by rw [hmf]; simpa [Op.operands] using hx)))
            let cv : Value := .func (.func g) #[] (ca.toList.map a1.eval).toArray
            have hcv : VRel σ1 (.func (.func g) #[] (ca.toList.map (ev fr.T)).toArray) cv := .func g _ _ _ _ rfl (by simp) (fun j u u' p q => by simp at p) (fun j u u' p q => hcav.2 j u u' (by simpa using p) (by simpa using q))
            have hma : ca.map a1.eval = (ca.toList.map a1.eval).toArray := by apply Array.ext'; simp
            let dd : Deferred := { target := .fn (.func g) (ca.toList.map a1.eval).toArray, args := #[] }
            let a2 : Act := a1.put (some t) cv
            let a3 : Act := ({ a2 with defers := dd :: a2.defers } : Act).put d.de.dst undef
            have hf2 : FrRel σ1 (put fr.T (some t) (.func (.func g) #[] (ca.toList.map (ev fr.T)).toArray)) a2 d.fn.ntmps := hf1.put (fun x hx => okOper_dst hok1 x (by rw [hdst]; exact hx)) hcv
            have hf3 : FrRel σ1 (put (put fr.T (some t) (.func (.func g) #[] (ca.toList.map (ev fr.T)).toArray)) d.de.dst undef) a3 d.fn.ntmps :=
              FrRel.put (a := ({ a2 with defers := dd :: a2.defers } : Act)) ⟨hf2.1, hf2.2⟩ (okOper_dst hok2) VRel.undef
            have htd : t < d.fn.ntmps := okOper_dst hok1 t hdst
            have hev : a2.eval (.tmp t) = cv := by
              have : t < a1.tmps.size := by rw [hf1.1]; exact htd
              simp [a2, Act.put, Act.eval, this]
            refine wpIn_seq (wpIn_region_list ?_)
            unfold wpListIn
            have hw1 : Region.wanted d.mf (yielded #[d.mf, d.de] a1.tmps) = true := by unfold Region.wanted; rw [hg1]
            rw [if_pos hw1]
            refine ⟨fun _ _ => trivial, ?_⟩
            rw [Oper.semAt_eq _ _ _ (fun c hc => by rw [hmf] at hc; cases hc)]
            have hrun1 : (execOp a1.eval d.mf).run P w1 = .ok (.value cv) w1 := by
              unfold execOp
              rw [hmf]
              simp [Instr.makeFunc, cv, hma]
            rw [hrun1, Oper.uponIn_value]
            unfold wpListIn
            rw [hdst]
            have hw2 : Region.wanted d.de (yielded #[d.mf, d.de] (a1.put (some t) cv).tmps) = true := by unfold Region.wanted; rw [hg2]
            rw [if_pos hw2]
            refine ⟨fun _ _ => trivial, ?_⟩
            have hrun2 : (d.de.semAt (wideAt none).round a2.eval).run P w1 = .ok (.defer dd) w1 := by
              show (d.de.semAt none a2.eval).run P w1 = _
              rw [Oper.semAt_none]
              unfold execOp
              rw [hde]
              unfold resolve
              dsimp only
              rw [hcal]
              dsimp only
              rw [hev, hca']
              simp [Deferred.ofValue, cv, dd]
            have hrun2' : (d.de.semAt (wideAt none).round (a1.put (some t) cv).eval).run P w1 = .ok (.defer dd) w1 := hrun2
            rw [hrun2', Oper.uponIn_defer]
            unfold wpListIn
            have hdef3 : a3.defers = dd :: ms1 := by
              show (Act.put _ _ _).defers = _
              rw [put_defers]
              show dd :: (a1.put (some t) cv).defers = _
              rw [put_defers, hms1]
            show d.post.wpIn (wideAt none) 0 P _ a3 w1
            have fin : ∀ (e : Ex) (fr2 : Fr), e = .normal ∨ e = .ret → exec? E call n d.post { T := put (put fr.T (some t) (.func (.func g) #[] (ca.toList.map (ev fr.T)).toArray)) d.de.dst undef, m := fr.m } = some (e, fr2) →
                (match clo? E (exec? E call n) g (ca.toList.map (ev fr.T)) fr2.m with
                  | some m3 => fin? E d.fn m { fr2 with m := m3 }
                  | none => none) = some (v, m') → d.post.wpIn (wideAt none) 0 P (bodyPostM Fence.wide 0 P d.fn (CallRes P σ m w v m')) a3 w1 := by
              intro e fr2 hcase hex2 hres
              refine exec_sound hE hcall d.post _ e fr2 hcode.2 hex2 none 0 w1.heap.size σ1 a3 w1 _ (dd :: ms1) (.inl rfl) hf3 he1.sim ⟨[], by rw [hdef3]; rfl, trivial⟩ (Nat.le_refl _) fun σ2 a4 w2 hf4 hd4 _ he2 => ?_
              obtain ⟨ms2, hms2, hdo2⟩ := hd4
              have hleave : LeavesInM Fence.wide 0 P d.fn a4.tmps (CallRes P σ m w v m') a4.defers .returning w2 := by
                rw [hms2]
                have hsz := he1.hle
                refine leaves_marksK (K := fun w' => Ev P σ1 fr.m w1 σ2 fr2.m w' ∧ DefOK w.heap.size σ2 w' ms1) (base := w1.heap.size) (fun W r o hr hr4 hk => ⟨hk.1.touch hr hr4, hk.2.touch fun d' hd' e => ?_⟩) hsz ms2 w2 hdo2 (he1.trans he2) ⟨he2, hdo1.ev he2⟩ fun w3 he3 hk3 => ?_
                · obtain ⟨r', h1, h2⟩ := hdo1.lt d' hd'
                  rw [e] at h1
                  cases h1
                  omega
                · obtain ⟨hk1, hk2⟩ := hk3
                  cases hclo : clo? E (exec? E call n) g (ca.toList.map (ev fr.T)) fr2.m with
                  | none => rw [hclo] at hres; cases hres
                  | some m3 =>
                    rw [hclo] at hres
                    dsimp only at hres
                    obtain ⟨hc1, hc2⟩ := clo_sound (args' := #[] ++ (ca.toList.map a1.eval).toArray) hE hcall hclo he3.sim (by simpa using hcav.mono hk1.ext)
                    refine ⟨by simp, .inr ⟨fun hh => by simp [Fence.wide] at hh, .func g, _, g, _, rfl, hc2, fun _ _ => trivial, hc1.mono fun e u' w' hx => ?_⟩⟩
                    obtain ⟨rfl, v', rfl, σ', hev'⟩ := hx
                    exact leaves_marks ms1 w' (hk2.ev hev') (he3.trans hev') fun w4 he4 => fin_sound hE hres hok.2.2 hs (hf4.mono hev'.ext) he4
              rcases hcase with rfl | rfl <;> exact hleave
            split at h
            · cases h
            · cases h
            · rename_i e fr2 hne hex2
              refine fin e fr2 ?_ hex2 h
              cases e with
              | normal => exact .inl rfl
              | ret => exact .inr rfl
              | exit id => exact absurd rfl (hne id)
        · cases h
      · cases h
    · cases h

/-- A call of D's, and the model's. -/
theorem call_calls (hE : E.OK P) {X : CallFn} (hX : CallOK P X) {n : Nat} (ih : CallOK P (call? E X n)) {f : FuncId} {args : List Value} {v : Value} (h : call? E X (n + 1) (.func f) args m = some (v, m')) {args' : Array Value} (hs : Sim P σ m w) (hl : LRel σ args args'.toList) :
    CallsIn Fence.wide 0 P f args' w (CallRes P σ m w v m') ∧ (callFunc f args').run P w = .ok (.enter f args') w := by
  unfold call? at h
  split at h
  · rename_i r hr
    cases h
    exact hX.func f args m v m' hr σ w args' hs hl
  split at h
  · split at h
    · rename_i d hd
      exact callD_calls hE ih hd h hs hl
    · cases h
  · rename_i fn hfn
    have hfs := hE.fn f fn hfn
    have hok := hE.code hfn
    unfold okFn at hok
    simp only [Bool.and_eq_true] at hok
    split at h
    · cases h
    · rename_i body hbody
      rw [hbody] at hok
      cases hle : Nat.ble args.length fn.ntmps with
      | false => rw [hle] at h; simp at h
      | true =>
        rw [hle] at h
        simp only [cond_true] at h
        have hle := Nat.le_of_ble_eq_true hle
        have hrun : (callFunc f args').run P w = .ok (.enter f args') w := by
          have hne : (fn.name == "runtime.NumGoroutine") = false := by simpa using hok.2.1
          unfold callFunc
          simp only [Sem.run_bind, run_program, Result.andThen_ok, hfs, hne, hbody]
          rfl
        refine ⟨?_, hrun⟩
        have hs0 := hs.low m.n
        have hent := enter_rel (nt := fn.ntmps) hl hle
        have go : ∀ (e : Ex) (fr : Fr), e = .normal ∨ e = .ret → exec? E (call? E X n) n body { T := enter args 0, m := { m with low := m.n } } = some (e, fr) →
            (match result? E fn fr.T fr.m with
              | none => none
              | some v => bif flat2 v && Nat.ble m.n fr.m.low then some (v, m) else some (v, { fr.m with low := min m.low fr.m.low })) = some (v, m') → CallsIn Fence.wide 0 P f args' w (CallRes P σ m w v m') := by
          intro e fr hcase hex hres
          refine callsIn_of_wp_marks hfs hbody trivial ?_
          refine exec_sound hE ih body _ e fr hok.1 hex none 0 w.heap.size σ _ w _ [] (.inl rfl) hent hs0 ⟨[], rfl, trivial⟩ (Nat.le_refl _) fun σ1 a1 w1 hf1 hd1 _ he1 => ?_
          obtain ⟨ms, hms, hd1⟩ := hd1
          have hms : a1.defers = ms := by rw [hms, List.append_nil]
          rw [← hms] at hd1
          have hleave : LeavesInM Fence.wide 0 P fn a1.tmps (CallRes P σ m w v m') a1.defers .returning w1 := by
            refine leaves_marks a1.defers w1 hd1 he1 fun w2 he2 => ?_
            cases hr : result? E fn fr.T fr.m with
            | none => rw [hr] at hres; cases hres
            | some v1 =>
              rw [hr] at hres
              dsimp only at hres
              obtain ⟨v', q1, q2⟩ := result_sound hE he2.sim hf1 (fun r hr => by
                have := List.all_eq_true.1 hok.2.2 r hr
                cases r <;> exact this) hr
              refine ⟨v', q1, ?_⟩
              cases hb : (flat2 v1 && Nat.ble m.n fr.m.low) with
              | true =>
                rw [hb] at hres
                cases hres
                simp only [Bool.and_eq_true] at hb
                have hv' := q2.eq_of_flat2 hb.1
                subst hv'
                exact ⟨_, σ, rfl, VRel.of_flat2 hb.1, Ev.forget hs he2 (Nat.le_of_ble_eq_true hb.2)⟩
              | false =>
                rw [hb] at hres
                cases hres
                exact ⟨_, σ1, rfl, q2, he2.relow⟩
          rcases hcase with rfl | rfl
          · exact hleave
          · exact hleave
        split at h
        · cases h
        · cases h
        · rename_i e fr hne hex
          refine go e fr ?_ hex h
          cases e with
          | normal => exact .inl rfl
          | ret => exact .inr rfl
          | exit id => exact absurd rfl (hne id)

theorem setAll_rel : ∀ (ps : List Tmp) (args args' : List Value) (T : Tr Value) (tmps : Array Value) (ds : List Deferred), FrRel σ T { tmps, defers := ds } nt → (∀ p ∈ ps, p < nt) → LRel σ args args' →
    FrRel σ (setAll T (ps.zip args)) { tmps := (ps.zip args').foldl (fun tmps x => tmps.setIfInBounds x.1 x.2) tmps, defers := ds } nt
  | [], _, _, _, _, _, h, _, _ => h
  | p :: ps, [], args', T, tmps, ds, h, _, hl => by
    obtain rfl := hl.nil_eq
    exact h
  | p :: ps, v :: args, x, T, tmps, ds, h, hp, hl => by
    obtain ⟨v', args', rfl, hv, hl'⟩ := hl.cases
    have h2 := h.put (dst := some p) (fun d hd => by cases hd; exact hp p List.mem_cons_self) hv
    exact setAll_rel ps args args' (T.set p v) (tmps.setIfInBounds p v') ds h2 (fun q hq => hp q (List.mem_cons_of_mem _ hq)) hl'

theorem Ev.loop {b : Nat} {i : BI} {r r2 : LoopD} {r' r2' : Loop} (hs : Sim P σ m w) (hb : σ b = some i) (hm : m.get b = .loop r) (hr : w.heap[i.blk]? = some (.loop r')) (hh : ∀ w', w'.heap[i.blk]? = some (.loop r2') → Holds σ i w' (.loop r2)) :
    Ev P σ m w σ (m.set b (.loop r2)) (w.putObj i.blk (.loop r2')) := by
  have hlt : i.blk < w.heap.size := (Array.getElem?_eq_some_iff.1 hr).1
  exact Ev.write hs hb (by rw [hm]; simp) (hh _ (World.putObj_heap_same hlt)) (fun B hB => World.putObj_heap_other hB) (by simp) rfl rfl rfl

theorem M.get_set_loop {b : Nat} {r r2 : LoopD} (h : m.get b = .loop r) : (m.set b (.loop r2)).get b = .loop r2 := by
  have : b < m.n := M.get_lt (by rw [h]; simp)
  rw [M.get_set _ _ _ _ this, if_pos rfl]
theorem round_sound (hE : E.OK P) {X : CallFn} {n : Nat} (ih : CallOK P (call? E X n)) {l : Nat} {args : List Value} {v : Value} (h : round? (exec? E (call? E X n) n) E.G l args m = some (v, m')) {i : BI} {args' : Array Value} (hs : Sim P σ m w) (hl : σ l = some i) (ha : LRel σ args args'.toList) :
    OpRes P σ m w ((Instr.yield i.blk args').run P w) v m' := by
  unfold round? at h
  split at h
  · rename_i r hr
    have ho := hs.obj _ _ hl
    rw [hr] at ho
    obtain ⟨hgr, r', nt, q1, q2, q3, q4, q5, q6, q7, q8, q9, q10, q13, q14⟩ := ho
    cases hb : (Nat.beq args.length r.ps.size && Nat.beq r.G E.G) with
    | false => rw [hb] at h; simp at h
    | true =>
      rw [hb] at h
      simp only [cond_true] at h
      simp only [Bool.and_eq_true] at hb
      have hlen := Nat.eq_of_beq_eq_true hb.1
      have hG := Nat.eq_of_beq_eq_true hb.2
      rw [hE.G] at hG
      rw [hG] at q9 q10
      have hsz : args'.size = r'.params.size := by
        have := ha.1
        rw [q4]
        simp only [Array.length_toList] at this
        omega
      rw [run_yield q1 hsz]
      let R : Ending → World → Prop := CallRes P σ m w v m'
      suffices hround : ∀ (ro : Option Nat) (k : Nat), RoundIn (wideAt ro) k P i.blk r'.fn ((r'.params.zip args').foldl (fun tmps (t, a) => tmps.setIfInBounds t a) r'.tmps) r'.assign r'.body w R by
        refine ⟨?_, fun ro k o a next Q hk => ?_⟩
        · obtain ⟨e, w', ⟨v', σ', _, hv, he⟩, _⟩ := (hround none 0).2 default [] (room_wide _)
          exact ⟨σ', w', v', hv, he⟩
        · refine ⟨fun hh => by simp [wideAt, Fence.wide] at hh, (hround ro (k - 1)).mono fun e w' he => ?_⟩
          obtain ⟨v', σ', rfl, hv, hev⟩ := he
          exact hk σ' w' v' hv hev
      intro ro k
      refine roundIn_of_wpIn trivial ?_
      have hf0 : FrRel σ (setAll r.T (r.ps.toList.zip args)) { tmps := ((r'.params.zip args').foldl (fun tmps (t, a) => tmps.setIfInBounds t a) r'.tmps), defers := [] } nt := by
        have h0 : FrRel σ r.T { tmps := r'.tmps, defers := [] } nt := ⟨q7, fun t ht => q8 t ht⟩
        have h1 := setAll_rel r.ps.toList args args'.toList r.T r'.tmps [] h0 q13 ha
        have e : (r'.params.zip args').foldl (fun tmps (t, a) => tmps.setIfInBounds t a) r'.tmps = (r.ps.toList.zip args'.toList).foldl (fun tmps x => tmps.setIfInBounds x.1 x.2) r'.tmps := by
          rw [← Array.foldl_toList, Array.toList_zip, q4]
        rw [e]
        exact h1
      rw [q5, q6]
      split at h
      · rename_i fr1 hx
        split at h
        · rename_i r1 hr1
          split at h
          · rename_i hst1
            split at h
            · rename_i e fr2 hx2
              split at h
              · rename_i r2 hr2
                refine exec_sound hE ih r.assign _ .normal fr1 q9 hx (some i.blk) k 0 σ _ w _ [] (.inr ⟨l, i, r, rfl, hl, hr⟩) hf0 (hs.low m.n) ⟨[], rfl, trivial⟩ (Nat.zero_le _) fun σ1 a1 w1 hf1 hd1 _ he1 => ?_
                have hl1 := he1.ext _ _ hl
                have ho1 := he1.sim.obj _ _ hl1
                rw [hr1] at ho1
                obtain ⟨hgr1, r1', nt1, p1, p2, p3, p4, p5, p6, p7, p8, p9, p10, p13, p14⟩ := ho1
                refine ⟨_, run_beginRound p1 (by rw [p2]; exact hst1), ?_⟩
                have hev1 := Ev.loop (r2 := { r1 with st := .busy }) (r2' := { r1' with state := .busy }) he1.sim hl1 hr1 p1 fun w' hw' => ⟨hgr1, _, nt1, hw', rfl, p3, p4, p5, p6, p7, p8, p9, p10, p13, p14⟩
                refine exec_sound hE ih r.body _ e fr2 q10 hx2 (some i.blk) k 0 σ1 a1 _ _ [] (.inr ⟨l, i, _, rfl, hl1, M.get_set_loop hr1⟩) hf1 hev1.sim (hd1.ev hev1) (Nat.zero_le _) fun σ2 a2 w2 hf2 hd2 _ he2 => ?_
                have hl2 := he2.ext _ _ hl1
                have ho2 := he2.sim.obj _ _ hl2
                rw [hr2] at ho2
                obtain ⟨hgr2, r2', nt2, z1, z2, z3, z4, z5, z6, z7, z8, z9, z10, z13, z14⟩ := ho2
                have htot := (he1.trans hev1).trans he2
                have fin : ∀ (j : Option Ex), j ≠ some .normal → ∃ v' w', (Instr.endRound i.blk (j.map exCode)).run P w2 = .ok v' w' ∧
                    (v = .bool (j.map exCode).isNone → m' = { fr2.m.set l (.loop { r2 with st := if (j.map exCode).isNone then .ready else .done, pend := j }) with low := min m.low (fr2.m.set l (.loop { r2 with st := if (j.map exCode).isNone then .ready else .done, pend := j })).low } → R (.returned v') w') := by
                  intro j hj
                  refine ⟨_, _, run_endRound (j.map exCode) z1, fun hv hm => ?_⟩
                  subst hv hm
                  refine ⟨_, σ2, rfl, .flat _ rfl, Ev.relow (htot.trans ?_)⟩
                  exact Ev.loop he2.sim hl2 hr2 z1 fun w' hw' => ⟨hgr2, _, nt2, hw', rfl, rfl, z4, z5, z6, z7, z8, z9, z10, z13, hj⟩
                cases e with
                | normal =>
                  cases h
                  obtain ⟨v', w', f1, f2⟩ := fin none (by simp)
                  exact ⟨v', w', f1, f2 rfl rfl⟩
                | exit id =>
                  cases h
                  obtain ⟨v', w', f1, f2⟩ := fin (some (.exit id)) (by simp)
                  exact ⟨v', w', f1, f2 rfl rfl⟩
                | ret =>
                  cases h
                  obtain ⟨v', w', f1, f2⟩ := fin (some .ret) (by simp)
                  exact ⟨v', w', f1, f2 rfl rfl⟩
              · cases h
            · cases h
          · cases h
        · cases h
      · cases h
  · cases h

theorem call_sound' (hE : E.OK P) {X : CallFn} (hX : CallOK P X) : ∀ n, CallOK P (call? E X n)
  | 0 => ⟨fun f args m v m' h => by simp [call?] at h, fun l args m v m' h => by simp [call?] at h, call_LK hX.keep 0, fun a m v m' b h => by simp [call?] at h⟩
  | n + 1 => ⟨fun f args m v m' h σ w args' hs hl => call_calls hE hX (call_sound' hE hX n) h hs hl, fun l args m v m' h σ w i args' hs hl ha => by
      unfold call? at h
      exact round_sound hE (call_sound' hE hX n) h hs hl ha, call_LK hX.keep (n + 1), fun a m v m' b h hb => by
      unfold call? at h
      split at h
      · rename_i r hr
        cases h
        exact hX.prv a m v m' b hr hb
      · rw [hE.st.1] at h
        dsimp only at h
        rw [hE.st.2] at h
        cases h⟩

/-- What D returns, the model returns. -/
theorem calls_of_run (hE : E.OK P) {X : CallFn} (hX : CallOK P X) {n : Nat} {f : FuncId} {args : List Value} {v : Value} (h : call? E X n (.func f) args m = some (v, m')) {args' : Array Value} (hs : Sim P σ m w) (hl : LRel σ args args'.toList) :
    Calls P f args' w (CallRes P σ m w v m') := by
  cases n with
  | zero => simp [call?] at h
  | succ n => exact callsIn_wide.1 (call_calls hE hX (call_sound' hE hX n) h hs hl).1
/-- Nothing is known beforehand. -/
def noX : CallFn := fun _ _ _ => none
theorem noX_ok : CallOK P noX := ⟨fun f args m v m' h => by simp [noX] at h, fun l args m v m' h => by simp [noX] at h, fun f args m v m' h => by simp [noX] at h, fun a m v m' b h => by simp [noX] at h⟩
end
end Go.D

/- The program logic over D, its first part: how a run depends on the mark 'low', and on the temporaries. -/
namespace Go.D
open Go

/-- The store with another mark. -/
def M.wl (m : M) (l : Nat) : M := { m with low := l }
section
variable {m : M} {l k b : Nat} {o : Ob}
theorem M.wl_get : (m.wl l).get b = m.get b := rfl
theorem M.wl_low : (m.wl l).low = l := rfl
theorem M.wl_wl : (m.wl l).wl k = m.wl k := rfl
theorem M.wl_push : (m.wl l).push o = (m.push o).wl l := rfl
theorem M.wl_set : (m.wl l).set b o = (m.set b o).wl (min l b) := rfl
theorem M.push_n : (m.push o).n = m.n + 1 := rfl
end
/-- What an operation yields does not depend on the mark, and the mark falls to the least block that it writes. -/
structure LowOK {α : Type} (m : M) (f : M → Option (α × M)) : Prop where
  eq : ∀ l, l ≤ m.n → f (m.wl l) = (f (m.wl m.n)).map (fun r => (r.1, r.2.wl (min l r.2.low)))
  nle : ∀ r, f (m.wl m.n) = some r → m.n ≤ r.2.n
section
variable {α : Type} {m : M}
theorem LowOK.none : LowOK (α := α) m (fun _ => none) := ⟨fun _ _ => rfl, fun _ h => by cases h⟩
theorem LowOK.same (v : α) : LowOK m (fun m => some (v, m)) := ⟨fun l h => by
  simp only [Option.map_some, M.wl_low, M.wl_wl, Nat.min_eq_left h], fun r h => by cases h; exact Nat.le_refl _⟩
theorem LowOK.push (v : α) (o : Ob) : LowOK m (fun m => some (v, m.push o)) := ⟨fun l h => by
  simp only [Option.map_some, M.wl_push, M.wl_low, M.wl_wl, Nat.min_eq_left h], fun r h => by cases h; exact Nat.le_succ _⟩
theorem LowOK.set (v : α) (b : Nat) (o : Ob) : LowOK m (fun m => some (v, m.set b o)) := ⟨fun l h => by
  simp only [Option.map_some, M.wl_set, M.wl_low, M.wl_wl]
  congr 3
  omega, fun r h => by cases h; exact Nat.le_refl _⟩
theorem LowOK.setPush (v : α) (b : Nat) (o o' : Ob) : LowOK m (fun m => some (v, (m.set b o).push o')) := ⟨fun l h => by
  simp only [Option.map_some, M.wl_set, M.wl_push, M.wl_low, M.wl_wl]
  congr 3
  omega, fun r h => by cases h; exact Nat.le_succ _⟩
/-- A function of the store of which the parts look at blocks alone. -/
theorem LowOK.of_eq {f g : M → Option (α × M)} (h : LowOK m g) (e : ∀ l, f (m.wl l) = g (m.wl l)) : LowOK m f := ⟨fun l hl => by rw [e, e, h.eq l hl], fun r hr => h.nle r (by rw [← e]; exact hr)⟩
end
noncomputable section
variable {E : Env} {m : M}

theorem loadCells_wl {l n : Nat} {a : Addr} : loadCells (m.wl l) a n = loadCells m a n := rfl
theorem loadVar_wl {l : Nat} {t : TypeId} {a : Addr} : loadVar E (m.wl l) t a = loadVar E m t a := rfl
theorem slack_wl {l : Nat} {a : Addr} : slack (m.wl l) a = slack m a := rfl
theorem first?_wl {l s n : Nat} {x : Value} : first? (m.wl l) s n x = first? m s n x := rfl
theorem len?_wl {l : Nat} {t : TypeId} {x : Value} : len? E (m.wl l) t x = len? E m t x := rfl
theorem slice?_wl {l : Nat} {t : TypeId} {x : Value} {a b c : Option Value} : slice? E (m.wl l) t x a b c = slice? E m t x a b c := rfl
theorem lookup?_wl {l : Nat} {t : TypeId} {x k : Value} {ok : Bool} : lookup? E (m.wl l) t x k ok = lookup? E m t x k ok := rfl

theorem cv?_wl {l : Nat} {s d : TypeId} {x : Value} : cv? E (m.wl l) s d x = cv? E m s d x := rfl

theorem storeCells_low {v : Value} {a : Addr} {vs : List Value} : LowOK m (fun m => (storeCells m a vs).map fun m => (v, m)) := by
  unfold storeCells
  cases h : m.get a.block with
  | cells c e g =>
    cases hb : (a.spot.isNone && Nat.ble (a.off + vs.length) c.length && vs.all one) with
    | true => exact (LowOK.set v a.block _).of_eq (fun l => by simp only [M.wl_get, loadCells_wl, first?_wl, len?_wl, slack_wl, *, cond_true, cond_false, Option.map_some, Option.map_none] <;> rfl)
    | false => exact LowOK.none.of_eq (fun l => by simp only [M.wl_get, loadCells_wl, first?_wl, len?_wl, slack_wl, *, cond_true, cond_false, Option.map_some, Option.map_none] <;> rfl)
  | _ => exact LowOK.none.of_eq (fun l => by simp only [M.wl_get, loadCells_wl, first?_wl, len?_wl, slack_wl, *, cond_true, cond_false, Option.map_some, Option.map_none] <;> rfl)
theorem grow?_low {e k : Nat} {base : Option Addr} {sl sc need : Nat} {news : List Value} : LowOK m (fun m => grow? m e k base sl sc need news) := by
  unfold grow?
  cases base with
  | none =>
    dsimp only
    cases (Nat.beq sl 0 && Nat.beq sc 0) with
    | true => exact LowOK.of_eq (LowOK.push (.slice (some ⟨m.n, 0, none⟩) need need) _) (fun l => rfl)
    | false => exact LowOK.none
  | some a =>
    dsimp only
    cases h : m.get a.block with
    | cells c te g =>
      cases ho : (bif Nat.beq sl 0 then some [] else loadCells m a (sl * k)) with
      | none => exact LowOK.none.of_eq (fun l => by simp only [M.wl_get, loadCells_wl, first?_wl, len?_wl, slack_wl, *, cond_true, cond_false, Option.map_some, Option.map_none] <;> rfl)
      | some old =>
        cases h1 : (g.isNone || (g == some k && Nat.blt (a.off + sc * k) c.length)) with
        | true => exact LowOK.of_eq (LowOK.push (.slice (some ⟨m.n, 0, none⟩) need need) (.cells (old ++ news) e (some k))) (fun l => by simp only [M.wl_get, loadCells_wl, first?_wl, len?_wl, slack_wl, *, cond_true, cond_false, Option.map_some, Option.map_none] <;> rfl)
        | false =>
          cases h2 : (g == some k && Nat.beq a.off 0 && a.spot.isNone && Nat.beq (sl * k) c.length && Nat.beq sc sl && Nat.beq te e) with
          | true => exact LowOK.of_eq (LowOK.setPush (.slice (some ⟨m.n, 0, none⟩) need need) a.block .dead (.cells (old ++ news) e (some k))) (fun l => by simp only [M.wl_get, loadCells_wl, first?_wl, len?_wl, slack_wl, *, cond_true, cond_false, Option.map_some, Option.map_none] <;> rfl)
          | false => exact LowOK.none.of_eq (fun l => by simp only [M.wl_get, loadCells_wl, first?_wl, len?_wl, slack_wl, *, cond_true, cond_false, Option.map_some, Option.map_none] <;> rfl)
    | _ => exact LowOK.none.of_eq (fun l => by simp only [M.wl_get, loadCells_wl, first?_wl, len?_wl, slack_wl, *, cond_true, cond_false, Option.map_some, Option.map_none] <;> rfl)
theorem append?_low {t u : TypeId} {s x : Value} : LowOK m (fun m => append? E m t u s x) := by
  unfold append?
  split
  · rename_i ti ui base sl sc n _ _ _
    split
    · exact LowOK.none
    · rename_i e _ _
      cases h1 : E.ty.get e with
      | none => exact LowOK.none
      | some ei =>
        cases h2 : first? m ti.es n x with
        | none => exact LowOK.none.of_eq (fun l => by simp only [M.wl_get, loadCells_wl, first?_wl, len?_wl, slack_wl, *, cond_true, cond_false, Option.map_some, Option.map_none] <;> rfl)
        | some news =>
          cases h3 : (Nat.beq ti.es 0 || Nat.blt 65536 ei.bytes || !news.all one || Nat.blt 268435456 (sl + n) || !Nat.beq news.length (n * ti.es) || !zeroLen ei.zero ti.es) with
          | true => exact LowOK.none.of_eq (fun l => by simp only [M.wl_get, loadCells_wl, first?_wl, len?_wl, slack_wl, *, cond_true, cond_false, Option.map_some, Option.map_none] <;> rfl)
          | false =>
            cases h4 : Nat.ble (sl + n) sc with
            | false => exact grow?_low.of_eq (fun l => by simp only [M.wl_get, loadCells_wl, first?_wl, len?_wl, slack_wl, *, cond_true, cond_false, Option.map_some, Option.map_none] <;> rfl)
            | true =>
              cases base with
              | none =>
                cases h5 : Nat.beq n 0 with
                | true => exact LowOK.of_eq (LowOK.same (.slice none sl sc)) (fun l => by simp only [M.wl_get, loadCells_wl, first?_wl, len?_wl, slack_wl, *, cond_true, cond_false, Option.map_some, Option.map_none] <;> rfl)
                | false => exact LowOK.none.of_eq (fun l => by simp only [M.wl_get, loadCells_wl, first?_wl, len?_wl, slack_wl, *, cond_true, cond_false, Option.map_some, Option.map_none] <;> rfl)
              | some a =>
                cases h5 : Nat.beq n 0 with
                | true => exact LowOK.of_eq (LowOK.same (.slice (some a) (sl + n) sc)) (fun l => by simp only [M.wl_get, loadCells_wl, first?_wl, len?_wl, slack_wl, *, cond_true, cond_false, Option.map_some, Option.map_none] <;> rfl)
                | false => exact LowOK.of_eq (storeCells_low (v := .slice (some a) (sl + n) sc) (a := a.add (sl * ti.es)) (vs := news)) (fun l => by simp only [M.wl_get, loadCells_wl, first?_wl, len?_wl, slack_wl, *, cond_true, cond_false, Option.map_some, Option.map_none] <;> rfl)
    · exact LowOK.none
  · exact LowOK.none
theorem copy?_low {t : TypeId} {d x : Value} : LowOK m (fun m => copy? E m t d x) := by
  unfold copy?
  split
  · rename_i ti base dl _ xl _ _
    cases h2 : first? m ti.es (min xl dl) x with
    | none => exact LowOK.none.of_eq (fun l => by cases hd : ti.d <;> simp only [first?_wl, h2, hd])
    | some cs =>
      cases hd : ti.d with
      | slice e =>
        cases h3 : Nat.beq ti.es 0 with
        | true => exact LowOK.none.of_eq (fun l => by simp only [M.wl_get, loadCells_wl, first?_wl, len?_wl, slack_wl, *, cond_true, cond_false, Option.map_some, Option.map_none] <;> rfl)
        | false =>
          cases base with
          | none => exact LowOK.of_eq (LowOK.same (.int .i64 (min xl dl : Nat))) (fun l => by simp only [M.wl_get, loadCells_wl, first?_wl, len?_wl, slack_wl, *, cond_true, cond_false, Option.map_some, Option.map_none] <;> rfl)
          | some a =>
            cases h5 : Nat.beq (min xl dl) 0 with
            | true => exact LowOK.of_eq (LowOK.same (.int .i64 (min xl dl : Nat))) (fun l => by simp only [M.wl_get, loadCells_wl, first?_wl, len?_wl, slack_wl, *, cond_true, cond_false, Option.map_some, Option.map_none] <;> rfl)
            | false => exact LowOK.of_eq (storeCells_low (v := .int .i64 (min xl dl : Nat)) (a := a) (vs := cs)) (fun l => by simp only [M.wl_get, loadCells_wl, first?_wl, len?_wl, slack_wl, *, cond_true, cond_false, Option.map_some, Option.map_none] <;> rfl)
      | _ => exact LowOK.none.of_eq (fun l => by simp only [M.wl_get, loadCells_wl, first?_wl, len?_wl, slack_wl, *, cond_true, cond_false, Option.map_some, Option.map_none] <;> rfl)
  · exact LowOK.none
theorem clear?_low {t : TypeId} {x : Value} : LowOK m (fun m => clear? E m t x) := by
  unfold clear?
  split
  · exact LowOK.same _
  · rename_i ti a n _ _
    cases Nat.beq n 0 with
    | true => exact LowOK.same _
    | false =>
      dsimp only [cond_false]
      split
      · split
        · exact storeCells_low
        · exact LowOK.none
      · exact LowOK.none
  · exact LowOK.none
theorem mapEntry?_low {t : TypeId} {x k : Value} : LowOK m (fun m => mapEntry? E m t x k) := by
  unfold mapEntry?
  split
  · rename_i ti r _
    cases h : m.get r with
    | map es clock =>
      cases ti.d with
      | map kt et =>
        cases h1 : keyed E kt k with
        | false => exact LowOK.none.of_eq (fun l => by simp only [M.wl_get, *, cond_true, cond_false] <;> rfl)
        | true =>
          cases h2 : findKey E kt k es 0 with
          | none => exact LowOK.none.of_eq (fun l => by simp only [M.wl_get, *, cond_true, cond_false] <;> rfl)
          | some r2 =>
            cases r2 with
            | none =>
              cases hz : zero? E et with
              | none => exact LowOK.none.of_eq (fun l => by simp only [M.wl_get, *, cond_true, cond_false, Option.map_none] <;> rfl)
              | some z => exact (LowOK.set (.tuple #[z, .int .i64 clock]) r _).of_eq (fun l => by simp only [M.wl_get, *, cond_true, cond_false, Option.map_some] <;> rfl)
            | some p => exact (LowOK.set (.tuple #[p.2, .int .i64 (((es[p.1]?).map (·.born)).getD 0)]) r _).of_eq (fun l => by simp only [M.wl_get, *, cond_true, cond_false] <;> rfl)
      | _ => exact LowOK.none.of_eq (fun l => by simp only [M.wl_get, *] <;> rfl)
    | _ => exact LowOK.none.of_eq (fun l => by cases hd : ti.d <;> simp only [M.wl_get, h, hd])
  · exact LowOK.none
theorem entryStore?_low {v x s y : Value} : LowOK m (fun m => (entryStore? m x s y).map fun m => (v, m)) := by
  unfold entryStore?
  split
  · rename_i r k b
    cases h : m.get r with
    | map es clock =>
      cases h1 : stampIx b es 0 with
      | none => exact LowOK.none.of_eq (fun l => by simp only [M.wl_get, *, Option.map_none] <;> rfl)
      | some i => exact (LowOK.set v r _).of_eq (fun l => by simp only [M.wl_get, *, Option.map_some] <;> rfl)
    | _ => exact LowOK.none.of_eq (fun l => by simp only [M.wl_get, *, Option.map_none] <;> rfl)
  · exact LowOK.none
theorem makeSlice?_low {t : TypeId} {x y : Value} : LowOK m (fun m => makeSlice? E m t x y) := by
  unfold makeSlice?
  cases E.ty.get t with
  | none => exact LowOK.none
  | some ti =>
    dsimp only
    split
    · rename_i e k l k' c hd
      cases E.ty.get e with
      | none => exact LowOK.none
      | some ei =>
        dsimp only
        cases ei.zero with
        | none => exact LowOK.none
        | some z =>
          dsimp only
          split
          · exact LowOK.of_eq (LowOK.push (.slice (some ⟨m.n, 0, none⟩) l.toNat c.toNat) (.cells (zeros (cells z) c.toNat) e none)) (fun l => rfl)
          · exact LowOK.none
    · exact LowOK.none
theorem builtin?_low {b : Builtin} {ts : List TypeId} {args : List Value} : LowOK m (fun m => builtin? E m b ts args) := by
  unfold builtin?
  split
  · exact append?_low
  · exact copy?_low
  · exact clear?_low
  · rename_i t x
    cases h : len? E m t x with
    | none => exact LowOK.none.of_eq (fun l => by simp only [M.wl_get, loadCells_wl, first?_wl, len?_wl, slack_wl, *, cond_true, cond_false, Option.map_some, Option.map_none] <;> rfl)
    | some v => exact (LowOK.same v).of_eq (fun l => by simp only [M.wl_get, loadCells_wl, first?_wl, len?_wl, slack_wl, *, cond_true, cond_false, Option.map_some, Option.map_none] <;> rfl)
  · cases h : (foldInts (fun x y => if y < x then y else x) args) with
    | none => exact LowOK.none
    | some v => exact LowOK.same v
  · cases h : (foldInts (fun x y => if y > x then y else x) args) with
    | none => exact LowOK.none
    | some v => exact LowOK.same v
  · split
    · split
      · rename_i e a y c _
        cases h : slack m a with
        | true => exact LowOK.none.of_eq (fun l => by simp only [slack_wl, h, cond_true])
        | false => exact (LowOK.same (.int .i64 c)).of_eq (fun l => by simp only [slack_wl, h, cond_false])
      · exact LowOK.same _
      · exact LowOK.none
    · exact LowOK.none
  · exact LowOK.none
end
end Go.D

/- The program logic over D, its second part: operations. -/
namespace Go.D
open Go

noncomputable section
variable {E : Env} {m : M}
end
end Go.D

/- The program logic over D, its third part: what a statement does, by a formula that is read off the code ('vc'), and the proof that the formula suffices. The formula names values alone: the temporaries are gone from it. -/
namespace Go.D
open Go

/-- What is known of a temporary: it holds no value yet (its operation was passed over), or a value. -/
inductive KV where
  | u
  | v (x : Value)
def KV.val : KV → Value
  | .u => undef
  | .v x => x
/-- The newest first; nothing: what was known before is not known any more. -/
inductive KT where
  | e
  | c (t : Nat) (x : Option KV) (r : KT)
noncomputable def KT.get (K : KT) : Nat → Option KV :=
  KT.rec (motive := fun _ => Nat → Option KV) (fun _ => none) (fun t x _ g i => bif Nat.beq t i then x else g i) K
noncomputable def KT.set (K : KT) (t : Nat) (x : KV) : KT := .c t (some x) K
noncomputable def KT.del (K : KT) (t : Nat) : KT := .c t none K
theorem KT.get_c {t i : Nat} {x : Option KV} {r : KT} : (KT.c t x r).get i = if i = t then x else r.get i := by
  show (bif Nat.beq t i then x else r.get i) = _
  cases h : Nat.beq t i with
  | true => rw [if_pos (Nat.eq_of_beq_eq_true h).symm]; rfl
  | false => rw [if_neg fun e => Nat.ne_of_beq_eq_false h e.symm]; rfl
theorem KT.get_set (K : KT) (t i : Nat) (x : KV) : (K.set t x).get i = if i = t then some x else K.get i := KT.get_c
theorem KT.get_del (K : KT) (t i : Nat) : (K.del t).get i = if i = t then none else K.get i := KT.get_c
/-- The temporaries that are known, the store (but for its mark), and the mark. -/
structure St where
  K : KT
  m : M
  lo : Nat

def Kn (K : KT) (T : Tr Value) : Prop := ∀ t v, K.get t = some v → T.get t = some v.val
noncomputable section
def putK (K : KT) (dst : Option Tmp) (v : KV) : KT :=
  match dst with
  | some d => K.set d v
  | none => K
def evK (K : KT) : Operand → Option Value
  | .tmp t => match K.get t with | some k => some k.val | none => none
  | .const v => some v
  | .global g => some (.pointer (some ⟨g, 0, none⟩))
  | .func f => some (.func (.func f) #[] #[])
def evKs (K : KT) : List Operand → Option (List Value)
  | [] => some []
  | x :: xs => match evK K x with
    | some v => match evKs K xs with
      | some vs => some (v :: vs)
      | none => none
    | none => none
def evPs (K : KT) : List (Nat × Operand) → Option (List (Nat × Value))
  | [] => some []
  | p :: xs => match evK K p.2 with
    | some v => match evPs K xs with
      | some vs => some ((p.1, v) :: vs)
      | none => none
    | none => none
def evO (K : KT) : Option Operand → Option (Option Value)
  | none => some none
  | some x => match evK K x with | some v => some (some v) | none => none
variable (E : Env) (X : CallFn)
/-- From some depth on the call comes to v and m'; the least block that it writes of those that were there is b (m.n: none). -/
def Cl (f : Fn) (args : List Value) (m : M) (b : Nat) (v : Value) (m' : M) : Prop :=
  m.n ≤ m'.n ∧ b ≤ m.n ∧ ∃ n0, ∀ n, n0 ≤ n → ∀ l, l ≤ m.n → call? E X n f args (m.wl l) = some (v, m'.wl (min l b))
def V (c : Code) (s : St) (Q : Ex → St → Prop) : Prop :=
  ∀ T, Kn s.K T → s.lo ≤ s.m.n → ∃ e s' T', Q e s' ∧ Kn s'.K T' ∧ s.m.n ≤ s'.m.n ∧ s'.lo ≤ s'.m.n ∧ ∃ n0, ∀ n, n0 ≤ n →
    exec? E (call? E X n) n c ⟨T, s.m.wl s.lo⟩ = some (e, ⟨T', s'.m.wl s'.lo⟩)
/- The words of the formula. -/
def onS {α : Type} (r : Option α) (P : α → Prop) : Prop := match r with | some x => P x | none => False
def on2 {α β : Type} (r : Option (α × β)) (P : α → β → Prop) : Prop := match r with | some x => P x.1 x.2 | none => False
def onM (m : M) (P : M → Prop) : Prop := P m
def ifB (b : Bool) (P Q : Prop) : Prop := match b with | true => P | false => Q
def ifV (v : Value) (P Q : Prop) : Prop := match v with | .bool b => ifB b P Q | _ => False
def onFn (v : Value) (P : Fn → Array Value → Array Value → Prop) : Prop := match v with | .func g fi ca => P g fi ca | _ => False
def onC (f : Fn) (args : List Value) (m : M) (P : Value → M → Nat → Prop) : Prop := ∃ v m' b, Cl E X f args m b v m' ∧ P v m' b
def cnd (br : Bool) (c : Prop) (P : Prop) : Prop := match br with | true => c ∧ P | false => P
def un (vs : List Value) (P : Value → List Value → Prop) : Prop := match vs with | v :: r => P v r | [] => False
variable {E}
def nilck? (v : Value) : Option Value := match v with | .pointer (some a) => some (.pointer (some a)) | .func (.func f) a b => some (.func (.func f) a b) | _ => none
def extr? (v : Value) (i : Nat) : Option Value := match v with | .tuple vs => vs.toList[i]? | _ => none
variable (E)
def load? (m : M) (t : TypeId) (a : Value) : Option Value := match a with | .pointer (some a) => loadVar E m t a | _ => none
def store? (m : M) (t : TypeId) (a x : Value) : Option (M × Nat) := match a with | .pointer (some a) => (match storeVar E m t a x with | some m1 => some (m1, a.block) | none => none) | _ => none
def mapUpd? (m : M) (t : TypeId) (x k y : Value) : Option (M × Nat) := match x with | .map (some r) => (match mapUpdate? E m t x k y with | some m1 => some (m1, r) | none => none) | _ => none
def ptrTo (b : Nat) : Value := .pointer (some ⟨b, 0, none⟩)

/-- Ways meet. -/
def jn (G : (List Value → M → Nat → Prop) → Prop) (k : List Value → M → Nat → Prop) : Prop := G k
/-- A loop: F P: one round, behind which P is wanted. -/
def Lp (F : (List Value → M → Nat → Prop) → List Value → M → Nat → Prop) (vs : List Value) (m : M) (lo : Nat) : Prop :=
  ∃ (γ : Type) (μ : γ → Nat) (I : γ → List Value → M → Nat → Prop), (∃ g, I g vs m lo) ∧
    ∀ g vs m lo, I g vs m lo → F (fun vs m lo => ∃ g', μ g' < μ g ∧ I g' vs m lo) vs m lo
def Ex.onN (e : Ex) (P Q : Prop) : Prop := match e with | .normal => P | _ => Q
/-- All blocks but y are as they were; there may be more. -/
structure Ky (y : Nat) (m m' : M) : Prop where
  n : m.n ≤ m'.n
  get : ∀ c, c < m.n → c ≠ y → m'.get c = m.get c
/-- m' has all that m has. -/
structure Ext (m m' : M) : Prop where
  n : m.n ≤ m'.n
  get : ∀ b, b < m.n → m'.get b = m.get b
/-- The function g, called with a function to yield to, yields the elements of xs, one after the other, until it is told to stop; it needs Dt, and writes nothing that was there. -/
def GenF (fr : Ob → Prop) (g : Fn) (fi ca : List Value) (xs : List (List Value)) (Dt : M → Prop) : Prop :=
  ∀ (y n0 B : Nat) (I : Nat → M → Prop) (J : M → Prop) (m : M), (∀ i m1, I i m1 → Dt m1) → (∀ i m1 m2, I i m1 → Ext m1 m2 → I i m2) → (∀ m1 m2, J m1 → Ext m1 m2 → J m2) →
    y < n0 → n0 ≤ m.n → B ≤ n0 →
    (∀ i args m1, n0 ≤ m1.n → xs[i]? = some args → I i m1 → ∃ v m2 b, Cl E X (.yield y) args m1 b v m2 ∧ B ≤ b ∧ b ≤ y ∧ (∀ c, n0 ≤ c → c < m1.n → fr (m1.get c) → m2.get c = m1.get c) ∧ ((v = .bool true ∧ I (i + 1) m2) ∨ (v = .bool false ∧ J m2))) →
    I 0 m → ∃ v m2 b, Cl E X g (fi ++ .func (.yield y) #[] #[] :: ca) m b v m2 ∧ B ≤ b ∧ (I xs.length m2 ∨ J m2)
/-- A range over a function: F: a round. -/
def RF (g : Fn) (fi ca : List Value) (m : M) (lo : Nat) (F : List Value → M → (M → Ex → M → Nat → Prop) → Prop) (Q : M → Nat → Prop) (Qs : List (Ex × (M → Nat → Prop))) : Prop :=
  ∃ (fr : Ob → Prop) (xs : List (List Value)) (Dt : M → Prop) (I : Nat → M → Prop) (J : Ex → M → Prop) (B : Nat), (∃ k, g = .func k) ∧ GenF E X fr g fi ca xs Dt ∧ B ≤ m.n ∧
    (∀ i m1, I i m1 → Dt m1) ∧ (∀ i m1 m2, I i m1 → Ky m.n m1 m2 → I i m2) ∧ (∀ e m1 m2, J e m1 → Ky m.n m1 m2 → J e m2) ∧ I 0 m ∧
    (∀ i args m1, m.n + 1 ≤ m1.n → xs[i]? = some args → I i m1 → F args m1 fun m2 e m3 lo3 => B ≤ lo3 ∧ (∀ c, m.n ≤ c → c < m1.n → (c = m.n ∨ fr (m2.get c)) → m3.get c = m2.get c) ∧ e.onN (I (i + 1) m3) (J e m3)) ∧
    (∀ m2 lo2, I xs.length m2 → min lo B ≤ lo2 → Q m2 lo2) ∧ (∀ e m2 lo2, e ≠ .normal → J e m2 → min lo B ≤ lo2 → ∃ p ∈ Qs, p.1 = e ∧ p.2 m2 lo2)
/-- Behind the code that takes the arguments of a round: the record of the loop says that the round is on. -/
def onY (y : Nat) (m1 m : M) (P : M → Prop) : Prop := (∀ c, y ≤ c → c < m1.n → m.get c = m1.get c) ∧ ∀ m2, m2.n = m.n → (∀ c, c ≠ y → m2.get c = m.get c) → P m2
def unE (vs : List Value) (P : Prop) : Prop := match vs with | [] => P | _ => False
structure Words where
  onS : {α : Type} → Option α → (α → Prop) → Prop
  on2 : {α β : Type} → Option (α × β) → (α → β → Prop) → Prop
  onM : M → (M → Prop) → Prop
  onC : Fn → List Value → M → (Value → M → Nat → Prop) → Prop
  un : List Value → (Value → List Value → Prop) → Prop
  unE : List Value → Prop → Prop
  jn : ((List Value → M → Nat → Prop) → Prop) → (List Value → M → Nat → Prop) → Prop
  Lp : ((List Value → M → Nat → Prop) → List Value → M → Nat → Prop) → List Value → M → Nat → Prop
  RF : Fn → List Value → List Value → M → Nat → (List Value → M → (M → Ex → M → Nat → Prop) → Prop) → (M → Nat → Prop) → List (Ex × (M → Nat → Prop)) → Prop
  onY : Nat → M → M → (M → Prop) → Prop
/-- The plain words. -/
@[reducible] def plainW : Words := ⟨D.onS, D.on2, D.onM, D.onC E X, D.un, D.unE, D.jn, D.Lp, D.RF E X, D.onY⟩
variable (W : Words)
def sameT (ops : Array Oper) (j i t : Nat) : Bool := ops.toList.zipIdx.all fun (q, k) => !(Nat.ble i k && Nat.blt k j && q.dst == some t)
def privF (bf : Array Nat) (ops : Array Oper) (j : Nat) (x : Oper × Nat) (acc : Option (List (Bool × Nat))) : Option (List (Bool × Nat)) :=
  bif x.2 == j || pureOp x.1.op || (bf.getD j 0).testBit x.2 || (bf.getD x.2 0).testBit j then acc
  else bif Nat.blt x.2 j then (match x.1.op with
    | .alloc _ | .box _ _ => acc
    | .load _ (.tmp t) => bif sameT ops j x.2 t && x.1.guard.isNone then acc.map ((true, t) :: ·) else none
    | _ => bif minmax x.1.op then acc else match lenOf x.1.op with
      | some t => bif sameT ops j x.2 t then acc.map ((false, t) :: ·) else none
      | none => none)
  else none
/-- The temporaries that hold the addresses of the loads, and the values of the lengths, that are not ordered with a store, operation j of a region that draws; nothing where something else is not ordered with it. -/
def privTs (ops : Array Oper) (j : Nat) : Option (List (Bool × Nat)) := ops.toList.zipIdx.foldr (privF (Region.before ops) ops j) (some [])
def apartV (k : Option KV) (b : Nat) : Prop := match k with | some (.v (.pointer (some a))) => a.block ≠ b | _ => False
def nomapV (k : Option KV) : Prop := match k with | some (.v (.map _)) => False | some _ => True | none => False
def apartK (K : KT) (b : Nat) : List (Bool × Nat) → Prop
  | [] => True
  | (true, t) :: ts => apartV (K.get t) b ∧ apartK K b ts
  | (false, t) :: ts => nomapV (K.get t) ∧ apartK K b ts
def cndP (br : Bool) (pt : Option (List (Bool × Nat))) (K : KT) (c : Prop) (b : Nat) (P : Prop) : Prop :=
  match br with
  | true => (match pt with | none => c | some ts => c ∨ apartK K b ts) ∧ P
  | false => P
/-- Is it a call of a builder's String, with one argument? -/
def stArg (c : Call) : Bool := match c.callee, c.args.toList with | .value (.func g), [_] => Nat.beq g stN | _, _ => false
def bufAt (m : M) (args : List Value) : Option Nat := match args with | [.pointer (some a)] => bufOf m a | _ => none
def cndQ (br : Bool) (pt : Option (List (Bool × Nat))) (K : KT) (c : Prop) (bo : Option Nat) (b : Nat) (P : Prop) : Prop :=
  match br with
  | true => (match pt with | none => c | some ts => c ∨ (bo = some b ∧ apartK K b ts)) ∧ P
  | false => P
def vopB (b : Builtin) (ts : List TypeId) (args : List Value) (br : Bool) (m : M) (lo : Nat) (P : Value → M → Nat → Prop) : Prop :=
  match b with
  | .len | .cap | .min | .max => W.on2 (builtin? E m b ts args) fun v _ => P v m lo
  | _ => W.on2 (builtin? E (m.wl m.n) b ts args) fun v m1 => cnd br (m.n ≤ m1.low) (P v m1 (min lo m1.low))
def vop (o : Op) (br : Bool) (pt : Option (List (Bool × Nat))) (K : KT) (m : M) (lo : Nat) (P : Value → M → Nat → Prop) : Prop :=
  match o with
  | .move x | .assign x => onS (evK K x) fun x => P x m lo
  | .pick c a b => onS (evK K c) fun c => ifV c (onS (evK K a) fun a => P a m lo) (onS (evK K b) fun b => P b m lo)
  | .alloc t => onS (zero? E t) fun z => W.onM (m.push (.cells (cells z) t none)) fun m1 => P (ptrTo m.n) m1 lo
  | .box t x => onS (evK K x) fun x => W.onM (m.push (.cells (cells x) t none)) fun m1 => P (ptrTo m.n) m1 lo
  | .build t ps => onS (evPs K ps.toList) fun ps => W.onS (build? E t ps) fun v => P v m lo
  | .buildSlice t n ps => onS (evPs K ps.toList) fun ps => W.on2 (buildSlice? E m t n ps) fun v m1 => P v m1 lo
  | .load t a => onS (evK K a) fun a => W.onS (load? E m t a) fun v => P v m lo
  | .store t a x => onS (evK K a) fun a => onS (evK K x) fun x => W.on2 (store? E m t a x) fun m1 b => cndP br pt K (m.n ≤ b) b (P undef m1 (min lo b))
  | .nilCheck x => onS (evK K x) fun x => onS (nilck? x) fun v => P v m lo
  | .binOp op t x y _ => onS (evK K x) fun x => onS (evK K y) fun y => W.onS (bin? E op t x y) fun v => P v m lo
  | .unOp op _ x => onS (evK K x) fun x => W.onS (un? op x) fun v => P v m lo
  | .convert s d x => onS (evK K x) fun x => W.onS (cv? E m s d x) fun v => P v m lo
  | .makeFunc f a b => onS (evKs K a.toList) fun a => onS (evKs K b.toList) fun b => match f with
    | .func f => P (.func (.func f) a.toArray b.toArray) m lo
    | _ => False
  | .makeMap _ r => match r with
    | none => W.onM (m.push (.map [] 0)) fun m1 => P (.map (some m.n)) m1 lo
    | some _ => False
  | .makeSlice t l c => onS (evK K l) fun l => onS (evK K c) fun c => W.on2 (makeSlice? E m t l c) fun v m1 => P v m1 lo
  | .slice t x a b c => onS (evK K x) fun x => onS (evO K a) fun a => onS (evO K b) fun b => onS (evO K c) fun c => W.onS (slice? E m t x a b c) fun v => P v m lo
  | .fieldAddr s x f => onS (evK K x) fun x => W.onS (fieldAddr? E s x f) fun v => P v m lo
  | .field t x f => onS (evK K x) fun x => W.onS (field? E t x f) fun v => P v m lo
  | .indexAddr t x i => onS (evK K x) fun x => onS (evK K i) fun i => W.onS (indexAddr? E t x i) fun v => P v m lo
  | .index t x i => onS (evK K x) fun x => onS (evK K i) fun i => W.onS (index? E t x i) fun v => P v m lo
  | .lookup t x i ok => onS (evK K x) fun x => onS (evK K i) fun i => W.onS (lookup? E m t x i ok) fun v => P v m lo
  | .mapUpdate t x k y => onS (evK K x) fun x => onS (evK K k) fun k => onS (evK K y) fun y => W.on2 (mapUpd? E m t x k y) fun m1 b => cnd br (m.n ≤ b) (P undef m1 (min lo b))
  | .insert t x k y => onS (evK K x) fun x => onS (evK K k) fun k => onS (evK K y) fun y => W.on2 (mapUpd? E m t x k y) fun m1 b => cnd br (m.n ≤ b) (P undef m1 (min lo b))
  | .mapEntry t x k => onS (evK K x) fun x => onS (evK K k) fun k => W.on2 (mapEntry? E (m.wl m.n) t x k) fun v m1 => cnd br (m.n ≤ m1.low) (P v m1 (min lo m1.low))
  | .entryStore _ x s y => onS (evK K x) fun x => onS (evK K s) fun s => onS (evK K y) fun y => W.onS (entryStore? (m.wl m.n) x s y) fun m1 => cnd br (m.n ≤ m1.low) (P undef m1 (min lo m1.low))
  | .extract x i => onS (evK K x) fun x => W.onS (extr? x i) fun v => P v m lo
  | .call c => match c.callee with
    | .value f => onS (evK K f) fun f => onFn f fun g fi ca => onS (evKs K c.args.toList) fun args => W.onC g (fi.toList ++ (args ++ ca.toList)) m fun v m1 b => bif stArg c then cndQ br pt K (m.n ≤ b) (bufAt m args) b (P v m1 (min lo b)) else cnd br (m.n ≤ b) (P v m1 (min lo b))
    | .builtin b => onS (evKs K c.args.toList) fun args => vopB E W b c.argTypes.toList args br m lo P
    | _ => False
  | _ => False
/-- The operation's guard: where it is known beforehand, one way is left; else both, and the guard is known behind. -/
def wantK (ops : Array Oper) (K : KT) (o : Oper) (P S : KT → Prop) : Prop :=
  match o.guard with
  | none => P K
  | some (j, want) => match (ops.toList[j]?).bind (·.dst) with
    | some d => match K.get d with
      | some (.v v) => ifV v (cond want (P (K.set d (.v (.bool true)))) (S (K.set d (.v (.bool true))))) (cond want (S (K.set d (.v (.bool false)))) (P (K.set d (.v (.bool false)))))
      | some .u => S K
      | none => False
    | none => S K
def vops (d : Bool) (ops : Array Oper) : List Oper → Nat → St → (St → Prop) → Prop
  | [], _, s, P => P s
  | o :: rest, j, s, P => wantK ops s.K o
      (fun K => vop E W o.op (d && !(barrier ops j)) (bif d && !(barrier ops j) then privTs ops j else none) K s.m s.lo fun v m lo => vops d ops rest (j + 1) ⟨putK K o.dst (.v v), m, lo⟩ P)
      (fun K => vops d ops rest (j + 1) ⟨putK K o.dst .u, s.m, s.lo⟩ P)
def Ex.catch (id : Nat) (e : Ex) : Ex := match e with | .exit id' => bif Nat.beq id' id then .normal else .exit id' | e => e
/-- The temporaries that a statement assigns. -/
def assigned : Code → List Nat
  | .region _ ops _ => ops.toList.filterMap (·.dst)
  | .seq a b => assigned a ++ assigned b
  | .cond _ x y => assigned x ++ assigned y
  | .block _ c | .loop c | .scope c => assigned c
  | _ => []
/-- Those of a list that are known, each once. -/
def carried (K : KT) : List Nat → List Nat → List Nat
  | [], acc => acc
  | t :: ts, acc => bif acc.contains t then carried K ts acc else match K.get t with
    | some (.v _) => carried K ts (acc ++ [t])
    | _ => carried K ts acc
def forget (K : KT) : List Nat → KT
  | [] => K
  | t :: ts => forget (K.del t) ts
/-- The list's values become known. -/
def bindL : List Nat → List Value → KT → (KT → Prop) → Prop
  | [], _, K, f => f K
  | t :: ts, vs, K, f => W.un vs fun v r => bindL ts r (K.set t (.v v)) f
/-- The arguments of a round become known. -/
def bindA : List Nat → List Value → KT → (KT → Prop) → Prop
  | [], vs, K, f => W.unE vs (f K)
  | t :: ts, vs, K, f => W.un vs fun v r => bindA ts r (K.set t (.v v)) f
def valsOf (K : KT) : List Nat → Option (List Value)
  | [] => some []
  | t :: ts => match K.get t with
    | some (.v v) => match valsOf K ts with
      | some vs => some (v :: vs)
      | none => none
    | _ => none
/-- The temporaries that an operand, an operation, a statement reads. -/
def readsO (xs : List Operand) : List Nat := xs.filterMap fun | .tmp t => some t | _ => none
def reads : Code → List Nat
  | .region _ ops _ => ops.toList.flatMap fun o => readsO o.op.operands.toList
  | .seq a b => reads a ++ reads b
  | .cond c x y => readsO [c] ++ (reads x ++ reads y)
  | .block _ c | .loop c | .scope c => reads c
  | .rangeFunc f _ a b => readsO [f] ++ (reads a ++ reads b)
  | _ => []
/-- Do ways part in it and meet behind it? -/
def parts : Code → Bool
  | .region _ ops _ => ops.toList.any fun o => o.guard.isSome
  | _ => false
def dedup : List Nat → List Nat → List Nat
  | [], acc => acc
  | t :: ts, acc => bif acc.contains t then dedup ts acc else dedup ts (acc ++ [t])
def liveOf (a : Code) (rd : List Nat) : List Nat := (dedup (assigned a) []).filter rd.contains
/-- The ways in which a statement is left, other than by its end. -/
def addE (e : Ex) (l : List Ex) : List Ex := bif l.any (· == e) then l else l ++ [e]
def leavesIn : Code → List Ex → List Ex
  | .exit id, acc => addE (.exit id) acc
  | .ret, acc => addE .ret acc
  | .seq a b, acc => leavesIn b (leavesIn a acc)
  | .cond _ x y, acc => leavesIn y (leavesIn x acc)
  | .block id c, acc => (leavesIn c []).foldl (fun acc e => bif e == .exit id then acc else addE e acc) acc
  | .loop c, acc | .scope c, acc => leavesIn c acc
  | .rangeFunc _ _ _ b, acc => leavesIn b acc
  | _, acc => acc
def leaves (c : Code) : List Ex := leavesIn c []
def vcJ : Code → List Nat → St → (Ex → St → Prop) → Prop
  | .skip, _, s, Q => Q .normal s
  | .label _, _, s, Q => Q .normal s
  | .region _ ops d, _, s, Q => vops E W d ops ops.toList 0 s (Q .normal)
  | .seq a b, rd, s, Q =>
    bif parts a then
      W.jn (fun R => vcJ a (reads b ++ rd) s fun e s' => e.onN (onS (valsOf s'.K (liveOf a (reads b ++ rd))) fun vs => R vs s'.m s'.lo) (Q e s'))
        (fun vs m lo => bindL W (liveOf a (reads b ++ rd)) vs (forget s.K (assigned a)) fun K => vcJ b rd ⟨K, m, lo⟩ Q)
    else vcJ a (reads b ++ rd) s fun e s => e.onN (vcJ b rd s Q) (Q e s)
  | .cond c x y, rd, s, Q => onS (evK s.K c) fun v => ifV v (vcJ x rd s Q) (vcJ y rd s Q)
  | .block id c, rd, s, Q => vcJ c rd s fun e s => Q (e.catch id) s
  | .exit id, _, s, Q => Q (.exit id) s
  | .ret, _, s, Q => Q .ret s
  | .loop c, rd, s, Q =>
    onS (valsOf s.K (carried s.K (assigned c) [])) fun vs => W.Lp (fun P vs m lo => bindL W (carried s.K (assigned c) []) vs (forget s.K (assigned c)) fun K => vcJ c (carried s.K (assigned c) [] ++ rd) ⟨K, m, lo⟩ fun e s' =>
      e.onN (onS (valsOf s'.K (carried s.K (assigned c) [])) fun vs => P vs s'.m s'.lo) (Q e s')) vs s.m s.lo
  | .scope c, rd, s, Q => vcJ c rd s Q
  | .rangeFunc f ps a b, _, s, Q => onS (evK s.K f) fun f => onFn f fun g fi ca => W.RF g fi.toList ca.toList s.m s.lo
      (fun args m1 Qb => bindA W ps.toList args s.K fun K1 => vcJ a (reads b) ⟨K1, m1, m1.n⟩ fun e s1 => e.onN (W.onY s.m.n m1 s1.m fun m2 => vcJ b [] ⟨s1.K, m2, min s1.lo s.m.n⟩ fun e2 s2 => Qb m2 e2 s2.m s2.lo) False)
      (fun m lo => Q .normal ⟨s.K, m, lo⟩) ((leaves b).map fun e => (e, fun m lo => Q e ⟨s.K, m, lo⟩))
  | _, _, _, _ => False
end
section
variable {E : Env} {X : CallFn}
theorem onS_some {α : Type} {x : α} {P : α → Prop} : onS (some x) P = P x := rfl
theorem on2_some {α β : Type} {x : α} {y : β} {P : α → β → Prop} : on2 (some (x, y)) P = P x y := rfl
theorem onS_iff {α : Type} {r : Option α} {P : α → Prop} : onS r P ↔ ∃ x, r = some x ∧ P x := by
  cases r with
  | none => exact ⟨fun h => h.elim, fun ⟨x, h, _⟩ => by cases h⟩
  | some y => exact ⟨fun h => ⟨y, rfl, h⟩, fun ⟨x, h, hp⟩ => by cases h; exact hp⟩
theorem on2_iff {α β : Type} {r : Option (α × β)} {P : α → β → Prop} : on2 r P ↔ ∃ x y, r = some (x, y) ∧ P x y := by
  cases r with
  | none => exact ⟨fun h => h.elim, fun ⟨x, y, h, _⟩ => by cases h⟩
  | some y => exact ⟨fun h => ⟨y.1, y.2, rfl, h⟩, fun ⟨x, y, h, hp⟩ => by cases h; exact hp⟩
theorem ifB_iff {b : Bool} {P Q : Prop} : ifB b P Q ↔ (b = true → P) ∧ (b = false → Q) := by
  cases b with
  | true => exact ⟨fun h => ⟨fun _ => h, fun e => by cases e⟩, fun h => h.1 rfl⟩
  | false => exact ⟨fun h => ⟨(fun e => by cases e), fun _ => h⟩, fun h => h.2 rfl⟩
theorem ifV_iff {v : Value} {P Q : Prop} : ifV v P Q ↔ ∃ b, v = .bool b ∧ ifB b P Q := by
  constructor
  · intro h
    cases v with
    | bool b => exact ⟨b, rfl, h⟩
    | _ => exact h.elim
  · rintro ⟨b, rfl, h⟩; exact h
theorem onFn_iff {v : Value} {P : Fn → Array Value → Array Value → Prop} : onFn v P ↔ ∃ g fi ca, v = .func g fi ca ∧ P g fi ca := by
  constructor
  · intro h
    cases v with
    | func g fi ca => exact ⟨g, fi, ca, rfl, h⟩
    | _ => exact h.elim
  · rintro ⟨g, fi, ca, rfl, h⟩; exact h
theorem un_iff {vs : List Value} {P : Value → List Value → Prop} : un vs P ↔ ∃ v r, vs = v :: r ∧ P v r := by
  cases vs with
  | nil => exact ⟨fun h => h.elim, fun ⟨v, r, h, _⟩ => by cases h⟩
  | cons v r => exact ⟨fun h => ⟨v, r, rfl, h⟩, fun ⟨v, r, h, hp⟩ => by cases h; exact hp⟩
theorem cnd_iff {br : Bool} {c P : Prop} : cnd br c P ↔ (br = true → c) ∧ P := by
  cases br with
  | true => exact ⟨fun h => ⟨fun _ => h.1, h.2⟩, fun h => ⟨h.1 rfl, h.2⟩⟩
  | false => exact ⟨fun h => ⟨(fun e => by cases e), h⟩, fun h => h.2⟩
theorem Kn.put {K : KT} {T : Tr Value} (h : Kn K T) (d : Option Tmp) (v : KV) : Kn (putK K d v) (put T d v.val) := by
  cases d with
  | none => exact h
  | some d =>
    intro t x hx
    simp only [D.put, putK, Tr.get_set, KT.get_set] at hx ⊢
    split
    · rename_i e; rw [if_pos e] at hx; cases hx; rfl
    · rename_i e; rw [if_neg e] at hx; exact h t x hx
/-- A temporary's value may be said again. -/
theorem Kn.again {K : KT} {T : Tr Value} (h : Kn K T) {d : Nat} {v : Value} (hd : K.get d = some (.v v)) : Kn (K.set d (.v v)) T := by
  intro t x hx
  simp only [KT.get_set] at hx
  split at hx
  · rename_i e; cases hx; rw [e]; exact h d _ hd
  · exact h t x hx
theorem Kn.set {K : KT} {T : Tr Value} (h : Kn K T) {d : Nat} {v : Value} (hd : T.get d = some v) : Kn (K.set d (.v v)) T := by
  intro t x hx
  simp only [KT.get_set] at hx
  split at hx
  · rename_i e; cases hx; rw [e]; exact hd
  · exact h t x hx
theorem evK_sound {K : KT} {T : Tr Value} (h : Kn K T) {x : Operand} {v : Value} (hx : evK K x = some v) : ev T x = v := by
  cases x with
  | tmp t =>
    simp only [evK] at hx
    split at hx
    · rename_i k hk
      cases hx
      simp only [ev, at?, h t k hk, Option.getD_some]
    · cases hx
  | const c => cases hx; rfl
  | global g => cases hx; rfl
  | func f => cases hx; rfl
theorem evKs_sound {K : KT} {T : Tr Value} (h : Kn K T) : ∀ {xs : List Operand} {vs : List Value}, evKs K xs = some vs → xs.map (ev T) = vs
  | [], vs, hx => by cases hx; rfl
  | x :: xs, vs, hx => by
    unfold evKs at hx
    split at hx
    · rename_i v h1
      split at hx
      · rename_i vs' h2
        cases hx
        simp only [List.map_cons, evK_sound h h1, evKs_sound h h2]
      · cases hx
    · cases hx
theorem evPs_sound {K : KT} {T : Tr Value} (h : Kn K T) : ∀ {xs : List (Nat × Operand)} {vs : List (Nat × Value)}, evPs K xs = some vs → xs.map (fun p => (p.1, ev T p.2)) = vs
  | [], vs, hx => by cases hx; rfl
  | x :: xs, vs, hx => by
    unfold evPs at hx
    split at hx
    · rename_i v h1
      split at hx
      · rename_i vs' h2
        cases hx
        simp only [List.map_cons, evK_sound h h1, evPs_sound h h2]
      · cases hx
    · cases hx
theorem evO_sound {K : KT} {T : Tr Value} (h : Kn K T) {x : Option Operand} {v : Option Value} (hx : evO K x = some v) : x.map (ev T) = v := by
  cases x with
  | none => cases hx; rfl
  | some x =>
    unfold evO at hx
    dsimp only at hx
    split at hx
    · rename_i w h1
      cases hx
      simp only [Option.map_some, evK_sound h h1]
    · cases hx
/-- What an operation comes to. -/
def OpW (E : Env) (X : CallFn) (o : Op) (br : Bool) (pt : Option (List (Bool × Nat))) (K : KT) (T : Tr Value) (m : M) (lo : Nat) (P : Value → M → Nat → Prop) : Prop :=
  ∃ v m1 w, P v m1 (min lo w) ∧ m.n ≤ m1.n ∧ (br = true → m.n ≤ w ∨ ∃ ts, pt = some ts ∧ apartK K w ts ∧ storeTo m T o = some w) ∧
    ∃ n0, ∀ n, n0 ≤ n → ∀ l, l ≤ m.n → op? o E (call? E X n) T (m.wl l) = some (v, m1.wl (min l w))
theorem OpW.push {o : Op} {br : Bool} {pt : Option (List (Bool × Nat))} {K : KT} {T : Tr Value} {m : M} {lo : Nat} {P : Value → M → Nat → Prop} {v : Value} {m1 : M} (hlo : lo ≤ m.n) (hP : P v m1 lo) (hn : m.n ≤ m1.n) (h : ∀ n l, op? o E (call? E X n) T (m.wl l) = some (v, m1.wl l)) : OpW E X o br pt K T m lo P :=
  ⟨v, m1, m.n, by rw [Nat.min_eq_left hlo]; exact hP, hn, fun _ => .inl (Nat.le_refl _), 0, fun n _ l hl => by rw [Nat.min_eq_left hl]; exact h n l⟩
theorem OpW.keep {o : Op} {br : Bool} {pt : Option (List (Bool × Nat))} {K : KT} {T : Tr Value} {m : M} {lo : Nat} {P : Value → M → Nat → Prop} {v : Value} (hlo : lo ≤ m.n) (hP : P v m lo) (h : ∀ n l, op? o E (call? E X n) T (m.wl l) = some (v, m.wl l)) : OpW E X o br pt K T m lo P :=
  .push hlo hP (Nat.le_refl _) h
theorem storeVar_wl {m m1 : M} {t : TypeId} {a : Addr} {x : Value} (h : storeVar E m t a x = some m1) (l : Nat) : storeVar E (m.wl l) t a x = some (m1.wl (min l a.block)) ∧ m1.n = m.n := by
  unfold storeVar at h ⊢
  cases ht : E.ty.get t with
  | none => rw [ht] at h; cases h
  | some ti =>
    rw [ht] at h
    dsimp only at h ⊢
    cases hb : Nat.beq (cells x).length ti.size with
    | false => rw [hb] at h; cases h
    | true =>
      rw [hb] at h
      simp only [cond_true] at h ⊢
      unfold storeCells at h ⊢
      rw [M.wl_get]
      cases hg : m.get a.block with
      | cells c e g =>
        rw [hg] at h
        dsimp only at h ⊢
        cases hc : (a.spot.isNone && Nat.ble (a.off + (cells x).length) c.length && (cells x).all one) with
        | false => rw [hc] at h; cases h
        | true => rw [hc] at h; cases h; exact ⟨rfl, rfl⟩
      | _ => rw [hg] at h; cases h
theorem mapUpdate?_wl {m m1 : M} {t : TypeId} {r : Nat} {k y : Value} (h : mapUpdate? E m t (.map (some r)) k y = some m1) (l : Nat) : mapUpdate? E (m.wl l) t (.map (some r)) k y = some (m1.wl (min l r)) ∧ m1.n = m.n := by
  unfold mapUpdate? at h ⊢
  cases ht : E.ty.get t with
  | none => rw [ht] at h; cases h
  | some ti =>
    rw [ht] at h
    dsimp only at h ⊢
    rw [M.wl_get]
    cases hd : ti.d with
    | map kt et =>
      cases hg : m.get r with
      | map es clock =>
        rw [hd, hg] at h
        dsimp only at h ⊢
        cases hk : keyed E kt k with
        | false => rw [hk] at h; cases h
        | true =>
          rw [hk] at h
          simp only [cond_true] at h ⊢
          cases hf : findKey E kt k es 0 with
          | none => rw [hf] at h; cases h
          | some p =>
            rw [hf] at h
            cases p with
            | none => cases h; exact ⟨rfl, rfl⟩
            | some q => cases h; exact ⟨rfl, rfl⟩
      | _ => rw [hd, hg] at h; cases h
    | _ => rw [hd] at h; cases h
theorem buildSlice?_wl {m m1 : M} {t : TypeId} {n : Nat} {ps : List (Nat × Value)} {v : Value} (h : buildSlice? E m t n ps = some (v, m1)) (l : Nat) : buildSlice? E (m.wl l) t n ps = some (v, m1.wl l) ∧ m.n ≤ m1.n := by
  unfold buildSlice? at h ⊢
  split at h
  · cases h
  · split at h
    · split at h
      · cases h
      · rename_i ti ht _ e hd _ z hz
        cases hb : (Nat.beq (cells z).length ti.es && Nat.ble (n * ti.es) 1048576) with
        | false => rw [hb] at h; cases h
        | true =>
          rw [hb] at h
          simp only [cond_true] at h
          cases hf : fill (fun i => some (i * ti.es, ti.es)) (zeros (cells z) n) ps with
          | none => rw [hf] at h; cases h
          | some cs =>
            rw [hf] at h
            cases h
            refine ⟨?_, Nat.le_succ _⟩
            simp only [ht, hd, hz, hb, cond_true, hf]
            rfl
    · cases h
theorem makeSlice?_wl {m m1 : M} {t : TypeId} {x y v : Value} (h : makeSlice? E m t x y = some (v, m1)) (l : Nat) : makeSlice? E (m.wl l) t x y = some (v, m1.wl l) ∧ m.n ≤ m1.n := by
  have hl := (makeSlice?_low (E := E) (m := m) (t := t) (x := x) (y := y))
  unfold makeSlice? at h ⊢
  cases ht : E.ty.get t with
  | none => rw [ht] at h; cases h
  | some ti =>
    rw [ht] at h
    dsimp only at h ⊢
    split at h
    · rename_i e k a k' c hd
      cases he : E.ty.get e with
      | none => rw [he] at h; cases h
      | some ei =>
        rw [he] at h
        dsimp only at h
        cases hz : ei.zero with
        | none => rw [hz] at h; cases h
        | some z =>
          rw [hz] at h
          dsimp only at h
          split at h
          · rename_i hc
            cases h
            refine ⟨?_, Nat.le_succ _⟩
            simp only [hd, he, hz]
            rw [if_pos hc]
            rfl
          · cases h
    · cases h
theorem builtin?_keep {m m1 : M} {b : Builtin} {ts : List TypeId} {args : List Value} {v : Value} (hb : b = .len ∨ b = .cap ∨ b = .min ∨ b = .max) (h : builtin? E m b ts args = some (v, m1)) (l : Nat) : builtin? E (m.wl l) b ts args = some (v, m.wl l) := by
  rcases hb with rfl | rfl | rfl | rfl
  · unfold builtin? at h ⊢
    split at h
    all_goals try (rename_i hq; first | cases hq | skip)
    all_goals first | (simp only [len?_wl]; cases hl : len? E m _ _ with | none => rw [hl] at h; cases h | some w => rw [hl] at h; cases h; rfl) | cases h | skip
  · unfold builtin? at h ⊢
    split at h
    all_goals try (rename_i hq; first | cases hq | skip)
    · split at h
      · split at h
        · rename_i ti ht _ _ e a n c hd
          cases hs : slack m a with
          | true => rw [hs] at h; cases h
          | false =>
            rw [hs] at h; cases h
            simp only [ht, hd, slack_wl, hs, cond_false]
        · rename_i ti ht _ _ e n c hd
          cases h
          simp only [ht, hd]
        · cases h
      · cases h
    · cases h
  · have h : (foldInts (fun x y => if y < x then y else x) args).map (·, m) = some (v, m1) := h
    show (foldInts (fun x y => if y < x then y else x) args).map (·, m.wl l) = some (v, m.wl l)
    cases hl : foldInts (fun x y => if y < x then y else x) args with
    | none => rw [hl] at h; cases h
    | some w => rw [hl] at h; cases h; rfl
  · have h : (foldInts (fun x y => if y > x then y else x) args).map (·, m) = some (v, m1) := h
    show (foldInts (fun x y => if y > x then y else x) args).map (·, m.wl l) = some (v, m.wl l)
    cases hl : foldInts (fun x y => if y > x then y else x) args with
    | none => rw [hl] at h; cases h
    | some w => rw [hl] at h; cases h; rfl
noncomputable section
/-- The temporaries as a call begins. -/
def enterK : List Value → Nat → KT
  | [], _ => .e
  | v :: vs, i => (enterK vs (i + 1)).set i (.v v)
/-- What a function returns. -/
def resK (E : Env) (K : KT) (m : M) : List ResultVar → (List Value → Prop) → Prop
  | [], f => f []
  | .tmp t :: rs, f => onS (match K.get t with | some k => some k.val | none => none) fun v => resK E K m rs fun vs => f (v :: vs)
  | .cell a t :: rs, f => onS (match K.get a with | some k => some k.val | none => none) fun a => onS (load? E m t a) fun v => resK E K m rs fun vs => f (v :: vs)
def mkres : List Value → Value
  | [v] => v
  | vs => .tuple vs.toArray
/-- What is wanted behind a function's body: R of the results. -/
def post (E : Env) (rs : List ResultVar) (R : List Value → M → Nat → Prop) : Ex → St → Prop := fun e s => match e with
  | .exit _ => False
  | _ => resK E s.K s.m rs fun vs => R vs s.m s.lo
def resTs (rs : List ResultVar) : List Nat := rs.map fun | .tmp t => t | .cell a _ => a
/-- The formula of a function. -/
def vcF (E : Env) (W : Words) (fn : Func) (args : List Value) (m : M) (R : List Value → M → Nat → Prop) : Prop :=
  match fn.body with
  | some body => vcJ E W body (resTs fn.results.toList) ⟨enterK args 0, m, m.n⟩ (post E fn.results.toList R)
  | none => False
end
end
end Go.D
