/- Statements and calls: what D returns, the model returns. Calls: what D returns, the model returns. slices.Sorted over the keys of a map: what is known of the call beforehand. slices.Sorted over the keys of a map: the known call. -/
import Derived.Test.YtbpmlholiohkpaaGreatDoorD5
import Derived.RangeFuncRecord
import Derived.Laws.AppendOwn
import Derived.Below
import Derived.MapKept
/- Statements and calls: what D returns, the model returns. -/
namespace Go.D
open Go

section
variable {E : Env} {P : Program} {call : CallFn} {nt : Nat} {σ : Sg} {w : World} {a : Act} {ro : Option Nat} {k : Nat}

def Ex.to : Ex → Exit
  | .normal => .normal
  | .exit id => .exit id
  | .ret => .ret

/-- The deferred calls of a frame: marks of loops alone, each with an empty block of its own, of which the store knows nothing. -/
def DefOK (base : Nat) (σ : Sg) (w : World) : List Deferred → Prop
  | [] => True
  | d :: ds => (∃ r, d.target = .collected r ∧ base ≤ r ∧ w.heap[r]? = some (.deferred (some [])) ∧ (∀ b i, σ b = some i → i.blk ≠ r) ∧ ∀ d' ∈ ds, d'.target ≠ .collected r) ∧ DefOK base σ w ds
theorem DefOK.ev {base : Nat} {σ' : Sg} {m m' : M} {w' : World} (he : Ev P σ m w σ' m' w') : ∀ {ds : List Deferred}, DefOK base σ w ds → DefOK base σ' w' ds
  | [], _ => trivial
  | d :: ds, h => by
    obtain ⟨⟨r, h1, h2, h3, h4, h5⟩, h6⟩ := h
    have hr : r < w.heap.size := (Array.getElem?_eq_some_iff.1 h3).1
    refine ⟨⟨r, h1, h2, ?_, ?_, h5⟩, h6.ev he⟩
    · rw [he.heap r hr (fun b i hb e => absurd e (h4 b i hb))]
      exact h3
    · intro b i hb e
      cases hs : σ b with
      | some i' =>
        have := he.ext b i' hs
        rw [hb] at this; cases this
        exact h4 b i hs e
      | none =>
        rcases (he.new b i hb hs).2 with h | ⟨b0, i0, h, h', _⟩
        · omega
        · exact h4 b0 i0 h (h'.trans e)
theorem DefOK.lt {base : Nat} : ∀ {ds : List Deferred}, DefOK base σ w ds → ∀ d ∈ ds, ∃ r, d.target = .collected r ∧ r < w.heap.size
  | d :: ds, h, d', hd => by
    obtain ⟨⟨r, h1, _, h3, _, _⟩, h6⟩ := h
    rcases List.mem_cons.1 hd with rfl | hd
    · exact ⟨r, h1, (Array.getElem?_eq_some_iff.1 h3).1⟩
    · exact h6.lt d' hd

/-- A block of which the store knows nothing. -/
theorem Ev.extra {m : M} (hs : Sim P σ m w) (o : Obj) : Ev P σ m w σ m (w.alloc o) := by
  have hk : ∀ B, B < w.heap.size → (w.alloc o).heap[B]? = w.heap[B]? := fun B hB => heap_alloc_old w o hB
  refine ⟨fun _ _ x => x, ⟨hs.dom, fun b i hb => (hs.obj b i hb).keep (fun _ _ x => x) (hk _ (hs.lt b i hb)), fun b i hb => ?_, hs.inj, hs.glob⟩, Nat.le_refl _, Nat.le_refl _, by simp, fun b i x y => (by rw [x] at y; cases y), fun _ _ _ => rfl, fun B hB _ => hk B hB, rfl, rfl, rfl⟩
  have := hs.lt b i hb
  simp
  omega

/-- What is said of a statement that D carries out. -/
def Runs (P : Program) (nt : Nat) (c : Code) (fr : Fr) (e : Ex) (fr' : Fr) : Prop :=
  ∀ (ro : Option Nat) (k base : Nat) (σ : Sg) (a : Act) (w : World) (Q : Exit → Act → World → Prop), (ro = none ∨ noRF c = true) → FrRel σ fr.T a nt → Sim P σ fr.m w → DefOK base σ w a.defers → base ≤ w.heap.size →
    (∀ σ' a' w', FrRel σ' fr'.T a' nt → DefOK base σ' w' a'.defers → Ev P σ fr.m w σ' fr'.m w' → Q e.to a' w') → c.wpIn (wideAt ro) k P Q a w

noncomputable def least (p : Nat → Prop) : Nat := by
  classical
  exact if h : ∃ j, p j ∧ ∀ i, i < j → ¬ p i then Classical.choose h else 0
theorem least_spec {p : Nat → Prop} {j : Nat} (h : p j) : p (least p) ∧ least p ≤ j := by
  have ex : ∃ j, p j ∧ ∀ i, i < j → ¬ p i := by
    induction j using Nat.strongRecOn with
    | _ j ih =>
      by_cases hc : ∃ i, i < j ∧ p i
      · obtain ⟨i, h1, h2⟩ := hc
        exact ih i h1 h2
      · exact ⟨j, h, fun i hi hp => hc ⟨i, hi, hp⟩⟩
  have hs := Classical.choose_spec ex
  have he : least p = Classical.choose ex := by
    unfold least
    rw [dif_pos ex]
  rw [he]
  refine ⟨hs.1, ?_⟩
  refine Classical.byContradiction fun hc => ?_
  exact hs.2 j (by omega) h

theorem loop_sound {c : Code} {body : Fr → Option (Ex × Fr)} (hb : ∀ fr e fr', body fr = some (e, fr') → Runs P nt c fr e fr') {n : Nat} {fr : Fr} {e : Ex} {fr' : Fr} (h : loop? body n fr = some (e, fr')) :
    Runs P nt (.loop c) fr e fr' := by
  intro ro k base σ a w Q hro hf hs hd hba hQ
  let I : Nat → Act → World → Prop := fun j a' w' => ∃ fr1 σ1, loop? body j fr1 = some (e, fr') ∧ FrRel σ1 fr1.T a' nt ∧ DefOK base σ1 w' a'.defers ∧ Ev P σ fr.m w σ1 fr1.m w'
  refine wpIn_loop (fun a' w' => ∃ j, I j a' w') (fun a' w' => least fun j => I j a' w') ⟨n, fr, σ, h, hf, hd, Ev.refl hs⟩ fun a1 w1 ⟨j, hI⟩ => ?_
  obtain ⟨⟨fr1, σ1, hl, hf1, hd1, he1⟩, _⟩ := least_spec (p := fun j => I j a1 w1) hI
  generalize hq : (least fun j => I j a1 w1) = q at hl
  cases q with
  | zero => simp [loop?] at hl
  | succ q =>
    unfold loop? at hl
    cases hbd : body fr1 with
    | none => rw [hbd] at hl; cases hl
    | some p =>
      obtain ⟨e2, fr2⟩ := p
      rw [hbd] at hl
      refine hb fr1 e2 fr2 hbd ro k base σ1 a1 w1 _ hro hf1 he1.sim hd1 (Nat.le_trans hba he1.hle) fun σ2 a2 w2 hf2 hd2 he2 => ?_
      cases e2 with
      | normal =>
        have hI2 : I q a2 w2 := ⟨fr2, σ2, hl, hf2, hd2, he1.trans he2⟩
        refine ⟨⟨q, hI2⟩, ?_⟩
        have := (least_spec (p := fun j => I j a2 w2) hI2).2
        omega
      | exit id =>
        cases hl
        exact hQ σ2 a2 w2 hf2 hd2 (he1.trans he2)
      | ret =>
        cases hl
        exact hQ σ2 a2 w2 hf2 hd2 (he1.trans he2)

theorem exec_sound (hE : E.OK P) (hcall : CallOK P call) {n : Nat} : ∀ (c : Code) (fr : Fr) (e : Ex) (fr' : Fr), okCode nt P.globals.size c = true → exec? E call n c fr = some (e, fr') → Runs P nt c fr e fr' := by
  intro c
  induction c with
  | skip =>
    intro fr e fr' _ h ro k base σ a w Q hro hf hs hd hba hQ
    cases h
    exact wpIn_skip (hQ σ a w hf hd (Ev.refl hs))
  | label l =>
    intro fr e fr' _ h ro k base σ a w Q hro hf hs hd hba hQ
    cases h
    exact wpIn_label (hQ σ a w hf hd (Ev.refl hs))
  | region id ops d =>
    intro fr e fr' hok h ro k base σ a w Q hro hf hs hde hba hQ
    unfold okCode at hok
    simp only [Bool.and_eq_true] at hok
    have hops : ∀ o ∈ ops.toList, okOper nt P.globals.size o = true := List.all_eq_true.1 hok.1
    unfold exec? at h
    simp only [Option.map_eq_some_iff, Prod.mk.injEq] at h
    obtain ⟨fr1, h, rfl, rfl⟩ := h
    cases d with
    | false =>
      simp only [cond_false] at h
      exact wpIn_region_list (ops_sound hE hcall hops ops.toList hops fr fr1 h σ a w hf rfl hs fun σ' a' w' h1 h2 h3 => hQ σ' a' w' h1 (by rw [h2]; exact hde.ev h3) h3)
    | true =>
      simp only [cond_true] at h
      have hd : okDraw ops = true := by simpa using hok.2
      have hw : Ev P σ fr.m w σ fr.m { w with drawn := w.drawn + 1 } := Ev.of_heap hs rfl rfl rfl rfl
      exact wpIn_region_any hE.mixed (draw_sound hE hcall hops hd h hf hw.sim fun σ' a' w' h1 h2 h3 => hQ σ' a' w' h1 (by rw [h2]; exact hde.ev (hw.trans h3)) (hw.trans h3))
  | seq x y ihx ihy =>
    intro fr e fr' hok h ro k base σ a w Q hro hf hs hd hba hQ
    unfold okCode at hok
    simp only [Bool.and_eq_true] at hok
    have hro1 : ro = none ∨ noRF x = true := hro.imp id fun hh => by unfold noRF at hh; simp only [Bool.and_eq_true] at hh; exact hh.1
    have hro2 : ro = none ∨ noRF y = true := hro.imp id fun hh => by unfold noRF at hh; simp only [Bool.and_eq_true] at hh; exact hh.2
    unfold exec? at h
    refine wpIn_seq ?_
    cases hx : exec? E call n x fr with
    | none => rw [hx] at h; cases h
    | some p =>
      obtain ⟨e1, fr1⟩ := p
      rw [hx] at h
      refine ihx fr e1 fr1 hok.1 hx ro k base σ a w _ hro1 hf hs hd hba fun σ1 a1 w1 hf1 hd1 he1 => ?_
      cases e1 with
      | normal => exact ihy fr1 e fr' hok.2 h ro k base σ1 a1 w1 Q hro2 hf1 he1.sim hd1 (Nat.le_trans hba he1.hle) fun σ2 a2 w2 hf2 hd2 he2 => hQ σ2 a2 w2 hf2 hd2 (he1.trans he2)
      | exit id => cases h; exact hQ σ1 a1 w1 hf1 hd1 he1
      | ret => cases h; exact hQ σ1 a1 w1 hf1 hd1 he1
  | cond c x y ihx ihy =>
    intro fr e fr' hok h ro k base σ a w Q hro hf hs hd hba hQ
    unfold okCode at hok
    simp only [Bool.and_eq_true] at hok
    have hro1 : ro = none ∨ noRF x = true := hro.imp id fun hh => by unfold noRF at hh; simp only [Bool.and_eq_true] at hh; exact hh.1
    have hro2 : ro = none ∨ noRF y = true := hro.imp id fun hh => by unfold noRF at hh; simp only [Bool.and_eq_true] at hh; exact hh.2
    unfold exec? at h
    have hc := hf.opnd hs hok.1
    cases hv : ev fr.T c with
    | bool t =>
      rw [hv] at h hc
      refine wpIn_cond hc.bool ?_
      cases t with
      | true => exact ihx fr e fr' hok.2.1 h ro k base σ a w Q hro1 hf hs hd hba hQ
      | false => exact ihy fr e fr' hok.2.2 h ro k base σ a w Q hro2 hf hs hd hba hQ
    | _ => rw [hv] at h; cases h
  | block id c ih =>
    intro fr e fr' hok h ro k base σ a w Q hro hf hs hd hba hQ
    unfold okCode at hok
    have hro1 : ro = none ∨ noRF c = true := hro.imp (fun x => x) fun hh => by unfold noRF at hh; exact hh
    unfold exec? at h
    refine wpIn_block ?_
    cases hc : exec? E call n c fr with
    | none => rw [hc] at h; cases h
    | some p =>
      obtain ⟨e1, fr1⟩ := p
      rw [hc] at h
      refine ih fr e1 fr1 hok hc ro k base σ a w _ hro1 hf hs hd hba fun σ1 a1 w1 hf1 hd1 he1 => ?_
      cases e1 with
      | normal => cases h; exact hQ σ1 a1 w1 hf1 hd1 he1
      | exit id' =>
        simp only at h
        simp only [Ex.to, Exit.inBlock]
        by_cases hid : id' = id
        · subst hid
          simp only [Nat.beq_refl, cond_true, Option.some.injEq, Prod.mk.injEq] at h
          obtain ⟨rfl, rfl⟩ := h
          rw [if_pos rfl]
          exact hQ σ1 a1 w1 hf1 hd1 he1
        · rw [nbeq_false hid] at h
          simp only [cond_false, Option.some.injEq, Prod.mk.injEq] at h
          obtain ⟨rfl, rfl⟩ := h
          rw [if_neg hid]
          exact hQ σ1 a1 w1 hf1 hd1 he1
      | ret => cases h; exact hQ σ1 a1 w1 hf1 hd1 he1
  | loop c ih =>
    intro fr e fr' hok h ro k base σ a w Q hro
    unfold okCode at hok
    have hro1 : ro = none ∨ noRF c = true := hro.imp id fun hh => by unfold noRF at hh; exact hh
    unfold exec? at h
    refine loop_sound (c := c) (fun fr e fr' hb => ih fr e fr' hok hb) h ro k base σ a w Q ?_
    exact hro
  | exit id =>
    intro fr e fr' _ h ro k base σ a w Q hro hf hs hd hba hQ
    cases h
    exact wpIn_exit (hQ σ a w hf hd (Ev.refl hs))
  | ret =>
    intro fr e fr' _ h ro k base σ a w Q hro hf hs hd hba hQ
    cases h
    exact wpIn_ret (hQ σ a w hf hd (Ev.refl hs))
  | rangeFunc g ps assign body _ _ =>
    intro fr e fr' hok h ro k base σ a w Q hro hf hs hd hba hQ
    obtain rfl : ro = none := hro.resolve_right (by simp [noRF])
    unfold okCode at hok
    simp only [Bool.and_eq_true] at hok
    obtain ⟨ok1, ok2, ⟨ok3, ok4⟩, ok5, ok6⟩ := hok
    unfold exec? at h
    have hg := hf.opnd hs ok1
    split at h
    · rename_i f first captured hgv
      rw [hgv] at hg
      cases hc : call (.func f) (first.toList ++ (.func (.yield fr.m.n) #[] #[] :: captured.toList)) (fr.m.push (.loop ⟨fr.T, ps, assign, body, .ready, none, E.G⟩)) with
      | none => rw [hc] at h; cases h
      | some p =>
        obtain ⟨v, m⟩ := p
        rw [hc] at h
        simp only at h
        split at h
        · rename_i r hr
          have hfin : r.st ≠ .busy ∧ e = r.pend.getD .normal ∧ fr' = { fr with m := m.set fr.m.n (.loop { r with st := .exhausted }) } := by
            split at h
            · cases h
            · rename_i hb
              cases h
              exact ⟨hb, rfl, rfl⟩
          obtain ⟨hnb, rfl, rfl⟩ := hfin
          -- the function's value
          have hfv : ∃ first' captured', a.eval g = .func (.func f) first' captured' ∧ LRel σ first.toList first'.toList ∧ LRel σ captured.toList captured'.toList := hg.func_inv
          obtain ⟨first', captured', hev, hl1, hl2⟩ := hfv
          refine wpIn_rangeFunc fun fn _ => ?_
          let wa := w.alloc (.deferred (some []))
          let rec0 : Loop := { state := .ready, pending := none, fn, tmps := a.tmps, params := ps, assign, body, defers := w.heap.size }
          let w1 := wa.alloc (.loop rec0)
          have hea : Ev P σ fr.m w σ fr.m wa := Ev.extra hs _
          have hsz : wa.heap.size = w.heap.size + 1 := by simp [wa]
          have heb : Ev P σ fr.m wa (σ.add fr.m.n ⟨wa.heap.size, none⟩) (fr.m.push (.loop ⟨fr.T, ps, assign, body, .ready, none, E.G⟩)) w1 := by
            refine Ev.new_block hea.sim ⟨rfl, rec0, nt, heap_alloc_new wa _, rfl, rfl, rfl, rfl, rfl, hf.1, fun t ht => ?_, ?_, ?_, ok3, ok4, ?_, by simp⟩
            · exact (hf.2 t ht).mono (Sg.le_add hea.sim.next_none)
            · rw [hE.G]; exact ok5
            · rw [hE.G]; exact ok6
            · intro p hp
              have := List.all_eq_true.1 ok2 p hp
              rw [blt_iff] at this
              simpa using this
          have hab := hea.trans heb
          have hyield : VRel (σ.add fr.m.n ⟨wa.heap.size, none⟩) (.func (.yield fr.m.n) #[] #[]) (.func (.yield (w.heap.size + 1)) #[] #[]) := by
            rw [← hsz]
            exact .yield fr.m.n ⟨wa.heap.size, none⟩ (Sg.add_same _ _)
          have hle := hab.ext
          obtain ⟨hcalls, hrun⟩ := hcall.func f _ _ v m hc _ w1 (first' ++ #[.func (.yield (w.heap.size + 1)) #[] #[]] ++ captured') heb.sim (by
            simp only [Array.toList_append, List.append_assoc, List.singleton_append]
            exact (hl1.mono hle).append (LRel.cons hyield (hl2.mono hle)))
          refine ⟨w.heap.size + 1, [{ target := .collected w.heap.size, args := #[] }], w1, { target := .fn (.func f) captured', args := first' ++ #[.func (.yield (w.heap.size + 1)) #[] #[]] }, w1, f, _, w1,
            run_enterLoop_outer fn a.tmps ps assign body, ?_, fun _ _ => trivial, hrun, fun hh => by simp [wideAt, Fence.wide] at hh, ?_⟩
          · have hm : Array.map a.eval #[Operand.const (Value.func (Fn.yield (w.heap.size + 1)) #[] #[])] = #[Value.func (Fn.yield (w.heap.size + 1)) #[] #[]] := by simp [Act.eval]
            simp only [resolve, hev, Deferred.ofValue, Sem.run_pure, hm]
          · have hc2 : CallsIn (wideAt none) (k - 1) P f (first' ++ #[.func (.yield (w.heap.size + 1)) #[] #[]] ++ captured') w1 (CallRes P (σ.add fr.m.n ⟨wa.heap.size, none⟩) (fr.m.push (.loop ⟨fr.T, ps, assign, body, .ready, none, E.G⟩)) w1 v m) :=
              ⟨trivial, fun cs _ => hcalls.2 cs (room_wide _)⟩
            refine hc2.mono fun e w3 he => ?_
            obtain ⟨v', σ2, rfl, _, hec⟩ := he
            have hl2' : σ2 fr.m.n = some ⟨wa.heap.size, none⟩ := hec.ext _ _ (Sg.add_same _ _)
            have ho := hec.sim.obj _ _ hl2'
            rw [hr] at ho
            obtain ⟨hgr, r', nt', q1, q2, q3, q4, q5, q6, q7, q8, q9, q10, q11, q12, q13, q14⟩ := ho
            rw [hsz] at q1
            have hw4 : Ev P σ2 m w3 σ2 (m.set fr.m.n (.loop { r with st := .exhausted })) (w3.putObj (w.heap.size + 1) (.loop { r' with state := .exhausted })) := by
              have hlt : w.heap.size + 1 < w3.heap.size := (Array.getElem?_eq_some_iff.1 q1).1
              refine Ev.write hec.sim hl2' (by rw [hr]; simp) ⟨rfl, { r' with state := .exhausted }, nt', ?_, rfl, q3, q4, q5, q6, q7, q8, q9, q10, q11, q12, q13, q14⟩ ?_ (by simp) rfl rfl rfl
              · show (w3.putObj (w.heap.size + 1) _).heap[wa.heap.size]? = _
                rw [hsz]
                exact World.putObj_heap_same hlt
              · intro B hB
                refine World.putObj_heap_other fun e => hB ?_
                rw [e]
                show _ = wa.heap.size
                rw [hsz]
            have htot := (hab.trans hec).trans hw4
            have hdef : DefOK base σ2 (w3.putObj (w.heap.size + 1) (.loop { r' with state := .exhausted })) ([{ target := .collected w.heap.size, args := #[] }] ++ a.defers) := by
              have h0 : DefOK base σ wa ([{ target := .collected w.heap.size, args := #[] }] ++ a.defers) := by
                refine ⟨⟨w.heap.size, rfl, hba, heap_alloc_new w _, fun b i hb => ?_, fun d' hd' e => ?_⟩, hd.ev hea⟩
                · have := hs.lt b i hb; omega
                · obtain ⟨r2, h1, h2⟩ := hd.lt d' hd'
                  rw [e] at h1
                  cases h1
                  omega
              exact h0.ev ((heb.trans hec).trans hw4)
            refine ⟨r'.pending, _, run_endLoop q1 (by rw [q2]; exact hnb), ?_⟩
            have hQ' := hQ σ2 { a with defers := [{ target := .collected w.heap.size, args := #[] }] ++ a.defers } _ ⟨hf.1, fun t ht => (hf.2 t ht).mono htot.ext⟩ hdef htot
            generalize w3.putObj (w.heap.size + 1) (.loop { r' with state := .exhausted }) = W4 at hQ' ⊢
            rw [q3]
            cases hp : r.pend with
            | none => rw [hp] at hQ'; exact hQ'
            | some e =>
              rw [hp] at hQ'
              cases e with
              | normal => exact absurd hp q14
              | exit id => exact wpIn_exit hQ'
              | ret => exact wpIn_ret hQ'
        · cases h
    · cases h
  | _ => intro fr e fr' _ h; simp [exec?] at h
end
end Go.D

/- Calls: what D returns, the model returns. -/
namespace Go.D
open Go

section
variable {E : Env} {P : Program} {call : CallFn} {nt : Nat} {σ σ' : Sg} {m m' : M} {w w' : World} {a : Act}

theorem at_enter : ∀ (l : List Value) (i t : Nat), at? (enter l i) t = if t < i then undef else (l[t - i]?).getD undef
  | [], i, t => by
    unfold enter at?
    rw [Tr.get_e]
    by_cases h : t < i <;> simp [h]
  | v :: l, i, t => by
    unfold enter
    have ih := at_enter l (i + 1) t
    unfold at? at ih ⊢
    rw [Tr.get_set]
    by_cases h : t = i
    · subst h; simp
    · rw [if_neg h, ih]
      by_cases h1 : t < i
      · rw [if_pos (by omega), if_pos h1]
      · rw [if_neg (by omega), if_neg h1]
        have : t - i = (t - (i + 1)) + 1 := by omega
        rw [this]
        simp
theorem enter_rel {args : List Value} {args' : Array Value} (h : LRel σ args args'.toList) (hn : args.length ≤ nt) :
    FrRel σ (enter args 0) { tmps := args' ++ Array.replicate (nt - args'.size) undef, defers := [] } nt := by
  have hl := h.1
  simp only [Array.length_toList] at hl
  refine ⟨by simp; omega, fun t ht => ?_⟩
  rw [at_enter, if_neg (by omega), Nat.sub_zero]
  simp only [Act.eval]
  by_cases hta : t < args'.size
  · have h1 : args[t]? = some args[t] := by simp [show t < args.length by omega]
    obtain ⟨u', hu, hr⟩ := h.get h1
    have hu' : args'[t]? = some u' := by simpa using hu
    rw [h1, Option.getD_some, Array.getD_eq_getD_getElem?, Array.getElem?_append_left hta, hu']
    exact hr
  · rw [List.getElem?_eq_none (by omega), Option.getD_none, Array.getD_eq_getD_getElem?, Array.getElem?_append_right (by omega), Array.getElem?_replicate]
    split <;> exact VRel.undef

theorem resultOne_sound (hE : E.OK P) (hs : Sim P σ m w) {T : Tr Value} (hf : FrRel σ T a nt) {r : ResultVar} (hr : (match r with | .tmp t => Nat.blt t nt | .cell a _ => Nat.blt a nt) = true) {v : Value} (h : resultOne E T m r = some v) :
    ∃ v', ((match r with | .tmp t => pure (a.tmps.getD t undef) | .cell x t => do Go.loadVar t (← asAddr (a.tmps.getD x undef))) : Sem Value).run P w = .ok v' w ∧ VRel σ v v' := by
  unfold resultOne at h
  cases r with
  | tmp t =>
    cases h
    have hr : Nat.blt t nt = true := hr
    rw [blt_iff] at hr
    exact ⟨_, rfl, hf.2 t (by simpa using hr)⟩
  | cell x t =>
    have hr : Nat.blt x nt = true := hr
    rw [blt_iff] at hr
    have hx := hf.2 x (by simpa using hr)
    dsimp only at h
    split at h
    · rename_i ad had
      rw [had] at hx
      obtain ⟨i, hi, _, he⟩ := hx.ptr_inv
      have he : a.tmps.getD x undef = _ := he
      obtain ⟨v', h1, h2, _⟩ := loadVar_sound (w := w) hE hs hi h
      refine ⟨v', ?_, h2⟩
      dsimp only
      rw [he, Sem.run_bind]
      simp only [asAddr, Sem.run_pure, Result.andThen_ok]
      exact h1
    · cases h
theorem results_sound (hE : E.OK P) (hs : Sim P σ m w) {T : Tr Value} (hf : FrRel σ T a nt) : ∀ (rs : List ResultVar) (vs : List Value), (∀ r ∈ rs, (match r with | .tmp t => Nat.blt t nt | .cell a _ => Nat.blt a nt) = true) → results? E T m rs = some vs →
    ∃ vs' : List Value, (rs.mapM (m := Sem) fun | .tmp t => pure (a.tmps.getD t undef) | .cell x t => do Go.loadVar t (← asAddr (a.tmps.getD x undef))).run P w = .ok vs' w ∧ LRel σ vs vs'
  | [], vs, _, h => by
    simp only [results?, Option.some.injEq] at h
    subst h
    exact ⟨[], rfl, LRel.nil⟩
  | r :: rs, vs, hr, h => by
    unfold results? at h
    cases h1 : resultOne E T m r with
    | none => rw [h1] at h; simp at h
    | some v =>
      cases h2 : results? E T m rs with
      | none => rw [h1, h2] at h; simp at h
      | some vs1 =>
        rw [h1, h2] at h
        simp only [Option.some.injEq] at h
        subst h
        obtain ⟨v', q1, q2⟩ := resultOne_sound hE hs hf (hr r List.mem_cons_self) h1
        obtain ⟨vs', q3, q4⟩ := results_sound hE hs hf rs vs1 (fun r h => hr r (List.mem_cons_of_mem _ h)) h2
        refine ⟨v' :: vs', ?_, LRel.cons q2 q4⟩
        rw [List.mapM_cons, Sem.run_bind]
        generalize hG : Sem.run P _ w = G
        have hG : G = .ok v' w := hG.symm.trans q1
        rw [hG, Result.andThen_ok, Sem.run_bind, q3]
        rfl
theorem result_sound (hE : E.OK P) (hs : Sim P σ m w) {T : Tr Value} {fn : Func} (hf : FrRel σ T a nt) (hr : ∀ r ∈ fn.results.toList, (match r with | .tmp t => Nat.blt t nt | .cell a _ => Nat.blt a nt) = true) {v : Value} (h : result? E fn T m = some v) :
    ∃ v', (results fn a.tmps).run P w = .ok v' w ∧ VRel σ v v' := by
  unfold result? at h
  cases h1 : results? E T m fn.results.toList with
  | none => rw [h1] at h; simp at h
  | some vs =>
    rw [h1] at h
    obtain ⟨vs', q1, q2⟩ := results_sound hE hs hf fn.results.toList vs hr h1
    refine ⟨if h : vs'.toArray.size = 1 then vs'.toArray[0] else .tuple vs'.toArray, ?_, ?_⟩
    · unfold results
      rw [Array.mapM_eq_mapM_toList]
      rw [Sem.run_bind, Sem.run_map]
      generalize hG : Sem.run P (List.mapM _ _) w = G
      have hG : G = .ok vs' w := hG.symm.trans q1
      rw [hG]
      rfl
    · split at h
      · rename_i v1 hv1
        cases hv1
        cases h
        obtain ⟨v', l2, rfl, hv, hl⟩ := q2.cases
        obtain rfl := hl.nil_eq
        simpa using hv
      · rename_i vs1 hne hv1
        cases hv1
        cases h
        have hlen : ¬ vs'.toArray.size = 1 := by
          intro hl
          have : vs.length = 1 := by rw [q2.1]; simpa using hl
          obtain ⟨x, rfl⟩ := List.length_eq_one_iff.1 this
          exact hne x rfl
        rw [dif_neg hlen]
        exact q2.tuple
      · rename_i hv1; cases hv1

theorem Ev.relow (h : Ev P σ { m with low := m.n } w σ' m' w') : Ev P σ m w σ' { m' with low := min m.low m'.low } w' where
  ext := h.ext
  sim := h.sim.low _
  low := Nat.min_le_left _ _
  nle := h.nle
  hle := h.hle
  new := fun b i x y => by
    obtain ⟨h1, h2⟩ := h.new b i x y
    refine ⟨h1, h2.imp id ?_⟩
    rintro ⟨b0, i0, p, q, r⟩
    exact ⟨b0, i0, p, q, by dsimp only; omega⟩
  abs := fun b x y => h.abs b (by dsimp only at x; omega) y
  heap := fun B x y => h.heap B x fun b i p q => by have := y b i p q; dsimp only at this; omega
  os := h.os
  tape := h.tape
  output := h.output
theorem VRel.eq_of_flat2 {v v' : Value} (h : VRel σ v v') (h0 : flat2 v = true) : v' = v := by
  by_cases hc : flat1 v = true
  · exact h.eq_of_flat1 hc
  · cases v with
    | tuple vs =>
      obtain ⟨a', rfl, ha⟩ := h.tuple_inv
      congr 1
      apply Array.ext'
      apply List.ext_getElem?
      intro j
      cases hj : vs.toList[j]? with
      | none => exact List.getElem?_eq_none (by rw [← ha.1]; exact List.getElem?_eq_none_iff.1 hj)
      | some u =>
        obtain ⟨u', hu, hr⟩ := ha.get hj
        rw [hu, hr.eq_of_flat1 (List.all_eq_true.1 h0 u (List.mem_of_getElem? hj))]
    | _ => exact absurd h0 hc
/-- A call that has written nothing of what lay before it, and whose result bears no address. -/
theorem Ev.forget (hs : Sim P σ m w) (h : Ev P σ { m with low := m.n } w σ' m' w') (hl : m.n ≤ m'.low) : Ev P σ m w σ m w' := by
  have hk : ∀ B, B < w.heap.size → w'.heap[B]? = w.heap[B]? := fun B hB => h.heap B hB fun b i p _ => by have := hs.dom b i p; omega
  have hsz := h.hle
  refine ⟨fun _ _ x => x, ⟨hs.dom, fun b i hb => (hs.obj b i hb).keep (fun _ _ x => x) (hk _ (hs.lt b i hb)), fun b i hb => ?_, hs.inj, hs.glob⟩, Nat.le_refl _, Nat.le_refl _, hsz, fun b i x y => (by rw [x] at y; cases y), fun _ _ _ => rfl, fun B hB _ => hk B hB, h.os, h.tape, h.output⟩
  have := hs.lt b i hb
  omega

/-- A block of which the store knows nothing, and that was not there before. -/
theorem Ev.touch {r : Nat} {o : Obj} (h : Ev P σ m w σ' m' w') (hb : w.heap.size ≤ r) (hr : ∀ b i, σ' b = some i → i.blk ≠ r) : Ev P σ m w σ' m' (w'.putObj r o) := by
  have hs := h.sim
  refine ⟨h.ext, ⟨hs.dom, fun b i x => (hs.obj b i x).keep (fun _ _ x => x) (World.putObj_heap_other (hr b i x)), fun b i x => by rw [World.putObj_size]; exact hs.lt b i x, hs.inj, hs.glob⟩, h.low, h.nle, by rw [World.putObj_size]; exact h.hle, h.new, h.abs, fun B x y => ?_, h.os, h.tape, h.output⟩
  rw [World.putObj_heap_other (by omega)]
  exact h.heap B x y
theorem DefOK.touch {base r : Nat} {o : Obj} : ∀ {ds : List Deferred}, DefOK base σ w ds → (∀ d ∈ ds, d.target ≠ .collected r) → DefOK base σ (w.putObj r o) ds
  | [], _, _ => trivial
  | d :: ds, h, hn => by
    obtain ⟨⟨q, h1, h2, h3, h4, h5⟩, h6⟩ := h
    refine ⟨⟨q, h1, h2, ?_, h4, h5⟩, h6.touch fun d' hd' => hn d' (List.mem_cons_of_mem _ hd')⟩
    rw [World.putObj_heap_other (fun e => hn d List.mem_cons_self (by rw [h1, e]))]
    exact h3
/-- A function that leaves with marks. -/
theorem leaves_marks {fn : Func} {tmps : Array Value} {R : Ending → World → Prop} : ∀ (ds : List Deferred) (w' : World), DefOK w.heap.size σ' w' ds → Ev P σ m w σ' m' w' →
    (∀ w2, Ev P σ m w σ' m' w2 → ∃ v, (results fn tmps).run P w2 = .ok v w2 ∧ R (.returned v) w2) → LeavesInM Fence.wide 0 P fn tmps R ds .returning w'
  | [], w', _, he, h => h w' he
  | d :: ds, w', hd, he, h => by
    obtain ⟨⟨r, h1, h2, h3, h4, h5⟩, h6⟩ := hd
    exact ⟨by simp, .inl ⟨r, _, h1, run_takeDeferred h3, leaves_marks ds _ (h6.touch h5) (he.touch h2 h4) h⟩⟩

/-- A call of D's, and the model's. -/
theorem call_calls (hE : E.OK P) {X : CallFn} (hX : CallOK P X) {n : Nat} (ih : CallOK P (call? E X n)) {f : FuncId} {args : List Value} {v : Value} (h : call? E X (n + 1) (.func f) args m = some (v, m')) {args' : Array Value} (hs : Sim P σ m w) (hl : LRel σ args args'.toList) :
    CallsIn Fence.wide 0 P f args' w (CallRes P σ m w v m') ∧ (callFunc f args').run P w = .ok (.enter f args') w := by
  unfold call? at h
  split at h
  · rename_i r hr
    cases h
    exact hX.func f args m v m' hr σ w args' hs hl
  split at h
  · cases h
  · rename_i fn hfn
    have hfs := hE.fn f fn hfn
    have hok := hE.code hfn
    unfold okFn at hok
    simp only [Bool.and_eq_true] at hok
    split at h
    · cases h
    · rename_i body hbody
      rw [hbody] at hok
      cases hle : Nat.ble args.length fn.ntmps with
      | false => rw [hle] at h; simp at h
      | true =>
        rw [hle] at h
        simp only [cond_true] at h
        have hle := Nat.le_of_ble_eq_true hle
        have hrun : (callFunc f args').run P w = .ok (.enter f args') w := by
          have hne : (fn.name == "runtime.NumGoroutine") = false := by simpa using hok.2.1
          unfold callFunc
          simp only [Sem.run_bind, run_program, Result.andThen_ok, hfs, hne, hbody]
          rfl
        refine ⟨?_, hrun⟩
        have hs0 := hs.low m.n
        have hent := enter_rel (nt := fn.ntmps) hl hle
        have go : ∀ (e : Ex) (fr : Fr), e = .normal ∨ e = .ret → exec? E (call? E X n) n body { T := enter args 0, m := { m with low := m.n } } = some (e, fr) →
            (match result? E fn fr.T fr.m with
              | none => none
              | some v => bif flat2 v && Nat.ble m.n fr.m.low then some (v, m) else some (v, { fr.m with low := min m.low fr.m.low })) = some (v, m') → CallsIn Fence.wide 0 P f args' w (CallRes P σ m w v m') := by
          intro e fr hcase hex hres
          refine callsIn_of_wp_marks hfs hbody trivial ?_
          refine exec_sound hE ih body _ e fr hok.1 hex none 0 w.heap.size σ _ w _ (.inl rfl) hent hs0 trivial (Nat.le_refl _) fun σ1 a1 w1 hf1 hd1 he1 => ?_
          have hleave : LeavesInM Fence.wide 0 P fn a1.tmps (CallRes P σ m w v m') a1.defers .returning w1 := by
            refine leaves_marks a1.defers w1 hd1 he1 fun w2 he2 => ?_
            cases hr : result? E fn fr.T fr.m with
            | none => rw [hr] at hres; cases hres
            | some v1 =>
              rw [hr] at hres
              dsimp only at hres
              obtain ⟨v', q1, q2⟩ := result_sound hE he2.sim hf1 (fun r hr => by
                have := List.all_eq_true.1 hok.2.2 r hr
                cases r <;> exact this) hr
              refine ⟨v', q1, ?_⟩
              cases hb : (flat2 v1 && Nat.ble m.n fr.m.low) with
              | true =>
                rw [hb] at hres
                cases hres
                simp only [Bool.and_eq_true] at hb
                have hv' := q2.eq_of_flat2 hb.1
                subst hv'
                exact ⟨_, σ, rfl, VRel.of_flat2 hb.1, Ev.forget hs he2 (Nat.le_of_ble_eq_true hb.2)⟩
              | false =>
                rw [hb] at hres
                cases hres
                exact ⟨_, σ1, rfl, q2, he2.relow⟩
          rcases hcase with rfl | rfl
          · exact hleave
          · exact hleave
        split at h
        · cases h
        · cases h
        · rename_i e fr hne hex
          refine go e fr ?_ hex h
          cases e with
          | normal => exact .inl rfl
          | ret => exact .inr rfl
          | exit id => exact absurd rfl (hne id)

theorem setAll_rel : ∀ (ps : List Tmp) (args args' : List Value) (T : Tr Value) (tmps : Array Value) (ds : List Deferred), FrRel σ T { tmps, defers := ds } nt → (∀ p ∈ ps, p < nt) → LRel σ args args' →
    FrRel σ (setAll T (ps.zip args)) { tmps := (ps.zip args').foldl (fun tmps x => tmps.setIfInBounds x.1 x.2) tmps, defers := ds } nt
  | [], _, _, _, _, _, h, _, _ => h
  | p :: ps, [], args', T, tmps, ds, h, _, hl => by
    obtain rfl := hl.nil_eq
    exact h
  | p :: ps, v :: args, x, T, tmps, ds, h, hp, hl => by
    obtain ⟨v', args', rfl, hv, hl'⟩ := hl.cases
    have h2 := h.put (dst := some p) (fun d hd => by cases hd; exact hp p List.mem_cons_self) hv
    exact setAll_rel ps args args' (T.set p v) (tmps.setIfInBounds p v') ds h2 (fun q hq => hp q (List.mem_cons_of_mem _ hq)) hl'

theorem Ev.loop {b : Nat} {i : BI} {r r2 : LoopD} {r' r2' : Loop} (hs : Sim P σ m w) (hb : σ b = some i) (hm : m.get b = .loop r) (hr : w.heap[i.blk]? = some (.loop r')) (hh : ∀ w', w'.heap[i.blk]? = some (.loop r2') → Holds σ i w' (.loop r2)) :
    Ev P σ m w σ (m.set b (.loop r2)) (w.putObj i.blk (.loop r2')) := by
  have hlt : i.blk < w.heap.size := (Array.getElem?_eq_some_iff.1 hr).1
  exact Ev.write hs hb (by rw [hm]; simp) (hh _ (World.putObj_heap_same hlt)) (fun B hB => World.putObj_heap_other hB) (by simp) rfl rfl rfl

theorem round_sound (hE : E.OK P) {X : CallFn} {n : Nat} (ih : CallOK P (call? E X n)) {l : Nat} {args : List Value} {v : Value} (h : round? (exec? E (call? E X n) n) E.G l args m = some (v, m')) {i : BI} {args' : Array Value} (hs : Sim P σ m w) (hl : σ l = some i) (ha : LRel σ args args'.toList) :
    OpRes P σ m w ((Instr.yield i.blk args').run P w) v m' := by
  unfold round? at h
  split at h
  · rename_i r hr
    have ho := hs.obj _ _ hl
    rw [hr] at ho
    obtain ⟨hgr, r', nt, q1, q2, q3, q4, q5, q6, q7, q8, q9, q10, q11, q12, q13, q14⟩ := ho
    cases hb : (Nat.beq args.length r.ps.size && Nat.beq r.G E.G) with
    | false => rw [hb] at h; simp at h
    | true =>
      rw [hb] at h
      simp only [cond_true] at h
      simp only [Bool.and_eq_true] at hb
      have hlen := Nat.eq_of_beq_eq_true hb.1
      have hG := Nat.eq_of_beq_eq_true hb.2
      rw [hE.G] at hG
      rw [hG] at q9 q10
      have hsz : args'.size = r'.params.size := by
        have := ha.1
        rw [q4]
        simp only [Array.length_toList] at this
        omega
      rw [run_yield q1 hsz]
      let R : Ending → World → Prop := CallRes P σ m w v m'
      suffices hround : ∀ (ro : Option Nat) (k : Nat), RoundIn (wideAt ro) k P i.blk r'.fn ((r'.params.zip args').foldl (fun tmps (t, a) => tmps.setIfInBounds t a) r'.tmps) r'.assign r'.body w R by
        refine ⟨?_, fun ro k o a next Q hk => ?_⟩
        · obtain ⟨e, w', ⟨v', σ', _, hv, he⟩, _⟩ := (hround none 0).2 default [] (room_wide _)
          exact ⟨σ', w', v', hv, he⟩
        · refine ⟨fun hh => by simp [wideAt, Fence.wide] at hh, (hround ro (k - 1)).mono fun e w' he => ?_⟩
          obtain ⟨v', σ', rfl, hv, hev⟩ := he
          exact hk σ' w' v' hv hev
      intro ro k
      refine roundIn_of_wpIn trivial ?_
      have hf0 : FrRel σ (setAll r.T (r.ps.toList.zip args)) { tmps := ((r'.params.zip args').foldl (fun tmps (t, a) => tmps.setIfInBounds t a) r'.tmps), defers := [] } nt := by
        have h0 : FrRel σ r.T { tmps := r'.tmps, defers := [] } nt := ⟨q7, fun t ht => q8 t ht⟩
        have h1 := setAll_rel r.ps.toList args args'.toList r.T r'.tmps [] h0 q13 ha
        have e : (r'.params.zip args').foldl (fun tmps (t, a) => tmps.setIfInBounds t a) r'.tmps = (r.ps.toList.zip args'.toList).foldl (fun tmps x => tmps.setIfInBounds x.1 x.2) r'.tmps := by
          rw [← Array.foldl_toList, Array.toList_zip, q4]
        rw [e]
        exact h1
      rw [q5, q6]
      split at h
      · rename_i fr1 hx
        split at h
        · rename_i r1 hr1
          split at h
          · rename_i hst1
            split at h
            · rename_i e fr2 hx2
              split at h
              · rename_i r2 hr2
                refine exec_sound hE ih r.assign _ .normal fr1 q9 hx (some i.blk) k 0 σ _ w _ (.inr q11) hf0 hs trivial (Nat.zero_le _) fun σ1 a1 w1 hf1 hd1 he1 => ?_
                have hl1 := he1.ext _ _ hl
                have ho1 := he1.sim.obj _ _ hl1
                rw [hr1] at ho1
                obtain ⟨hgr1, r1', nt1, p1, p2, p3, p4, p5, p6, p7, p8, p9, p10, p11, p12, p13, p14⟩ := ho1
                refine ⟨_, run_beginRound p1 (by rw [p2]; exact hst1), ?_⟩
                have hev1 := Ev.loop (r2 := { r1 with st := .busy }) (r2' := { r1' with state := .busy }) he1.sim hl1 hr1 p1 fun w' hw' => ⟨hgr1, _, nt1, hw', rfl, p3, p4, p5, p6, p7, p8, p9, p10, p11, p12, p13, p14⟩
                refine exec_sound hE ih r.body _ e fr2 q10 hx2 (some i.blk) k 0 σ1 a1 _ _ (.inr q12) hf1 hev1.sim (hd1.ev hev1) (Nat.zero_le _) fun σ2 a2 w2 hf2 hd2 he2 => ?_
                have hl2 := he2.ext _ _ hl1
                have ho2 := he2.sim.obj _ _ hl2
                rw [hr2] at ho2
                obtain ⟨hgr2, r2', nt2, z1, z2, z3, z4, z5, z6, z7, z8, z9, z10, z11, z12, z13, z14⟩ := ho2
                have htot := (he1.trans hev1).trans he2
                have fin : ∀ (j : Option Ex), j ≠ some .normal → ∃ v' w', (Instr.endRound i.blk (j.map exCode)).run P w2 = .ok v' w' ∧
                    (v = .bool (j.map exCode).isNone → m' = fr2.m.set l (.loop { r2 with st := if (j.map exCode).isNone then .ready else .done, pend := j }) → R (.returned v') w') := by
                  intro j hj
                  refine ⟨_, _, run_endRound (j.map exCode) z1, fun hv hm => ?_⟩
                  subst hv hm
                  refine ⟨_, σ2, rfl, .flat _ rfl, htot.trans ?_⟩
                  exact Ev.loop he2.sim hl2 hr2 z1 fun w' hw' => ⟨hgr2, _, nt2, hw', rfl, rfl, z4, z5, z6, z7, z8, z9, z10, z11, z12, z13, hj⟩
                cases e with
                | normal =>
                  cases h
                  obtain ⟨v', w', f1, f2⟩ := fin none (by simp)
                  exact ⟨v', w', f1, f2 rfl rfl⟩
                | exit id =>
                  cases h
                  obtain ⟨v', w', f1, f2⟩ := fin (some (.exit id)) (by simp)
                  exact ⟨v', w', f1, f2 rfl rfl⟩
                | ret =>
                  cases h
                  obtain ⟨v', w', f1, f2⟩ := fin (some .ret) (by simp)
                  exact ⟨v', w', f1, f2 rfl rfl⟩
              · cases h
            · cases h
          · cases h
        · cases h
      · cases h
  · cases h

theorem call_sound' (hE : E.OK P) {X : CallFn} (hX : CallOK P X) : ∀ n, CallOK P (call? E X n)
  | 0 => ⟨fun f args m v m' h => by simp [call?] at h, fun l args m v m' h => by simp [call?] at h⟩
  | n + 1 => ⟨fun f args m v m' h σ w args' hs hl => call_calls hE hX (call_sound' hE hX n) h hs hl, fun l args m v m' h σ w i args' hs hl ha => by
      unfold call? at h
      exact round_sound hE (call_sound' hE hX n) h hs hl ha⟩

/-- What D returns, the model returns. -/
theorem calls_of_run (hE : E.OK P) {X : CallFn} (hX : CallOK P X) {n : Nat} {f : FuncId} {args : List Value} {v : Value} (h : call? E X n (.func f) args m = some (v, m')) {args' : Array Value} (hs : Sim P σ m w) (hl : LRel σ args args'.toList) :
    Calls P f args' w (CallRes P σ m w v m') := by
  cases n with
  | zero => simp [call?] at h
  | succ n => exact callsIn_wide.1 (call_calls hE hX (call_sound' hE hX n) h hs hl).1
/-- Nothing is known beforehand. -/
def noX : CallFn := fun _ _ _ => none
theorem noX_ok : CallOK P noX := ⟨fun f args m v m' h => by simp [noX] at h, fun l args m v m' h => by simp [noX] at h⟩
end
end Go.D

/- slices.Sorted over the keys of a map: what is known of the call beforehand. -/
namespace Go.D
open Go

section
variable {P : Program} {σ : Sg} {m : M} {w w' : World}

/-- A new block, somewhere behind what lay there. -/
theorem Ev.new_at (h : Sim P σ m w) {g : Nat} {gr : Option (Nat × Nat × Nat)} {ob : Ob} (hk : ∀ B, B < w.heap.size → w'.heap[B]? = w.heap[B]?) (hle : w.heap.size ≤ w'.heap.size) (hg : w.heap.size ≤ g) (hg' : g < w'.heap.size)
    (hh : Holds (σ.add m.n ⟨g, gr⟩) ⟨g, gr⟩ w' ob) (ho : w'.os = w.os) (ht : w'.tape = w.tape) (hu : w'.output = w.output) : Ev P σ m w (σ.add m.n ⟨g, gr⟩) (m.push ob) w' := by
  have hn := h.next_none
  have hl := Sg.le_add (i := ⟨g, gr⟩) hn
  have hcase : ∀ b i, (σ.add m.n ⟨g, gr⟩) b = some i → (b = m.n ∧ i = ⟨g, gr⟩) ∨ (b ≠ m.n ∧ σ b = some i) := by
    intro b i hb
    unfold Sg.add at hb
    by_cases hbn : b = m.n
    · rw [if_pos hbn] at hb; exact .inl ⟨hbn, by injection hb with hb; exact hb.symm⟩
    · rw [if_neg hbn] at hb; exact .inr ⟨hbn, hb⟩
  have hpn : (m.push ob).n = m.n + 1 := rfl
  refine ⟨hl, ⟨?_, ?_, ?_, ?_, fun g hg => hl g _ (h.glob g hg)⟩, Nat.le_refl _, by omega, hle, ?_, ?_, fun B hB _ => hk B hB, ho, ht, hu⟩
  · intro b i hb
    rcases hcase b i hb with ⟨rfl, _⟩ | ⟨_, hb⟩
    · omega
    · have := h.dom b i hb; omega
  · intro b i hb
    rw [M.get_push]
    rcases hcase b i hb with ⟨rfl, rfl⟩ | ⟨hne, hb⟩
    · rw [if_pos rfl]; exact hh
    · rw [if_neg hne]; exact (h.obj b i hb).keep hl (hk _ (h.lt b i hb))
  · intro b i hb
    rcases hcase b i hb with ⟨_, rfl⟩ | ⟨_, hb⟩
    · exact hg'
    · have := h.lt b i hb; omega
  · intro b b' i i' hb hb' hd hd' he
    rw [M.get_push] at hd hd'
    rcases hcase b i hb with ⟨rfl, rfl⟩ | ⟨hne, hb⟩ <;> rcases hcase b' i' hb' with ⟨rfl, rfl⟩ | ⟨hne', hb'⟩
    · rfl
    · have := h.lt b' i' hb'; dsimp only at he; omega
    · have := h.lt b i hb; dsimp only at he; omega
    · rw [if_neg hne] at hd; rw [if_neg hne'] at hd'; exact h.inj b b' i i' hb hb' hd hd' he
  · intro b i hb hs
    rcases hcase b i hb with ⟨rfl, rfl⟩ | ⟨_, hb⟩
    · exact ⟨Nat.le_refl _, .inl hg⟩
    · rw [hs] at hb; cases hb
  · intro b _ hb
    rw [M.get_push, if_neg (by omega)]
/-- Nothing of what the store knows has turned. -/
theorem Ev.kept (h : Sim P σ m w) (hk : ∀ B, B < w.heap.size → w'.heap[B]? = w.heap[B]?) (hle : w.heap.size ≤ w'.heap.size) (ho : w'.os = w.os) (ht : w'.tape = w.tape) (hu : w'.output = w.output) : Ev P σ m w σ m w' :=
  ⟨fun _ _ x => x, ⟨h.dom, fun b i hb => (h.obj b i hb).keep (fun _ _ x => x) (hk _ (h.lt b i hb)), fun b i hb => Nat.lt_of_lt_of_le (h.lt b i hb) hle, h.inj, h.glob⟩, Nat.le_refl _, Nat.le_refl _, hle, fun b i x y => (by rw [x] at y; cases y), fun _ _ _ => rfl, fun B hB _ => hk B hB, ho, ht, hu⟩

/-- A list of ints, with one more, in order. -/
def ins (x : Int) : List Int → List Int
  | [] => [x]
  | y :: l => bif x ≤ y then x :: y :: l else y :: ins x l
def isort : List Int → List Int
  | [] => []
  | x :: l => ins x (isort l)
theorem ins_perm (x : Int) : ∀ l : List Int, (ins x l).Perm (x :: l)
  | [] => .refl _
  | y :: l => by
    unfold ins
    by_cases h : x ≤ y
    · simp [h]
    · simp only [h, decide_false, cond_false]
      exact ((ins_perm x l).cons y).trans (List.Perm.swap x y l)
theorem isort_perm : ∀ l : List Int, (isort l).Perm l
  | [] => .refl _
  | x :: l => (ins_perm x _).trans ((isort_perm l).cons x)
theorem ins_sorted (x : Int) : ∀ {l : List Int}, l.Pairwise (fun a b => a ≤ b) → (ins x l).Pairwise (fun a b => a ≤ b)
  | [], _ => by simp [ins]
  | y :: l, h => by
    unfold ins
    rw [List.pairwise_cons] at h
    by_cases hxy : x ≤ y
    · simp only [hxy, decide_true, cond_true, List.pairwise_cons]
      refine ⟨fun z hz => ?_, h⟩
      rcases List.mem_cons.1 hz with rfl | hz
      · exact hxy
      · exact Int.le_trans hxy (h.1 z hz)
    · simp only [hxy, decide_false, cond_false, List.pairwise_cons]
      refine ⟨fun z hz => ?_, ins_sorted x h.2⟩
      rcases List.mem_cons.1 ((ins_perm x l).mem_iff.1 hz) with rfl | hz
      · omega
      · exact h.1 z hz
theorem isort_sorted : ∀ l : List Int, (isort l).Pairwise (fun a b => a ≤ b)
  | [] => .nil
  | x :: l => ins_sorted x (isort_sorted l)
theorem isort_mergeSort {l l' : List Int} (h : l'.Perm l) : l'.mergeSort (fun x y => decide (x ≤ y)) = isort l := by
  have tr : ∀ a b c : Int, decide (a ≤ b) = true → decide (b ≤ c) = true → decide (a ≤ c) = true := fun a b c h1 h2 => by simp only [decide_eq_true_eq] at *; exact Int.le_trans h1 h2
  have to : ∀ a b : Int, (decide (a ≤ b) || decide (b ≤ a)) = true := fun a b => by simp only [Bool.or_eq_true, decide_eq_true_eq]; exact Int.le_total a b
  refine List.Perm.eq_of_pairwise (le := fun a b : Int => a ≤ b) (fun a b _ _ h1 h2 => Int.le_antisymm h1 h2) ?_ (isort_sorted l) (((List.mergeSort_perm l' _).trans h).trans (isort_perm l).symm)
  have := List.pairwise_mergeSort tr to l'
  exact this.imp (fun h => by simpa using h)

/-- The keys, if they are ints, each another, each entry older than the clock. -/
def intKeys? (clock : Nat) : List MapEntry → Option (List Int)
  | [] => some []
  | e :: es =>
    match e.key, intKeys? clock es with
    | .int .i64 x, some ks => bif Nat.blt e.born clock && !(ks.contains x) && !(es.any fun f => f.born == e.born) && decide (-9223372036854775808 ≤ x) && decide (x ≤ 9223372036854775807) then some (x :: ks) else none
    | _, _ => none
end
end Go.D

/- slices.Sorted over the keys of a map: the known call. -/
namespace Go.D
open Go

section
variable {P : Program} {σ : Sg} {m : M} {w w' : World}

/-- slices.Sorted (function S) of the iterator that maps.Keys hands back (functions K), the map's keys of type e. -/
noncomputable def sortX (S e : Nat) (K : List Nat) : CallFn := fun fn args m =>
  match fn with
  | .func f =>
    bif Nat.beq f S then
      match args with
      | [.func (.func g) a b] =>
        bif K.contains g && a.toList.isEmpty then
          match b.toList with
          | [.pointer (some ⟨B, 0, none⟩)] =>
            match m.get B with
            | .cells [.map (some r)] _ none =>
              match m.get r with
              | .map es clock =>
                match (bif Nat.ble es.length 1048576 then intKeys? clock es else none) with
                | some [] => some (.slice none 0 0, m)
                | some ks => some (.slice (some ⟨m.n, 0, none⟩) ks.length ks.length, m.push (.cells ((isort ks).map (.int .i64)) e (some 1)))
                | none => none
              | _ => none
            | _ => none
          | _ => none
        else none
      | _ => none
    else none
  | _ => none

/-- What the kit says of that call. -/
def SortOK (P : Program) (S e : Nat) (K : List Nat) : Prop :=
  (∀ args w, (callFunc S args).run P w = .ok (.enter S args) w) ∧
  ∀ g ∈ K, ∀ (B b : Nat) (w : World) (es : Array MapEntry) (clock : Nat) (ks : List Int), B < w.heap.size → w.cell? ⟨B, 0, none⟩ = some (.map (some b)) → w.heap[b]? = some (.map es clock) → MapKept.Stamped es clock → es.size ≤ 1048576 →
    es.toList.map (·.key) = ks.map (Value.int .i64) → (∀ x ∈ ks, -9223372036854775808 ≤ x ∧ x ≤ 9223372036854775807) →
    Calls P S #[.func (.func g) #[] #[.pointer (some ⟨B, 0, none⟩)]] w fun en w' => ∃ (v : Value) (ss : List Int), en = .returned v ∧ ss.Perm ks ∧
      w'.ownsRow w.heap.size e 1 v ss.length ((ss.mergeSort (fun x y => decide (x ≤ y))).map (Value.int .i64)) ∧ (v = .slice none 0 0 ↔ ss = []) ∧ Go.RowKit.Below w.heap.size w w'

theorem intKeys_spec {clock : Nat} : ∀ {es : List MapEntry} {ks : List Int}, intKeys? clock es = some ks →
    es.map (·.key) = ks.map (Value.int .i64) ∧ (∀ x ∈ ks, -9223372036854775808 ≤ x ∧ x ≤ 9223372036854775807) ∧ (∀ x ∈ es, x.born < clock) ∧ es.Pairwise (fun x y => x.born ≠ y.born) ∧ es.Pairwise (fun x y => x.key ≠ y.key)
  | [], ks, h => by
    simp only [intKeys?, Option.some.injEq] at h
    subst h
    simp
  | e :: es, ks, h => by
    unfold intKeys? at h
    split at h
    · rename_i x ks1 hk hks
      obtain ⟨h1, h2, h3, h4, h5⟩ := intKeys_spec hks
      cases hb : (Nat.blt e.born clock && !(ks1.contains x) && !(es.any fun f => f.born == e.born) && decide (-9223372036854775808 ≤ x) && decide (x ≤ 9223372036854775807)) with
      | false => rw [hb] at h; simp at h
      | true =>
        rw [hb] at h
        simp only [cond_true, Option.some.injEq] at h
        subst h
        simp only [Bool.and_eq_true, Bool.not_eq_true', decide_eq_true_eq] at hb
        obtain ⟨⟨⟨⟨b1, b2⟩, b3⟩, b4⟩, b5⟩ := hb
        rw [blt_iff] at b1
        refine ⟨by simp [hk, h1], ?_, ?_, ?_, ?_⟩
        · intro y hy
          rcases List.mem_cons.1 hy with rfl | hy
          · exact ⟨b4, b5⟩
          · exact h2 y hy
        · intro y hy
          rcases List.mem_cons.1 hy with rfl | hy
          · simpa using b1
          · exact h3 y hy
        · rw [List.pairwise_cons]
          refine ⟨fun y hy hq => ?_, h4⟩
          have : es.any (fun f => f.born == e.born) = true := List.any_eq_true.2 ⟨y, hy, by simp [hq]⟩
          rw [b3] at this; cases this
        · rw [List.pairwise_cons]
          refine ⟨fun y hy hq => ?_, h5⟩
          have hm : y.key ∈ ks1.map (Value.int .i64) := by rw [← h1]; exact List.mem_map_of_mem hy
          rw [← hq, hk] at hm
          obtain ⟨z, hz, hz2⟩ := List.mem_map.1 hm
          cases hz2
          rw [List.contains_iff_mem.2 hz] at b2
          cases b2
    · cases h

theorem entries_keys {σ : Sg} {es es' : List MapEntry} (hl : es.length = es'.length) (h : ∀ (j : Nat) e e', es[j]? = some e → es'[j]? = some e' → e'.key = e.key ∧ e'.born = e.born ∧ flat1 e.key = true ∧ VRel σ e.val e'.val) :
    es'.map (fun e => (e.key, e.born)) = es.map (fun e => (e.key, e.born)) := by
  apply List.ext_getElem?
  intro j
  simp only [List.getElem?_map]
  cases h1 : es[j]? with
  | none =>
    have := List.getElem?_eq_none_iff.1 h1
    rw [List.getElem?_eq_none (by omega)]
  | some e =>
    have hlt := (List.getElem?_eq_some_iff.1 h1).1
    have h2 : es'[j]? = some es'[j] := by simp [show j < es'.length by omega]
    obtain ⟨q1, q2, _⟩ := h j e _ h1 h2
    rw [h2]
    simp [q1, q2]
theorem pairwise_of_map {α β : Type} {f : α → β} {R : β → β → Prop} {l l' : List α} (h : l'.map f = l.map f) (hp : l.Pairwise (fun x y => R (f x) (f y))) : l'.Pairwise (fun x y => R (f x) (f y)) := by
  rw [← List.pairwise_map] at hp ⊢
  rw [h]; exact hp

theorem sortX_ok {S e : Nat} {K : List Nat} (h : SortOK P S e K) : CallOK P (sortX S e K) := by
  refine ⟨fun f args m v m' hx σ w args' hs hl => ?_, fun l args m v m' hx => by simp [sortX] at hx⟩
  unfold sortX at hx
  dsimp only at hx
  cases hf : Nat.beq f S with
  | false => rw [hf] at hx; simp at hx
  | true =>
    obtain rfl := Nat.eq_of_beq_eq_true hf
    rw [hf] at hx
    simp only [cond_true] at hx
    refine ⟨?_, h.1 args' w⟩
    refine callsIn_wide.2 ?_
    split at hx
    · rename_i g a b
      cases hg : (K.contains g && a.toList.isEmpty) with
      | false => rw [hg] at hx; simp at hx
      | true =>
        rw [hg] at hx
        simp only [cond_true] at hx
        simp only [Bool.and_eq_true, List.isEmpty_iff] at hg
        have hgK : g ∈ K := List.contains_iff_mem.1 hg.1
        split at hx
        · rename_i B hbl
          split at hx
          · rename_i r te hB
            split at hx
            · rename_i es clock hr
              -- the arguments
              obtain ⟨x', l1, hargs, hv, hl1⟩ := hl.cases
              obtain rfl := hl1.nil_eq
              obtain ⟨a', b', rfl, ha, hb⟩ := hv.func_inv
              rw [hg.2] at ha
              have ha' := ha.nil_eq
              rw [hbl] at hb
              obtain ⟨p', l2, hb2, hp, hl2⟩ := hb.cases
              obtain rfl := hl2.nil_eq
              obtain ⟨i, hi, _, rfl⟩ := hp.ptr_inv
              have eargs : args' = #[.func (.func g) #[] #[.pointer (some ⟨i.blk, 0, none⟩)]] := by
                apply Array.ext'
                rw [hargs]
                have e1 : a' = #[] := Array.ext' ha'
                have e2 : b' = #[.pointer (some ⟨i.blk, 0, none⟩)] := Array.ext' hb2
                rw [e1, e2]
              subst eargs
              -- the memory
              obtain ⟨c', hc1, hc2, hc3, hc4⟩ := hs.cells hi hB
              obtain ⟨u', hu1, hu2⟩ := hc3.get (j := 0) (u := .map (some r)) rfl
              obtain ⟨j, hj, rfl⟩ := hu2.map_inv
              have hcell : w.cell? ⟨i.blk, 0, none⟩ = some (.map (some j.blk)) := by
                simp only [World.cell?, hc1]
                rw [List.getElem?_take_of_lt (by simp)] at hu1
                simpa using hu1
              have ho := hs.obj _ _ hj
              rw [hr] at ho
              obtain ⟨_, es', he1, he2, he3⟩ := ho
              have hkb := entries_keys (es' := es'.toList) (by simpa using he2) (fun q e e' x y => he3 q e e' x (by simpa using y))
              have hkk : es'.toList.map (·.key) = es.map (·.key) := by
                have := congrArg (List.map Prod.fst) hkb
                simpa [List.map_map, Function.comp_def] using this
              have hbb : es'.toList.map (·.born) = es.map (·.born) := by
                have := congrArg (List.map Prod.snd) hkb
                simpa [List.map_map, Function.comp_def] using this
              cases hle : Nat.ble es.length 1048576 with
              | false => rw [hle] at hx; simp at hx
              | true =>
              rw [hle] at hx
              have hle := Nat.le_of_ble_eq_true hle
              simp only [cond_true] at hx
              cases hik : intKeys? clock es with
              | none => rw [hik] at hx; simp at hx
              | some ks =>
                obtain ⟨k1, k2, k3, k4, k5⟩ := intKeys_spec hik
                have hst : MapKept.Stamped es' clock := by
                  rw [MapKept.stamped_iff]
                  refine ⟨fun x hx => ?_, ?_, ?_⟩
                  · have : x.born ∈ es.map (·.born) := by rw [← hbb]; exact List.mem_map_of_mem hx
                    obtain ⟨y, hy, hy2⟩ := List.mem_map.1 this
                    rw [← hy2]; exact k3 y hy
                  · rw [hbb]
                    exact List.pairwise_map.2 k4
                  · exact pairwise_of_map (f := fun e : MapEntry => e.key) (R := fun x y => x ≠ y) hkk k5
                have hcall := h.2 g hgK i.blk j.blk w es' clock ks (hs.lt _ _ hi) hcell he1 hst (by omega) (by rw [hkk, k1]) k2
                refine hcall.mono ?_
                rintro en w' ⟨v', ss, rfl, hperm, hrow, hnil, hbel⟩
                have hkeep : ∀ B, B < w.heap.size → w'.heap[B]? = w.heap[B]? := hbel.block
                rw [hik] at hx
                have hsort := isort_mergeSort hperm
                rw [hsort] at hrow
                cases ks with
                | nil =>
                  simp only [Option.some.injEq, Prod.mk.injEq] at hx
                  obtain ⟨rfl, rfl⟩ := hx
                  have hss : ss = [] := hperm.eq_nil
                  obtain rfl := hnil.2 hss
                  exact ⟨_, σ, rfl, .flat _ rfl, Ev.kept hs hkeep hbel.size hbel.os hbel.tape hbel.output⟩
                | cons k0 ks =>
                  simp only [Option.some.injEq, Prod.mk.injEq] at hx
                  obtain ⟨rfl, rfl⟩ := hx
                  have hlen : ss.length = (k0 :: ks).length := hperm.length_eq
                  obtain ⟨hr1, hr2⟩ := hrow
                  rcases hr2 with ⟨_, h0⟩ | ⟨gb, cap, cur, rfl, hgb, hcur, hcap, _, hsz, htake⟩
                  · rw [hlen] at h0; simp at h0
                  · rw [hlen] at hr1 htake hcap ⊢
                    rw [Nat.mul_one] at hr1 htake hsz
                    have hgl : gb < w'.heap.size := (Array.getElem?_eq_some_iff.1 hcur).1
                    refine ⟨_, σ.add m.n ⟨gb, some (1, (k0 :: ks).length, cur.size)⟩, rfl, ?_, Ev.new_at hs hkeep hbel.size hgb hgl ⟨cur, hcur, ?_, ?_, ?_⟩ hbel.os hbel.tape hbel.output⟩
                    · exact .sliceG ⟨m.n, 0, none⟩ ⟨gb, some (1, (k0 :: ks).length, cur.size)⟩ _ _ _ 1 _ _ (Sg.add_same _ _) rfl rfl (.inr ⟨hcap, by simp, by simp [hsz]⟩)
                    · rw [hr1, hsz]; exact hcap
                    · rw [hr1, htake]
                      refine LRel.of_flat0 fun v hv => ?_
                      obtain ⟨x, _, rfl⟩ := List.mem_map.1 hv
                      rfl
                    · rw [hr1]
                      exact ⟨rfl, by omega, by simp⟩
            · cases hx
          · cases hx
        · cases hx
    · cases hx
end
end Go.D
