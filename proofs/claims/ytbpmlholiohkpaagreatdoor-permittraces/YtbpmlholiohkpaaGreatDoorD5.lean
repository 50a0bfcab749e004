/- A region that does not draw. A region that draws its order: the order of its operations. A region that draws its order: whatever the order, it comes to what the text's order comes to. A region that draws its order: a step of whatever order; the region. A region that draws its order: the whole. -/
import Derived.Test.YtbpmlholiohkpaaGreatDoorD4
/- A region that does not draw. -/
namespace Go.D
open Go

section
variable {E : Env} {P : Program} {σ : Sg} {m m' : M} {w : World}

theorem VRel.to_bool {v : Value} {b : Bool} (h : VRel σ v (.bool b)) : v = .bool b := by
  cases h; rfl
theorem wanted_sound {ops : Array Oper} {T : Tr Value} {a : Act} {o : Oper}
    (hT : ∀ j want d, o.guard = some (j, want) → (ops[j]?).bind (·.dst) = some d → d < a.tmps.size ∧ VRel σ (at? T d) (a.eval (.tmp d))) :
    wanted? ops T o = Region.wanted o (yielded ops a.tmps) := by
  unfold wanted? Region.wanted
  cases hg : o.guard with
  | none => rfl
  | some p =>
    obtain ⟨j, want⟩ := p
    dsimp only
    unfold yielded
    simp only [Array.getElem?_toList]
    cases hd : (ops[j]?).bind (·.dst) with
    | none => rfl
    | some d =>
      obtain ⟨h1, h2⟩ := hT j want d hg hd
      have he : a.tmps[d]? = some (a.eval (.tmp d)) := by simp [Act.eval, h1]
      simp only [Option.bind_some, he]
      generalize a.eval (.tmp d) = u at h2
      cases hv : at? T d with
      | bool b =>
        rw [hv] at h2
        rw [h2.bool]
        simp
      | _ =>
        rw [hv] at h2
        cases u with
        | bool b => have := h2.to_bool; cases this
        | _ => simp

theorem okOper_dst {nt G : Nat} {o : Oper} (h : okOper nt G o = true) : ∀ d, o.dst = some d → d < nt := by
  intro d hd
  unfold okOper at h
  rw [hd] at h
  simp only [Bool.and_eq_true] at h
  have := h.2
  rw [blt_iff] at this
  simpa using this
theorem okOper_ops {nt G : Nat} {o : Oper} (h : okOper nt G o = true) : ∀ x ∈ o.op.operands.toList, okOpnd nt G x = true := by
  intro x hx
  unfold okOper at h
  simp only [Bool.and_eq_true] at h
  exact List.all_eq_true.1 h.1 x hx
theorem okOpnd_tmp {nt G t : Nat} (h : okOpnd nt G (.tmp t) = true) : t < nt := by
  have h : Nat.blt t nt = true := h
  rw [blt_iff] at h; simpa using h
theorem FrRel.opnd {T : Tr Value} {a : Act} {nt : Nat} (h : FrRel σ T a nt) (hs : Sim P σ m w) {x : Operand} (hx : okOpnd nt P.globals.size x = true) : VRel σ (ev T x) (a.eval x) :=
  ev_sound hs (fun t ht => by subst ht; exact h.2 t (okOpnd_tmp hx)) hx
theorem FrRel.wanted {ops : Array Oper} {T : Tr Value} {a : Act} {nt : Nat} (h : FrRel σ T a nt) (hok : ∀ o ∈ ops.toList, okOper nt P.globals.size o = true) (o : Oper) : wanted? ops T o = Region.wanted o (yielded ops a.tmps) := by
  refine wanted_sound (σ := σ) fun j want d _ hd => ?_
  simp only [Option.bind_eq_some_iff] at hd
  obtain ⟨o', ho', hd'⟩ := hd
  have hlt := okOper_dst (hok o' (by simpa using Array.mem_of_getElem? ho')) d hd'
  exact ⟨by rw [h.1]; exact hlt, h.2 d hlt⟩

theorem ops_sound (hE : E.OK P) {call : CallFn} (hcall : CallOK P call) {nt : Nat} {ops : Array Oper} (hok : ∀ o ∈ ops.toList, okOper nt P.globals.size o = true) {ro : Option Nat} {n : Nat} {Q : Exit → Act → World → Prop} {ds : List Deferred} :
    ∀ (l : List Oper), (∀ o ∈ l, okOper nt P.globals.size o = true) → ∀ (fr fr' : Fr), ops? E call ops l fr = some fr' → ∀ (σ : Sg) (a : Act) (w : World), FrRel σ fr.T a nt → a.defers = ds → Sim P σ fr.m w →
      (∀ σ' a' w', FrRel σ' fr'.T a' nt → a'.defers = ds → Ev P σ fr.m w σ' fr'.m w' → Q .normal a' w') → wpListIn (wideAt ro) n P ops Q l a w
  | [], _, fr, fr', h, σ, a, w, hf, hd, hs, k => by
    simp only [ops?_nil, Option.some.injEq] at h
    subst h
    exact k σ a w hf hd (Ev.refl hs)
  | o :: l, hl, fr, fr', h, σ, a, w, hf, hd, hs, k => by
    rw [ops?_cons] at h
    have hw := hf.wanted hok o
    have hdst := okOper_dst (hl o List.mem_cons_self)
    have hl' := fun o ho => hl o (List.mem_cons_of_mem _ ho)
    unfold wpListIn
    rw [← hw]
    cases hwd : wanted? ops fr.T o with
    | false =>
      rw [hwd] at h
      simp only [cond_false] at h
      rw [if_neg (by simp)]
      refine ⟨fun _ _ => trivial, ?_⟩
      refine ops_sound hE hcall hok l hl' _ _ h σ (a.put o.dst undef) w (hf.put hdst VRel.undef) ?_ hs k
      rw [← hd]; cases o.dst <;> rfl
    | true =>
      rw [hwd] at h
      simp only [cond_true] at h
      rw [if_pos rfl]
      cases ho : op? o.op E call fr.T fr.m with
      | none => rw [ho] at h; cases h
      | some p =>
        obtain ⟨v, m1⟩ := p
        rw [ho] at h
        simp only at h
        refine ⟨fun _ _ => trivial, ?_⟩
        have hres := op_sound hE hcall hs ho (a := a) (fun x hx => hf.opnd hs (okOper_ops (hl o List.mem_cons_self) x hx))
        rw [Oper.semAt_eq _ _ _ (fun c hc => by rw [hc] at ho; simp [op?] at ho)]
        refine hres.2 ro n o a _ Q fun σ' w' v' hv he => ?_
        refine ops_sound hE hcall hok l hl' _ _ h σ' (a.put o.dst v') w' ((hf.mono he.ext).put hdst hv) ?_ he.sim fun σ2 a2 w2 hf2 hd2 he2 => k σ2 a2 w2 hf2 hd2 (he.trans he2)
        rw [← hd]; cases o.dst <;> rfl
end
end Go.D

/- A region that draws its order: the order of its operations. -/
namespace Go.D
open Go

/-- Operation i is ordered ahead of operation j. -/
inductive Reach (ops : Array Oper) : Nat → Nat → Prop where
  | one {j : Nat} {o : Oper} {e : Edge} (ho : ops[j]? = some o) (he : e ∈ o.after) (hb : Region.binds .any e = true) : Reach ops e.on j
  | step {i j : Nat} {o : Oper} {e : Edge} (ho : ops[j]? = some o) (he : e ∈ o.after) (hb : Region.binds .any e = true) (h : Reach ops i e.on) : Reach ops i j

theorem testBit_fold {acc : Array Nat} {i : Nat} : ∀ (l : List Edge) (s : Nat), (l.foldl (fun s e => if Region.binds .any e then s ||| 2 ^ e.on ||| acc.getD e.on 0 else s) s).testBit i = true →
    s.testBit i = true ∨ ∃ e ∈ l, Region.binds .any e = true ∧ (i = e.on ∨ (acc.getD e.on 0).testBit i = true)
  | [], s, h => .inl h
  | e :: l, s, h => by
    rw [List.foldl_cons] at h
    rcases testBit_fold l _ h with h1 | ⟨e', h1, h2, h3⟩
    · by_cases hb : Region.binds .any e = true
      · rw [if_pos hb] at h1
        simp only [Nat.testBit_or, Bool.or_eq_true] at h1
        rcases h1 with (h1 | h1) | h1
        · exact .inl h1
        · rw [Nat.testBit_two_pow] at h1
          exact .inr ⟨e, List.mem_cons_self, hb, .inl (by simpa using (of_decide_eq_true h1).symm)⟩
        · exact .inr ⟨e, List.mem_cons_self, hb, .inr h1⟩
      · rw [if_neg hb] at h1
        exact .inl h1
    · exact .inr ⟨e', List.mem_cons_of_mem _ h1, h2, h3⟩
theorem before_fold (ops : Array Oper) : ∀ (l pre : List Oper) (acc : Array Nat), ops.toList = pre ++ l → acc.size = pre.length → (∀ i j, (acc.getD j 0).testBit i = true → Reach ops i j) →
    ∀ i j, ((l.foldl (fun acc o => acc.push (o.after.foldl (fun s e => if Region.binds .any e then s ||| 2 ^ e.on ||| acc.getD e.on 0 else s) 0)) acc).getD j 0).testBit i = true → Reach ops i j
  | [], pre, acc, _, _, h, i, j, hh => h i j hh
  | o :: l, pre, acc, hp, hs, h, i, j, hh => by
    rw [List.foldl_cons] at hh
    refine before_fold ops l (pre ++ [o]) _ (by simp [hp]) (by simp [hs]) ?_ i j hh
    intro i j hij
    have ho : ops[pre.length]? = some o := by
      rw [← Array.getElem?_toList, hp, List.getElem?_append_right (Nat.le_refl _)]
      simp
    rcases Nat.lt_trichotomy j acc.size with hj | hj | hj
    · refine h i j ?_
      rw [Array.getD_eq_getD_getElem?, Array.getElem?_push_lt hj] at hij
      rw [Array.getD_eq_getD_getElem?]
      simpa [hj] using hij
    · subst hj
      rw [Array.getD_eq_getD_getElem?, Array.getElem?_push_size] at hij
      simp only [Option.getD_some] at hij
      rw [← Array.foldl_toList] at hij
      rcases testBit_fold o.after.toList 0 hij with h1 | ⟨e, h1, h2, h3⟩
      · simp at h1
      · rw [hs]
        rcases h3 with rfl | h3
        · exact .one ho (by simpa using h1) h2
        · exact .step ho (by simpa using h1) h2 (h _ _ h3)
    · rw [Array.getD_eq_getD_getElem?, Array.getElem?_eq_none (by simp; omega)] at hij
      simp at hij
theorem before_reach {ops : Array Oper} {i j : Nat} (h : ((Region.before ops).getD j 0).testBit i = true) : Reach ops i j := by
  unfold Region.before at h
  rw [← Array.foldl_toList] at h
  exact before_fold ops ops.toList [] #[] (by simp) rfl (by intro i j h; simp at h) i j h

/-- A set of operations with whom all that is ahead of one of them. -/
def Closed (ops : Array Oper) (L : Nat → Prop) : Prop := ∀ j o, ops[j]? = some o → L j → ∀ e ∈ o.after, Region.binds .any e = true → L e.on
theorem Reach.listed {ops : Array Oper} {L : Nat → Prop} (hc : Closed ops L) {i j : Nat} (h : Reach ops i j) : (∀ o, ops[j]? = some o → ∀ e ∈ o.after, Region.binds .any e = true → L e.on) → L i := by
  induction h with
  | one ho he hb => exact fun h => h _ ho _ he hb
  | step ho he hb _ ih => exact fun h => ih fun o' ho' e' he' hb' => hc _ o' ho' (h _ ho _ he hb) e' he' hb'
theorem Reach.of_listed {ops : Array Oper} {L : Nat → Prop} (hc : Closed ops L) {i j : Nat} (h : Reach ops i j) (hj : L j) : L i := h.listed hc fun o ho e he hb => hc j o ho hj e he hb
theorem Reach.lt {ops : Array Oper} (hl : ∀ j o, ops[j]? = some o → ∀ e ∈ o.after, Region.binds .any e = true → e.on < j) {i j : Nat} (h : Reach ops i j) : i < j := by
  induction h with
  | one ho he hb => exact hl _ _ ho _ he hb
  | step ho he hb _ ih => exact Nat.lt_trans ih (hl _ _ ho _ he hb)

structure OrderOK (ops : Array Oper) : Prop where
  lt : ∀ j o, ops[j]? = some o → ∀ e ∈ o.after, Region.binds .any e = true → e.on < j
  apart : ∀ i j o' o, ops[i]? = some o' → ops[j]? = some o → i < j → Reach ops i j ∨ ((∀ d, o.dst = some d → d ∉ namesOf ops o') ∧ ∀ d, o'.dst = some d → d ∉ namesOf ops o)
theorem okDraw_order {ops : Array Oper} (h : okDraw ops = true) : OrderOK ops := by
  unfold okDraw at h
  have key : ∀ j o, ops[j]? = some o → _ := fun j o ho => List.all_eq_true.1 h (o, j) (by rw [List.mem_zipIdx_iff_getElem?]; simpa using ho)
  simp only [Bool.and_eq_true] at key
  refine ⟨fun j o ho e he hb => ?_, fun i j o' o hi hj hij => ?_⟩
  · have := List.all_eq_true.1 (key j o ho).1 e (by simpa using he)
    rw [hb] at this
    simp only [Bool.not_true, Bool.false_or] at this
    rw [blt_iff] at this
    simpa using this
  · have := List.all_eq_true.1 (key j o hj).2 (o', i) (by rw [List.mem_zipIdx_iff_getElem?]; simpa using hi)
    dsimp only at this
    rw [blt_iff] at this
    simp only [hij, decide_true, Bool.not_true, Bool.false_or, Bool.or_eq_true, Bool.and_eq_true] at this
    rcases this with h1 | ⟨h1, h2⟩
    · exact .inl (before_reach h1)
    · refine .inr ⟨fun d hd => ?_, fun d hd => ?_⟩
      · rw [hd] at h1; simpa using h1
      · rw [hd] at h2; simpa using h2
theorem barrier_order {ops : Array Oper} {j : Nat} (h : barrier ops j = true) : ∀ i o, ops[i]? = some o → i = j ∨ pureOp o.op = true ∨ Reach ops i j ∨ Reach ops j i := by
  intro i o ho
  unfold barrier at h
  have := List.all_eq_true.1 h (o, i) (by rw [List.mem_zipIdx_iff_getElem?]; simpa using ho)
  simp only [Bool.or_eq_true, beq_iff_eq] at this
  rcases this with ((h1 | h1) | h1) | h1
  · exact .inl h1
  · exact .inr (.inl h1)
  · exact .inr (.inr (.inl (before_reach h1)))
  · exact .inr (.inr (.inr (before_reach h1)))

section
variable {E : Env} {P : Program} {σ : Sg} {m m' : M} {w : World}

/-- An operation that only looks at temporaries. -/
theorem pure_any {op : Op} {call : CallFn} {T : Tr Value} {v : Value} (hp : pureOp op = true) (h : op? op E call T m = some (v, m')) : m' = m := by
  cases op <;> simp [pureOp] at hp <;> simp only [op?] at h
  case move => cases h; rfl
  case assign => cases h; rfl
  case pick => unfold opPick at h; split at h <;> cases h; rfl
  case build => unfold opBuild at h; split at h <;> cases h; rfl
  case nilCheck => unfold opNilCheck at h; split at h <;> cases h <;> rfl
  case binOp => unfold opBin at h; split at h <;> cases h; rfl
  case unOp => unfold opUn at h; split at h <;> cases h; rfl
  case convert => unfold opConv at h; split at h <;> cases h; rfl
  case makeFunc => unfold opMakeFunc at h; split at h <;> cases h; rfl
  case fieldAddr => unfold opFieldAddr at h; split at h <;> cases h; rfl
  case field => unfold opField at h; split at h <;> cases h; rfl
  case indexAddr => unfold opIndexAddr at h; split at h <;> cases h; rfl
  case index => unfold opIndex at h; split at h <;> cases h; rfl
  case extract =>
    unfold opExtract at h
    split at h
    · split at h <;> cases h; rfl
    · cases h

/-- What such an operation gives, in whatever memory. -/
theorem pure_sound (hE : E.OK P) {call : CallFn} {T : Tr Value} {a : Act} {o : Oper} {v : Value} (hp : pureOp o.op = true) (h : op? o.op E call T m = some (v, m'))
    (hT : ∀ x ∈ o.op.operands.toList, VRel σ (ev T x) (a.eval x)) : ∃ v', (execOp a.eval o).run P w = .ok (.value v') w ∧ VRel σ v v' := by
  have val : ∀ {s : Sem Value} {v' : Value}, s.run P w = .ok v' w → (do let x ← s; pure (Next.value x) : Sem Next).run P w = .ok (.value v') w := by
    intro s v' hs
    rw [Sem.run_bind, hs]; rfl
  unfold execOp
  cases ho : o.op with
  | move x =>
    rw [ho] at h hT
    cases h
    exact ⟨_, rfl, hT x (by simp [Op.operands])⟩
  | assign x =>
    rw [ho] at h hT
    cases h
    exact ⟨_, rfl, hT x (by simp [Op.operands])⟩
  | pick c x y =>
    rw [ho] at h hT
    dsimp only
    simp only [op?, opPick] at h
    split at h
    · rename_i t hc
      simp only [Option.some.injEq, Prod.mk.injEq] at h
      obtain ⟨rfl, rfl⟩ := h
      have h1 := hT c (by simp [Op.operands])
      rw [hc] at h1
      rw [h1.bool]
      refine ⟨_, rfl, ?_⟩
      cases t
      · exact hT y (by simp [Op.operands])
      · exact hT x (by simp [Op.operands])
    · cases h
  | build t ps =>
    rw [ho] at h hT
    dsimp only
    simp only [op?, opBuild] at h
    split at h
    · rename_i z hz
      cases h
      obtain ⟨v', h1, h2⟩ := build_sound (w := w) hE (T := ev T) (A := a.eval) (fun p hp => hT p.2 (by simp only [Op.operands]; exact List.mem_map_of_mem hp)) hz
      exact ⟨_, val h1, h2⟩
    · cases h
  | nilCheck x =>
    rw [ho] at h hT
    dsimp only
    have h1 := hT x (by simp [Op.operands])
    simp only [op?, opNilCheck] at h
    split at h
    · rename_i ad hx
      cases h
      rw [hx] at h1
      have h2 := h1
      obtain ⟨i, hi, _, he⟩ := h1.ptr_inv
      rw [he] at h2 ⊢
      exact ⟨_, rfl, h2⟩
    · rename_i g a1 b1 hx
      cases h
      rw [hx] at h1
      have h2 := h1
      obtain ⟨a', b', he, _⟩ := h1.func_inv
      rw [he] at h2 ⊢
      exact ⟨_, rfl, h2⟩
    · cases h
  | binOp op t x y yt =>
    rw [ho] at h hT
    dsimp only
    simp only [op?, opBin] at h
    split at h
    · rename_i z hz
      cases h
      obtain ⟨q1, q2⟩ := bin_sound (w := w) hE hz (hT x (by simp [Op.operands])) (hT y (by simp [Op.operands])) x y
      exact ⟨_, val q1, .flat _ q2⟩
    · cases h
  | unOp op t x =>
    rw [ho] at h hT
    dsimp only
    simp only [op?, opUn] at h
    split at h
    · rename_i z hz
      cases h
      obtain ⟨q1, q2⟩ := un_sound (P := P) (w := w) hz (hT x (by simp [Op.operands]))
      exact ⟨_, val q1, .flat _ q2⟩
    · cases h
  | convert s d x =>
    rw [ho] at h hT
    dsimp only
    simp only [op?, opConv] at h
    split at h
    · rename_i z hz
      cases h
      obtain ⟨q1, q2⟩ := conv_sound (P := P) (w := w) hE hz (hT x (by simp [Op.operands]))
      exact ⟨_, val q1, .flat _ q2⟩
    · cases h
  | makeFunc f x y =>
    rw [ho] at h hT
    dsimp only
    simp only [op?, opMakeFunc] at h
    split at h
    · rename_i g
      cases h
      have e1 : LRel σ (x.toList.map (ev T)) (x.toList.map a.eval) := evs_sound _ (fun o hx => hT o (by simp [Op.operands]; exact .inl (by simpa using hx)))
      have e2 : LRel σ (y.toList.map (ev T)) (y.toList.map a.eval) := evs_sound _ (fun o hx => hT o (by simp [Op.operands]; exact .inr (by simpa using hx)))
      refine ⟨_, rfl, ?_⟩
      refine .func g _ _ _ _ (by simp) (by simp) (fun j u u' p q => e1.2 j u u' (by simpa using p) (by simpa using q)) (fun j u u' p q => e2.2 j u u' (by simpa using p) (by simpa using q))
    · cases h
  | fieldAddr s x f =>
    rw [ho] at h hT
    dsimp only
    simp only [op?, opFieldAddr] at h
    split at h
    · rename_i z hz
      cases h
      obtain ⟨v', q1, q2⟩ := fieldAddr_sound (w := w) hE hz (hT x (by simp [Op.operands]))
      exact ⟨_, val q1, q2⟩
    · cases h
  | field t x f =>
    rw [ho] at h hT
    dsimp only
    simp only [op?, opField] at h
    split at h
    · rename_i z hz
      cases h
      obtain ⟨v', q1, q2⟩ := field_sound (w := w) hE hz (hT x (by simp [Op.operands]))
      exact ⟨_, val q1, q2⟩
    · cases h
  | indexAddr t x y =>
    rw [ho] at h hT
    dsimp only
    simp only [op?, opIndexAddr] at h
    split at h
    · rename_i z hz
      cases h
      obtain ⟨v', q1, q2⟩ := indexAddr_sound (w := w) hE hz (hT x (by simp [Op.operands])) (hT y (by simp [Op.operands]))
      exact ⟨_, val q1, q2⟩
    · cases h
  | index t x y =>
    rw [ho] at h hT
    dsimp only
    simp only [op?, opIndex] at h
    split at h
    · rename_i z hz
      cases h
      obtain ⟨v', q1, q2⟩ := index_sound (w := w) hE hz (hT x (by simp [Op.operands])) (hT y (by simp [Op.operands]))
      exact ⟨_, val q1, q2⟩
    · cases h
  | extract x i =>
    rw [ho] at h hT
    dsimp only
    simp only [op?, opExtract] at h
    split at h
    · rename_i vs hx
      split at h
      · rename_i z hz
        cases h
        have h1 := hT x (by simp [Op.operands])
        rw [hx] at h1
        obtain ⟨vs', he, hl⟩ := h1.tuple_inv
        obtain ⟨u', hu, hr⟩ := hl.get hz
        refine ⟨u', val ?_, hr⟩
        rw [he]
        have : vs'[i]? = some u' := by simpa using hu
        simp [Instr.extract, this]
      · cases h
    · cases h
  | _ => rw [ho] at hp; simp [pureOp] at hp

/-- One step of a region that draws. -/
def DStep (E : Env) (call : CallFn) (ops : Array Oper) (fr : Fr) (o : Oper) (j : Nat) (fr' : Fr) : Prop :=
  (wanted? ops fr.T o = false ∧ fr' = { fr with T := put fr.T o.dst undef }) ∨
  (wanted? ops fr.T o = true ∧ ∃ v m, op? o.op E call fr.T { fr.m with low := fr.m.n } = some (v, m) ∧ (fr.m.n ≤ m.low ∨ barrier ops j = true) ∧
    fr' = { T := put fr.T o.dst v, m := { m with low := min fr.m.low m.low } })
theorem draw_trace {call : CallFn} {ops : Array Oper} : ∀ (l : List Oper) (j : Nat) (fr fr' : Fr), draw? E call ops l j fr = some fr' →
    ∃ tr : Nat → Fr, tr j = fr ∧ tr (j + l.length) = fr' ∧ ∀ i o, l[i]? = some o → DStep E call ops (tr (j + i)) o (j + i) (tr (j + i + 1))
  | [], j, fr, fr', h => by
    simp only [draw?_nil, Option.some.injEq] at h
    subst h
    exact ⟨fun _ => fr, rfl, rfl, fun i o h => by simp at h⟩
  | o :: l, j, fr, fr', h => by
    have key : ∀ fr1, DStep E call ops fr o j fr1 → draw? E call ops l (j + 1) fr1 = some fr' →
        ∃ tr : Nat → Fr, tr j = fr ∧ tr (j + (o :: l).length) = fr' ∧ ∀ i o', (o :: l)[i]? = some o' → DStep E call ops (tr (j + i)) o' (j + i) (tr (j + i + 1)) := by
      intro fr1 h1 h2
      obtain ⟨tr, t1, t2, t3⟩ := draw_trace l (j + 1) fr1 fr' h2
      refine ⟨fun k => if k = j then fr else tr k, by simp, ?_, ?_⟩
      · simp only [List.length_cons]
        rw [if_neg (by omega), ← t2]
        congr 1; omega
      · intro i o' hi
        cases i with
        | zero =>
          simp only [List.getElem?_cons_zero, Option.some.injEq] at hi
          subst hi
          simp only [Nat.add_zero, if_true]
          rw [if_neg (by omega), t1]
          exact h1
        | succ i =>
          have := t3 i o' (by simpa using hi)
          simp only
          rw [if_neg (by omega), if_neg (by omega)]
          have e : j + 1 + i = j + (i + 1) := by omega
          rw [e] at this
          exact this
    rw [draw?_cons] at h
    cases hw : wanted? ops fr.T o with
    | false =>
      rw [hw] at h
      exact key _ (.inl ⟨hw, rfl⟩) h
    | true =>
      rw [hw] at h
      simp only [cond_true] at h
      cases ho : op? o.op E call fr.T { fr.m with low := fr.m.n } with
      | none => rw [ho] at h; cases h
      | some p =>
        obtain ⟨v, m⟩ := p
        rw [ho] at h
        simp only at h
        cases hb : (Nat.ble fr.m.n m.low || barrier ops j) with
        | false => rw [hb] at h; simp at h
        | true =>
          rw [hb] at h
          simp only [cond_true] at h
          refine key _ (.inr ⟨hw, v, m, ho, ?_, rfl⟩) h
          simp only [Bool.or_eq_true] at hb
          exact hb.imp Nat.le_of_ble_eq_true id
end
end Go.D

/- A region that draws its order: whatever the order, it comes to what the text's order comes to. -/
namespace Go.D
open Go

/-- The blocks below n. -/
def Sg.cut (σ : Sg) (n : Nat) : Sg := fun b => if b < n then σ b else none
theorem Sg.cut_some {σ : Sg} {n b : Nat} {i : BI} : (σ.cut n) b = some i ↔ b < n ∧ σ b = some i := by
  unfold Sg.cut
  by_cases h : b < n <;> simp [h]
theorem Sg.cut_le {σ τ : Sg} {n k : Nat} (h : σ.le τ) (hn : n ≤ k) : (σ.cut n).le (τ.cut k) := by
  intro b i hb
  rw [Sg.cut_some] at hb ⊢
  exact ⟨by omega, h b i hb.2⟩

section
variable {E : Env} {P : Program} {call : CallFn} {ops : Array Oper} {nt : Nat} {tr : Nat → Fr}

structure Ctx (E : Env) (P : Program) (call : CallFn) (ops : Array Oper) (nt : Nat) (tr : Nat → Fr) : Prop where
  hE : E.OK P
  hcall : CallOK P call
  ord : OrderOK ops
  ok : ∀ o ∈ ops.toList, okOper nt P.globals.size o = true
  step : ∀ j o, ops[j]? = some o → DStep E call ops (tr j) o j (tr (j + 1))
  ghost : ∀ j, j ≤ ops.size → ∃ σ a w, Sim P σ (tr j).m w ∧ FrRel σ (tr j).T a nt

theorem Sim.low {σ : Sg} {m : M} {w : World} (h : Sim P σ m w) (x : Nat) : Sim P σ { m with low := x } w := ⟨h.dom, h.obj, h.lt, h.inj, h.glob⟩

theorem ghost_all (hE : E.OK P) (hcall : CallOK P call) (hok : ∀ o ∈ ops.toList, okOper nt P.globals.size o = true)
    (hstep : ∀ j o, ops[j]? = some o → DStep E call ops (tr j) o j (tr (j + 1))) {σ : Sg} {a : Act} {w : World} (hs : Sim P σ (tr 0).m w) (hf : FrRel σ (tr 0).T a nt) :
    ∀ j, j ≤ ops.size → ∃ σ a w, Sim P σ (tr j).m w ∧ FrRel σ (tr j).T a nt
  | 0, _ => ⟨σ, a, w, hs, hf⟩
  | j + 1, hj => by
    obtain ⟨σ1, a1, w1, h1, h2⟩ := ghost_all hE hcall hok hstep hs hf j (by omega)
    have ho : ops[j]? = some ops[j] := by simp [show j < ops.size by omega]
    have hokj := hok ops[j] (by simp)
    rcases hstep j _ ho with ⟨_, h⟩ | ⟨_, v, m, hop, _, h⟩
    · rw [h]
      exact ⟨σ1, a1.put ops[j].dst undef, w1, h1, h2.put (okOper_dst hokj) VRel.undef⟩
    · rw [h]
      obtain ⟨σ', w', v', hv, he⟩ := (op_sound hE hcall (h1.low (tr j).m.n) hop (a := a1) (fun x hx => h2.opnd h1 (okOper_ops hokj x hx))).1
      exact ⟨σ', a1.put ops[j].dst v', w', he.sim.low _, (h2.mono he.ext).put (okOper_dst hokj) hv⟩

def Bar (E : Env) (call : CallFn) (ops : Array Oper) (tr : Nat → Fr) (j : Nat) : Prop :=
  ∃ o v m, ops[j]? = some o ∧ wanted? ops (tr j).T o = true ∧ op? o.op E call (tr j).T { (tr j).m with low := (tr j).m.n } = some (v, m) ∧ ¬ (tr j).m.n ≤ m.low

theorem Ctx.fact (c : Ctx E P call ops nt tr) {j : Nat} {o : Oper} (ho : ops[j]? = some o) : (tr j).m.n ≤ (tr (j + 1)).m.n ∧ (tr (j + 1)).m.low ≤ (tr j).m.low ∧
    (∀ b, b < (tr (j + 1)).m.low → b < (tr j).m.n → (tr (j + 1)).m.get b = (tr j).m.get b) ∧
    (¬ Bar E call ops tr j → ∀ b, b < (tr j).m.n → (tr (j + 1)).m.get b = (tr j).m.get b) := by
  have hlt : j < ops.size := (Array.getElem?_eq_some_iff.1 ho).1
  have hokj := c.ok o (by simpa using Array.mem_of_getElem? ho)
  rcases c.step j o ho with ⟨_, h⟩ | ⟨hw, v, m, hop, hb, h⟩
  · rw [h]
    exact ⟨Nat.le_refl _, Nat.le_refl _, fun _ _ _ => rfl, fun _ _ _ => rfl⟩
  · obtain ⟨σ1, a1, w1, h1, h2⟩ := c.ghost j (by omega)
    obtain ⟨σ', w', v', hv, he⟩ := (op_sound c.hE c.hcall (h1.low (tr j).m.n) hop (a := a1) (fun x hx => h2.opnd h1 (okOper_ops hokj x hx))).1
    have hn := he.nle
    have ha := he.abs
    rw [h]
    refine ⟨hn, Nat.min_le_left _ _, fun b hb hbn => ha b (by simp only at hb; omega) hbn, fun hnb b hbn => ha b ?_ hbn⟩
    have : (tr j).m.n ≤ m.low := by
      refine Classical.byContradiction fun hc => hnb ⟨o, v, m, ho, hw, hop, hc⟩
    omega
theorem Ctx.fact_pure (c : Ctx E P call ops nt tr) {j : Nat} {o : Oper} (ho : ops[j]? = some o) (hp : pureOp o.op = true) : (tr (j + 1)).m.n = (tr j).m.n ∧ ¬ Bar E call ops tr j := by
  constructor
  · rcases c.step j o ho with ⟨_, h⟩ | ⟨hw, v, m, hop, hb, h⟩
    · rw [h]
    · rw [h, pure_any hp hop]
  · rintro ⟨o', v, m, ho', _, hop, hn⟩
    rw [ho] at ho'
    cases ho'
    rw [pure_any hp hop] at hn
    exact hn (Nat.le_refl _)
theorem Ctx.bar (c : Ctx E P call ops nt tr) {j : Nat} (h : Bar E call ops tr j) : barrier ops j = true ∧ j < ops.size := by
  obtain ⟨o, v, m, ho, hw, hop, hn⟩ := h
  refine ⟨?_, (Array.getElem?_eq_some_iff.1 ho).1⟩
  rcases c.step j o ho with ⟨h0, _⟩ | ⟨_, v', m', hop', hb, _⟩
  · rw [hw] at h0; cases h0
  · rw [hop] at hop'
    cases hop'
    exact hb.resolve_left hn
theorem at_op {j : Nat} (h : j < ops.size) : ∃ o, ops[j]? = some o := ⟨ops[j], by simp [h]⟩
theorem Ctx.mono (c : Ctx E P call ops nt tr) {i : Nat} : ∀ k, i ≤ k → k ≤ ops.size → (tr i).m.n ≤ (tr k).m.n ∧ (tr k).m.low ≤ (tr i).m.low
  | 0, h, _ => by
    obtain rfl : i = 0 := by omega
    exact ⟨Nat.le_refl _, Nat.le_refl _⟩
  | k + 1, h, hk => by
    by_cases hik : i = k + 1
    · subst hik; exact ⟨Nat.le_refl _, Nat.le_refl _⟩
    · obtain ⟨h1, h2⟩ := c.mono (i := i) k (by omega) (by omega)
      obtain ⟨o, ho⟩ := at_op (ops := ops) (show k < ops.size by omega)
      obtain ⟨h3, h4, _⟩ := c.fact ho
      omega
theorem Ctx.chain_get (c : Ctx E P call ops nt tr) {i : Nat} : ∀ k, i ≤ k → k ≤ ops.size → (∀ b, i ≤ b → b < k → ¬ Bar E call ops tr b) → ∀ x, x < (tr i).m.n → (tr k).m.get x = (tr i).m.get x
  | 0, h, _, _, x, _ => by
    obtain rfl : i = 0 := by omega
    rfl
  | k + 1, h, hk, hb, x, hx => by
    by_cases hik : i = k + 1
    · subst hik; rfl
    · obtain ⟨o, ho⟩ := at_op (ops := ops) (show k < ops.size by omega)
      have h1 := (c.mono k (show i ≤ k by omega) (by omega)).1
      rw [(c.fact ho).2.2.2 (hb k (show i ≤ k by omega) (Nat.lt_succ_self k)) x (Nat.lt_of_lt_of_le hx h1)]
      exact c.chain_get k (by omega) (by omega) (fun b h1 h2 => hb b h1 (by omega)) x hx
theorem Ctx.abs (c : Ctx E P call ops nt tr) : ∀ k, k ≤ ops.size → ∀ x, x < (tr k).m.low → x < (tr 0).m.n → (tr k).m.get x = (tr 0).m.get x
  | 0, _, _, _, _ => rfl
  | k + 1, hk, x, hx, hn => by
    obtain ⟨o, ho⟩ := at_op (ops := ops) (show k < ops.size by omega)
    have h1 := (c.mono (i := 0) k (by omega) (by omega)).1
    obtain ⟨_, h2, h3, _⟩ := c.fact ho
    rw [h3 x hx (by omega)]
    exact c.abs k (by omega) x (by omega) hn
theorem put_ne (T : Tr Value) {dst : Option Tmp} {t : Tmp} (h : dst ≠ some t) (v : Value) : at? (put T dst v) t = at? T t := by
  cases dst with
  | none => rfl
  | some d =>
    rw [at_put, if_neg (fun e => h (by rw [e]))]
theorem Ctx.chain_T (c : Ctx E P call ops nt tr) {i t : Nat} : ∀ k, i ≤ k → k ≤ ops.size → (∀ j o, i ≤ j → j < k → ops[j]? = some o → o.dst ≠ some t) → at? (tr k).T t = at? (tr i).T t
  | 0, h, _, _ => by
    obtain rfl : i = 0 := by omega
    rfl
  | k + 1, h, hk, hb => by
    by_cases hik : i = k + 1
    · subst hik; rfl
    · obtain ⟨o, ho⟩ := at_op (ops := ops) (show k < ops.size by omega)
      have hne := hb k o (by omega) (by omega) ho
      have ih := c.chain_T k (by omega) (by omega) (fun j o h1 h2 => hb j o h1 (by omega))
      rw [← ih]
      rcases c.step k o ho with ⟨_, h⟩ | ⟨_, v, m, _, _, h⟩
      · rw [h]; exact put_ne _ hne _
      · rw [h]; exact put_ne _ hne _

/-- What holds when the operations of L have been carried out, in whatever order. -/
structure Inv (E : Env) (P : Program) (call : CallFn) (ops : Array Oper) (nt : Nat) (tr : Nat → Fr) (σ0 : Sg) (w0 : World) (ds : List Deferred) (L : Nat → Prop) (σ : Sg) (a : Act) (w : World) : Prop where
  lt : ∀ i, L i → i < ops.size
  closed : Closed ops L
  tsz : a.tmps.size = nt
  defs : a.defers = ds
  tmp : ∀ t, t < nt → ∃ k, k ≤ ops.size ∧ VRel (σ.cut (tr k).m.n) (at? (tr k).T t) (a.eval (.tmp t)) ∧ (∀ i o, L i → ops[i]? = some o → o.dst = some t → i < k) ∧ (k = 0 ∨ ∃ o, L (k - 1) ∧ ops[k - 1]? = some o ∧ o.dst = some t)
  win : ∀ k, k ≤ ops.size → (∀ b, Bar E call ops tr b → (b < k ↔ L b)) → Sim P (σ.cut (tr k).m.n) (tr k).m w
  dom : ∀ b i, σ b = some i → b < (tr 0).m.n ∨ ∃ j, L j ∧ (tr j).m.n ≤ b ∧ b < (tr (j + 1)).m.n
  base : σ0.le σ
  new : ∀ b i, σ b = some i → σ0 b = none → (tr 0).m.n ≤ b ∧ (w0.heap.size ≤ i.blk ∨ ∃ b0 i0, σ0 b0 = some i0 ∧ i0.blk = i.blk ∧ (tr ops.size).m.low ≤ b0)
  hle : w0.heap.size ≤ w.heap.size
  heap : ∀ B, B < w0.heap.size → (∀ b i, σ0 b = some i → i.blk = B → b < (tr ops.size).m.low) → w.heap[B]? = w0.heap[B]?
  os : w.os = w0.os
  tape : w.tape = w0.tape
  output : w.output = w0.output
  glob : ∀ g, g < P.globals.size → g < (tr 0).m.n ∧ σ0 g = some ⟨g, none⟩

variable {σ0 σ : Sg} {w0 w : World} {ds : List Deferred} {L : Nat → Prop} {a : Act}

theorem Inv.names (c : Ctx E P call ops nt tr) (h : Inv E P call ops nt tr σ0 w0 ds L σ a w) {j : Nat} {o : Oper} (hj : ¬ L j) (ho : ops[j]? = some o) (hed : ∀ e ∈ o.after, Region.binds .any e = true → L e.on)
    {t : Nat} (ht : t < nt) (hn : t ∈ namesOf ops o) : VRel (σ.cut (tr j).m.n) (at? (tr j).T t) (a.eval (.tmp t)) := by
  have hjl : j < ops.size := (Array.getElem?_eq_some_iff.1 ho).1
  obtain ⟨k, hk, hv, hw, hlast⟩ := h.tmp t ht
  have hkj : k ≤ j := by
    rcases hlast with rfl | ⟨o', hL, ho', hd⟩
    · omega
    · refine Classical.byContradiction fun hc => ?_
      have hne : k - 1 ≠ j := fun e => hj (e ▸ hL)
      rcases c.ord.apart j (k - 1) o o' ho ho' (by omega) with hr | ⟨h1, _⟩
      · exact hj (hr.of_listed h.closed hL)
      · exact h1 t hd hn
  have hT : at? (tr j).T t = at? (tr k).T t := c.chain_T j hkj (by omega) fun i oi h1 h2 hoi hd => by
    rcases c.ord.apart i j oi o hoi ho h2 with hr | ⟨_, h3⟩
    · have := hr.listed h.closed (fun o' ho' => by rw [ho] at ho'; cases ho'; exact hed)
      have := hw i oi this hoi hd
      omega
    · exact h3 t hd hn
  rw [hT]
  exact hv.mono (Sg.cut_le (fun _ _ x => x) (c.mono j hkj (by omega)).1)

theorem Inv.next_tmp (c : Ctx E P call ops nt tr) (h : Inv E P call ops nt tr σ0 w0 ds L σ a w) {j : Nat} {o : Oper} (hj : ¬ L j) (ho : ops[j]? = some o) {v v' : Value} (hT : (tr (j + 1)).T = put (tr j).T o.dst v)
    {σ' : Sg} (hle : σ.le σ') (hv : VRel (σ'.cut (tr (j + 1)).m.n) v v') : ∀ t, t < nt → ∃ k, k ≤ ops.size ∧ VRel (σ'.cut (tr k).m.n) (at? (tr k).T t) ((a.put o.dst v').eval (.tmp t)) ∧
      (∀ i o', (i = j ∨ L i) → ops[i]? = some o' → o'.dst = some t → i < k) ∧ (k = 0 ∨ ∃ o', (k - 1 = j ∨ L (k - 1)) ∧ ops[k - 1]? = some o' ∧ o'.dst = some t) := by
  intro t ht
  have hjl : j < ops.size := (Array.getElem?_eq_some_iff.1 ho).1
  by_cases hd : o.dst = some t
  · refine ⟨j + 1, by omega, ?_, ?_, .inr ⟨o, .inl rfl, ho, hd⟩⟩
    · rw [hT, hd, at_put, if_pos rfl]
      have : (a.put (some t) v').eval (.tmp t) = v' := by simp [Act.put, Act.eval, h.tsz, ht]
      rw [this]; exact hv
    · rintro i o' (rfl | hL) ho' hd'
      · omega
      · refine Classical.byContradiction fun hc => ?_
        rcases c.ord.apart j i o o' ho ho' (by omega) with hr | ⟨h1, _⟩
        · exact hj (hr.of_listed h.closed hL)
        · exact h1 t hd' (by unfold namesOf; rw [hd]; simp)
  · obtain ⟨k, hk, hv, hw, hlast⟩ := h.tmp t ht
    refine ⟨k, hk, ?_, ?_, hlast.imp id (fun ⟨o', x, y, z⟩ => ⟨o', .inr x, y, z⟩)⟩
    · rw [Act.eval_put (fun d hd' he => by cases he; exact hd hd')]
      exact hv.mono (Sg.cut_le hle (Nat.le_refl _))
    · rintro i o' (rfl | hL) ho' hd'
      · rw [ho] at ho'; cases ho'; exact absurd hd' hd
      · exact hw i o' hL ho' hd'
end
end Go.D

/- A region that draws its order: a step of whatever order; the region. -/
namespace Go.D
open Go

section
variable {E : Env} {P : Program} {call : CallFn} {ops : Array Oper} {nt : Nat} {tr : Nat → Fr} {σ0 σ : Sg} {w0 w : World} {ds : List Deferred} {L : Nat → Prop} {a : Act}

theorem put_defers (a : Act) (dst : Option Tmp) (v : Value) : (a.put dst v).defers = a.defers := by cases dst <;> rfl
theorem put_size (a : Act) (dst : Option Tmp) (v : Value) : (a.put dst v).tmps.size = a.tmps.size := by cases dst <;> simp [Act.put]

theorem Inv.closed_next (h : Inv E P call ops nt tr σ0 w0 ds L σ a w) {j : Nat} {o : Oper} (ho : ops[j]? = some o) (hed : ∀ e ∈ o.after, Region.binds .any e = true → L e.on) : Closed ops (fun i => i = j ∨ L i) := by
  rintro i o' ho' (rfl | hL) e he hb
  · rw [ho] at ho'; cases ho'
    exact .inr (hed e he hb)
  · exact .inr (h.closed i o' ho' hL e he hb)

/-- An operation that leaves the memory alone. -/
theorem Inv.same (c : Ctx E P call ops nt tr) (h : Inv E P call ops nt tr σ0 w0 ds L σ a w) {j : Nat} {o : Oper} (hj : ¬ L j) (ho : ops[j]? = some o) (hed : ∀ e ∈ o.after, Region.binds .any e = true → L e.on)
    {v v' : Value} (hT : (tr (j + 1)).T = put (tr j).T o.dst v) (hb : ¬ Bar E call ops tr j) (hv : VRel (σ.cut (tr (j + 1)).m.n) v v') :
    Inv E P call ops nt tr σ0 w0 ds (fun i => i = j ∨ L i) σ (a.put o.dst v') w where
  lt := by
    rintro i (rfl | hL)
    · exact (Array.getElem?_eq_some_iff.1 ho).1
    · exact h.lt i hL
  closed := h.closed_next ho hed
  tsz := by rw [put_size]; exact h.tsz
  defs := by rw [put_defers]; exact h.defs
  tmp := h.next_tmp c hj ho hT (fun _ _ x => x) hv
  win := fun k hk hw => h.win k hk fun b hb' => (hw b hb').trans ⟨fun x => x.resolve_left (fun e => hb (e ▸ hb')), .inr⟩
  dom := fun b i hb => (h.dom b i hb).imp id fun ⟨q, x, y⟩ => ⟨q, .inr x, y⟩
  base := h.base
  new := h.new
  hle := h.hle
  heap := h.heap
  os := h.os
  tape := h.tape
  output := h.output
  glob := h.glob

theorem Inv.window (c : Ctx E P call ops nt tr) (h : Inv E P call ops nt tr σ0 w0 ds L σ a w) {j : Nat} {o : Oper} (hj : ¬ L j) (ho : ops[j]? = some o) (hed : ∀ e ∈ o.after, Region.binds .any e = true → L e.on)
    (hp : pureOp o.op = false) : ∀ b, Bar E call ops tr b → (b < j ↔ L b) := by
  intro b hb
  have hbb := (c.bar hb).1
  rcases barrier_order hbb j o ho with rfl | h1 | h1 | h1
  · exact ⟨fun x => absurd x (Nat.lt_irrefl _), fun x => absurd x hj⟩
  · rw [hp] at h1; cases h1
  · have := h1.lt c.ord.lt
    exact ⟨fun x => by omega, fun x => absurd (h1.of_listed h.closed x) hj⟩
  · exact ⟨fun _ => h1.listed h.closed (fun o' ho' => by rw [ho] at ho'; cases ho'; exact hed), fun _ => h1.lt c.ord.lt⟩

/-- An operation that acts. -/
theorem Inv.effect (c : Ctx E P call ops nt tr) (h : Inv E P call ops nt tr σ0 w0 ds L σ a w) {j : Nat} {o : Oper} (hj : ¬ L j) (ho : ops[j]? = some o) (hed : ∀ e ∈ o.after, Region.binds .any e = true → L e.on)
    (hp : pureOp o.op = false) {v v' : Value} {m : M} {τ : Sg} {w' : World} (hev : Ev P (σ.cut (tr j).m.n) { (tr j).m with low := (tr j).m.n } w τ m w') (hv : VRel τ v v')
    (hfr : tr (j + 1) = { T := put (tr j).T o.dst v, m := { m with low := min (tr j).m.low m.low } }) (hq : (tr j).m.n ≤ m.low ∨ (barrier ops j = true ∧ Bar E call ops tr j)) :
    ∃ σ', Inv E P call ops nt tr σ0 w0 ds (fun i => i = j ∨ L i) σ' (a.put o.dst v') w' := by
  have hjl : j < ops.size := (Array.getElem?_eq_some_iff.1 ho).1
  have hn1 : (tr (j + 1)).m.n = m.n := by rw [hfr]
  have hg1 : ∀ b, (tr (j + 1)).m.get b = m.get b := by intro b; rw [hfr]; rfl
  have hlow1 : (tr (j + 1)).m.low ≤ m.low := by rw [hfr]; exact Nat.min_le_right _ _
  have hN := (c.mono (i := j + 1) ops.size (by omega) (Nat.le_refl _)).2
  have hnle : (tr j).m.n ≤ m.n := hev.nle
  -- blocks of the others
  have hfree : ∀ b i, σ b = some i → ¬ ((tr j).m.n ≤ b ∧ b < m.n) := by
    rintro b i hb ⟨h1, h2⟩
    rcases h.dom b i hb with h3 | ⟨q, hLq, h3, h4⟩
    · have := (c.mono (i := 0) j (by omega) (by omega)).1
      omega
    · have hql := h.lt q hLq
      rcases Nat.lt_trichotomy q j with hqj | rfl | hqj
      · have := (c.mono (i := q + 1) j (by omega) (by omega)).1
        omega
      · exact hj hLq
      · have := (c.mono (i := j + 1) q (by omega) (by omega)).1
        omega
  have hτ : ∀ b i, τ b = some i → b < (tr j).m.n → σ b = some i := by
    intro b i hb hbn
    cases hs : (σ.cut (tr j).m.n) b with
    | some i' =>
      have := hev.ext b i' hs
      rw [hb] at this; cases this
      exact (Sg.cut_some.1 hs).2
    | none =>
      have := (hev.new b i hb hs).1
      simp only at this
      omega
  have hτn : ∀ b i, τ b = some i → b < m.n := hev.sim.dom
  let σ' : Sg := fun b => if (tr j).m.n ≤ b ∧ b < m.n then τ b else σ b
  have hle : σ.le σ' := by
    intro b i hb
    show (if (tr j).m.n ≤ b ∧ b < m.n then τ b else σ b) = some i
    rw [if_neg (hfree b i hb)]
    exact hb
  have hτle : ∀ k, m.n ≤ k → τ.le (σ'.cut k) := by
    intro k hk b i hb
    have hbn := hτn b i hb
    rw [Sg.cut_some]
    refine ⟨by omega, ?_⟩
    show (if (tr j).m.n ≤ b ∧ b < m.n then τ b else σ b) = some i
    by_cases hbj : (tr j).m.n ≤ b
    · rw [if_pos ⟨hbj, hbn⟩]; exact hb
    · rw [if_neg (fun x => hbj x.1)]
      exact hτ b i hb (by omega)
  have hσ' : ∀ b i, σ' b = some i → (((tr j).m.n ≤ b ∧ b < m.n) ∧ τ b = some i) ∨ (¬ ((tr j).m.n ≤ b ∧ b < m.n) ∧ σ b = some i) := by
    intro b i hb
    have hb : (if (tr j).m.n ≤ b ∧ b < m.n then τ b else σ b) = some i := hb
    by_cases hc : (tr j).m.n ≤ b ∧ b < m.n
    · rw [if_pos hc] at hb; exact .inl ⟨hc, hb⟩
    · rw [if_neg hc] at hb; exact .inr ⟨hc, hb⟩
  have hwj := h.window c hj ho hed hp
  refine ⟨σ', ?_⟩
  constructor
  · rintro i (rfl | hL)
    · exact hjl
    · exact h.lt i hL
  · exact h.closed_next ho hed
  · rw [put_size]; exact h.tsz
  · rw [put_defers]; exact h.defs
  · exact h.next_tmp c hj ho (by rw [hfr]) hle (hv.mono (by rw [hn1]; exact hτle _ (Nat.le_refl _)))
  · -- the window
    intro k hk hw
    by_cases hbar : Bar E call ops tr j
    · -- a barrier: it stands alone
      have hjk : j < k := (hw j hbar).2 (.inl rfl)
      have hbb := (c.bar hbar).1
      have hall : ∀ b i, σ b = some i → b < (tr j).m.n := by
        intro b i hb
        rcases h.dom b i hb with h3 | ⟨q, hLq, h3, h4⟩
        · have := (c.mono (i := 0) j (by omega) (by omega)).1
          omega
        · have hql := h.lt q hLq
          obtain ⟨oq, hoq⟩ := at_op (ops := ops) hql
          rcases barrier_order hbb q oq hoq with rfl | h5 | h5 | h5
          · exact absurd hLq hj
          · have := (c.fact_pure hoq h5).1
            omega
          · have := h5.lt c.ord.lt
            have := (c.mono (i := q + 1) j (by omega) (by omega)).1
            omega
          · exact absurd (h5.of_listed h.closed hLq) hj
      have hnob : ∀ b, j + 1 ≤ b → b < k → ¬ Bar E call ops tr b := by
        intro b h1 h2 h3
        rcases (hw b h3).1 h2 with rfl | hL
        · omega
        · have := (hwj b h3).2 hL
          omega
      have hget := c.chain_get k (show j + 1 ≤ k by omega) hk hnob
      have hmk := (c.mono (i := j + 1) k (by omega) hk).1
      have heq : ∀ b i, (σ'.cut (tr k).m.n) b = some i → τ b = some i := by
        intro b i hb
        rw [Sg.cut_some] at hb
        rcases hσ' b i hb.2 with ⟨_, h1⟩ | ⟨_, h1⟩
        · exact h1
        · exact hev.ext b i (Sg.cut_some.2 ⟨hall b i h1, h1⟩)
      have hgk : ∀ b i, τ b = some i → (tr k).m.get b = m.get b := by
        intro b i hb
        rw [hget b (by rw [hn1]; exact hτn b i hb), hg1]
      have hs := hev.sim
      refine ⟨fun b i hb => (Sg.cut_some.1 hb).1, fun b i hb => ?_, fun b i hb => hs.lt b i (heq b i hb), fun b b' i i' hb hb' hd hd' => ?_, fun g hg => hτle _ (by omega) g _ (hs.glob g hg)⟩
      · rw [hgk b i (heq b i hb)]
        exact (hs.obj b i (heq b i hb)).keep (hτle _ (by omega)) rfl
      · rw [hgk b i (heq b i hb)] at hd
        rw [hgk b' i' (heq b' i' hb')] at hd'
        exact hs.inj b b' i i' (heq b i hb) (heq b' i' hb') hd hd'
    · -- it leaves alone what lay before it
      have hq' : (tr j).m.n ≤ m.low := hq.resolve_right (fun x => hbar x.2)
      have hwk : ∀ b, Bar E call ops tr b → (b < k ↔ L b) := fun b hb => (hw b hb).trans ⟨fun x => x.resolve_left (fun e => hbar (e ▸ hb)), .inr⟩
      have hA := h.win k hk hwk
      have hkeep : ∀ B, B < w.heap.size → w'.heap[B]? = w.heap[B]? := fun B hB => hev.heap B hB fun b i hb _ => by
        have := (Sg.cut_some.1 hb).1
        omega
      have hcut : (σ.cut (tr k).m.n).le (σ'.cut (tr k).m.n) := Sg.cut_le hle (Nat.le_refl _)
      have hcase : ∀ b i, (σ'.cut (tr k).m.n) b = some i → (((tr j).m.n ≤ b ∧ b < m.n) ∧ τ b = some i ∧ j < k) ∨ (σ.cut (tr k).m.n) b = some i := by
        intro b i hb
        rw [Sg.cut_some] at hb
        rcases hσ' b i hb.2 with ⟨h1, h2⟩ | ⟨_, h2⟩
        · refine .inl ⟨h1, h2, ?_⟩
          refine Classical.byContradiction fun hc => ?_
          have := (c.mono (i := k) j (by omega) (by omega)).1
          omega
        · exact .inr (Sg.cut_some.2 ⟨hb.1, h2⟩)
      have hgk : j < k → ∀ b, b < m.n → (tr k).m.get b = m.get b := by
        intro hjk b hb
        rw [c.chain_get k (show j + 1 ≤ k by omega) hk (fun b h1 h2 h3 => by
          have := (hwj b h3).2 ((hwk b h3).1 h2)
          omega) b (by rw [hn1]; exact hb), hg1]
      have hs := hev.sim
      have newblk : ∀ b i, (tr j).m.n ≤ b → τ b = some i → w.heap.size ≤ i.blk := by
        intro b i h1 h2
        have hnone : (σ.cut (tr j).m.n) b = none := by
          cases hx : (σ.cut (tr j).m.n) b with
          | none => rfl
          | some i' => have := (Sg.cut_some.1 hx).1; omega
        rcases (hev.new b i h2 hnone).2 with h3 | ⟨b0, i0, h3, _, h5⟩
        · exact h3
        · have := (Sg.cut_some.1 h3).1
          omega
      refine ⟨fun b i hb => (Sg.cut_some.1 hb).1, fun b i hb => ?_, fun b i hb => ?_, fun b b' i i' hb hb' hd hd' he => ?_, fun g hg => hcut g _ (hA.glob g hg)⟩
      · rcases hcase b i hb with ⟨h1, h2, hjk⟩ | h1
        · rw [hgk hjk b h1.2]
          have hmk := (c.mono (i := j + 1) k (by omega) hk).1
          exact (hs.obj b i h2).keep (hτle _ (by omega)) rfl
        · exact (hA.obj b i h1).keep hcut (hkeep _ (hA.lt b i h1))
      · rcases hcase b i hb with ⟨_, h2, _⟩ | h1
        · exact hs.lt b i h2
        · have := hA.lt b i h1
          have := hev.hle
          omega
      · rcases hcase b i hb with ⟨h1, h2, hjk⟩ | h1 <;> rcases hcase b' i' hb' with ⟨h1', h2', hjk'⟩ | h1'
        · rw [hgk hjk b h1.2] at hd
          rw [hgk hjk b' h1'.2] at hd'
          exact hs.inj b b' i i' h2 h2' hd hd' he
        · have := newblk b i h1.1 h2
          have := hA.lt b' i' h1'
          omega
        · have := newblk b' i' h1'.1 h2'
          have := hA.lt b i h1
          omega
        · exact hA.inj b b' i i' h1 h1' hd hd' he
  · intro b i hb
    rcases hσ' b i hb with ⟨h1, _⟩ | ⟨_, h1⟩
    · exact .inr ⟨j, .inl rfl, h1.1, by rw [hn1]; exact h1.2⟩
    · exact (h.dom b i h1).imp id fun ⟨q, x, y⟩ => ⟨q, .inr x, y⟩
  · exact fun b i hb => hle b i (h.base b i hb)
  · intro b i hb h0
    rcases hσ' b i hb with ⟨h1, h2⟩ | ⟨_, h2⟩
    · have hnone : (σ.cut (tr j).m.n) b = none := by
        cases hx : (σ.cut (tr j).m.n) b with
        | none => rfl
        | some i' => have := (Sg.cut_some.1 hx).1; omega
      have hn0 := (c.mono (i := 0) j (by omega) (by omega)).1
      refine ⟨by omega, ?_⟩
      have hh := h.hle
      rcases (hev.new b i h2 hnone).2 with h3 | ⟨b0, i0, h3, h4, h5⟩
      · exact .inl (by omega)
      · have h3 := (Sg.cut_some.1 h3).2
        cases hb0 : σ0 b0 with
        | some i1 =>
          have := h.base b0 i1 hb0
          rw [h3] at this; cases this
          exact .inr ⟨b0, i0, hb0, h4, by omega⟩
        | none =>
          rcases (h.new b0 i0 h3 hb0).2 with h6 | ⟨b1, i1, h6, h7, h8⟩
          · exact .inl (by omega)
          · exact .inr ⟨b1, i1, h6, by omega, h8⟩
    · exact h.new b i h2 h0
  · have := h.hle
    have := hev.hle
    omega
  · intro B hB hc
    have hh := h.hle
    rw [← h.heap B hB hc]
    refine hev.heap B (by omega) fun b i hb he => ?_
    have hb := (Sg.cut_some.1 hb).2
    cases hb0 : σ0 b with
    | some i1 =>
      have := h.base b i1 hb0
      rw [hb] at this; cases this
      have := hc b i hb0 he
      omega
    | none =>
      rcases (h.new b i hb hb0).2 with h6 | ⟨b1, i1, h6, h7, h8⟩
      · omega
      · have := hc b1 i1 h6 (by omega)
        omega
  · exact hev.os.trans h.os
  · exact hev.tape.trans h.tape
  · exact hev.output.trans h.output
  · exact h.glob
end
end Go.D

/- A region that draws its order: the whole. -/
namespace Go.D
open Go

theorem Sg.cut_all {σ : Sg} {n : Nat} (h : ∀ b i, σ b = some i → b < n) : σ.cut n = σ := by
  funext b
  unfold Sg.cut
  by_cases hb : b < n
  · rw [if_pos hb]
  · rw [if_neg hb]
    cases hs : σ b with
    | none => rfl
    | some i => exact absurd (h b i hs) hb

def unl (l : Array Bool) : Nat → Nat
  | 0 => 0
  | k + 1 => unl l k + (if l.getD k false = true then 0 else 1)
theorem unl_zero {l : Array Bool} : ∀ {k : Nat}, unl l k = 0 → ∀ i, i < k → l.getD i false = true
  | k + 1, h, i, hi => by
    unfold unl at h
    by_cases hk : l.getD k false = true
    · by_cases hik : i = k
      · subst hik; exact hk
      · exact unl_zero (k := k) (by omega) i (by omega)
    · rw [if_neg hk] at h; omega
theorem getD_set (l : Array Bool) {j : Nat} (hj : j < l.size) (i : Nat) : (l.setIfInBounds j true).getD i false = true ↔ i = j ∨ l.getD i false = true := by
  rw [Array.getD_eq_getD_getElem?, Array.getD_eq_getD_getElem?, Array.getElem?_setIfInBounds]
  by_cases h : j = i
  · subst h; simp [hj]
  · simp [h, Ne.symm h]
theorem unl_set {l : Array Bool} {j : Nat} (hj : j < l.size) (hn : ¬ l.getD j false = true) : ∀ k, unl (l.setIfInBounds j true) k + (if j < k then 1 else 0) = unl l k
  | 0 => by simp [unl]
  | k + 1 => by
    have ih := unl_set hj hn k
    have hs := getD_set l hj k
    unfold unl
    by_cases hkj : k = j
    · subst hkj
      rw [if_pos (hs.2 (.inl rfl)), if_neg hn, if_pos (by omega)]
      rw [if_neg (by omega)] at ih
      omega
    · by_cases hk : l.getD k false = true
      · rw [if_pos (hs.2 (.inr hk)), if_pos hk]
        by_cases hjk : j < k
        · rw [if_pos hjk] at ih; rw [if_pos (by omega)]; omega
        · rw [if_neg hjk] at ih; rw [if_neg (by omega)]; omega
      · rw [if_neg (fun x => (hs.1 x).elim hkj hk), if_neg hk]
        by_cases hjk : j < k
        · rw [if_pos hjk] at ih; rw [if_pos (by omega)]; omega
        · rw [if_neg hjk] at ih; rw [if_neg (by omega)]; omega
theorem getD_bool (l : Array Bool) (i : Nat) (h : i < l.size) : l.getD i true = l.getD i false := by
  simp [Array.getD_eq_getD_getElem?, h]
theorem getD_out (l : Array Bool) (i : Nat) (h : ¬ i < l.size) : l.getD i true = true := by
  simp [Array.getD_eq_getD_getElem?, h]

section
variable {E : Env} {P : Program} {call : CallFn} {ops : Array Oper} {nt : Nat} {tr : Nat → Fr} {σ0 σ : Sg} {w0 w : World} {ds : List Deferred} {L : Nat → Prop} {a : Act} {ro : Option Nat} {n : Nat} {Q : Exit → Act → World → Prop}

theorem Inv.step (c : Ctx E P call ops nt tr) (h : Inv E P call ops nt tr σ0 w0 ds L σ a w) {j : Nat} {o : Oper} (hj : ¬ L j) (ho : ops[j]? = some o) (hed : ∀ e ∈ o.after, Region.binds .any e = true → L e.on)
    {K : Act → World → Prop} (hK : ∀ σ' a' w', Inv E P call ops nt tr σ0 w0 ds (fun i => i = j ∨ L i) σ' a' w' → K a' w') : wpOpIn (wideAt ro) n P ops Q j K a w := by
  have hjl : j < ops.size := (Array.getElem?_eq_some_iff.1 ho).1
  have hokj := c.ok o (by simpa using Array.mem_of_getElem? ho)
  have hnames : ∀ t, t < nt → t ∈ namesOf ops o → VRel (σ.cut (tr j).m.n) (at? (tr j).T t) (a.eval (.tmp t)) := fun t ht hn => h.names c hj ho hed ht hn
  have hw : wanted? ops (tr j).T o = Region.wanted o (yielded ops a.tmps) := by
    refine wanted_sound (σ := σ.cut (tr j).m.n) fun q want d hg hd => ?_
    have hd0 := hd
    simp only [Option.bind_eq_some_iff] at hd
    obtain ⟨o', ho', hd'⟩ := hd
    have hlt := okOper_dst (c.ok o' (by simpa using Array.mem_of_getElem? ho')) d hd'
    refine ⟨by rw [h.tsz]; exact hlt, hnames d hlt ?_⟩
    unfold namesOf
    rw [hg]
    simp only [hd0]
    simp
  unfold wpOpIn
  rw [ho]
  dsimp only
  rw [← hw]
  rcases c.step j o ho with ⟨hwd, hfr⟩ | ⟨hwd, v, m, hop, hb, hfr⟩
  · rw [hwd, if_neg (by simp)]
    refine ⟨fun _ _ => trivial, hK σ _ w (h.same c hj ho hed (v := undef) (by rw [hfr]) ?_ VRel.undef)⟩
    rintro ⟨o', v, m, ho', hw', _⟩
    rw [ho] at ho'; cases ho'
    rw [hwd] at hw'; cases hw'
  · rw [hwd, if_pos rfl]
    refine ⟨fun _ _ => trivial, ?_⟩
    rw [Oper.semAt_eq _ _ _ (fun c hc => by rw [hc] at hop; simp [op?] at hop)]
    cases hp : pureOp o.op with
    | true =>
      have hopnd : ∀ x ∈ o.op.operands.toList, VRel (σ.cut (tr j).m.n) (ev (tr j).T x) (a.eval x) := by
        intro x hx
        have hox := okOper_ops hokj x hx
        cases x with
        | tmp t => exact hnames t (okOpnd_tmp hox) (by unfold namesOf; simp only [List.mem_append]; exact .inr (.inl (List.mem_filterMap.2 ⟨.tmp t, hx, rfl⟩)))
        | const v => exact .of_flat1 hox
        | global g =>
          have hg : g < P.globals.size := by
            have h : Nat.blt g P.globals.size = true := hox
            rw [blt_iff] at h; simpa using h
          obtain ⟨h1, h2⟩ := h.glob g hg
          have h3 := (c.mono (i := 0) j (by omega) (by omega)).1
          exact .ptr ⟨g, 0, none⟩ ⟨g, none⟩ (Sg.cut_some.2 ⟨by dsimp only; omega, h.base g _ h2⟩) rfl
        | func f => exact .flat _ rfl
      obtain ⟨v', hr, hv⟩ := pure_sound (w := w) c.hE hp hop hopnd
      rw [hr]
      refine hK σ _ w (h.same c hj ho hed (v := v) (by rw [hfr]) (c.fact_pure ho hp).2 ?_)
      rw [(c.fact_pure ho hp).1]
      exact hv
    | false =>
      have hsim := h.win j (by omega) (h.window c hj ho hed hp)
      have hopnd : ∀ x ∈ o.op.operands.toList, VRel (σ.cut (tr j).m.n) (ev (tr j).T x) (a.eval x) := by
        intro x hx
        have hox := okOper_ops hokj x hx
        exact ev_sound hsim (fun t ht => by
          subst ht
          exact hnames t (okOpnd_tmp hox) (by unfold namesOf; simp only [List.mem_append]; exact .inr (.inl (List.mem_filterMap.2 ⟨.tmp t, hx, rfl⟩)))) hox
      refine (op_sound c.hE c.hcall (hsim.low (tr j).m.n) hop hopnd).2 ro n o a K Q fun τ w' v' hv he => ?_
      obtain ⟨σ', hI⟩ := h.effect c hj ho hed hp he hv hfr (by
        by_cases hq : (tr j).m.n ≤ m.low
        · exact .inl hq
        · exact .inr ⟨hb.resolve_left hq, o, v, m, ho, hwd, hop, hq⟩)
      exact hK σ' _ w' hI

theorem any_sound (c : Ctx E P call ops nt tr) (hQ : ∀ σ a w, Inv E P call ops nt tr σ0 w0 ds (fun i => i < ops.size) σ a w → Q .normal a w) :
    ∀ (fuel : Nat) (listed : Array Bool) (σ : Sg) (a : Act) (w : World), listed.size = ops.size → unl listed ops.size ≤ fuel → Inv E P call ops nt tr σ0 w0 ds (fun i => listed.getD i false = true) σ a w →
      wpAnyIn (wideAt ro) n P .any ops Q fuel listed a w := by
  have fin : ∀ (listed : Array Bool) (σ : Sg) (a : Act) (w : World), listed.size = ops.size → (∀ i, i < ops.size → listed.getD i false = true) → Inv E P call ops nt tr σ0 w0 ds (fun i => listed.getD i false = true) σ a w → Q .normal a w := by
    intro listed σ a w hsz hall h
    have : (fun i => listed.getD i false = true) = (fun i => i < ops.size) := by
      funext i
      exact propext ⟨fun hi => h.lt i hi, hall i⟩
    rw [this] at h
    exact hQ σ a w h
  have noready : ∀ (listed : Array Bool), listed.size = ops.size → (∀ i, i < ops.size → listed.getD i false = true) → Region.ready .any ops listed = [] := by
    intro listed hsz hall
    refine List.eq_nil_iff_forall_not_mem.2 fun j hj => ?_
    have h1 := (mem_ready.1 hj).1
    by_cases hjs : j < listed.size
    · rw [getD_bool _ _ hjs, hall j (by omega)] at h1; cases h1
    · rw [getD_out _ _ hjs] at h1; cases h1
  have ready_all : ∀ (listed : Array Bool), listed.size = ops.size → Region.ready .any ops listed = [] → ∀ i, i < ops.size → listed.getD i false = true := by
    intro listed hsz hr i
    induction i using Nat.strongRecOn with
    | _ i ih =>
      intro hi
      refine Classical.byContradiction fun hn => ?_
      obtain ⟨o, ho⟩ := at_op (ops := ops) hi
      have : i ∈ Region.ready .any ops listed := mem_ready.2 ⟨by rw [getD_bool _ _ (by omega)]; simpa using hn, o, ho, fun e he hb => by
        have := c.ord.lt i o ho e he hb
        exact ih e.on this (by omega)⟩
      rw [hr] at this
      cases this
  intro fuel
  induction fuel with
  | zero =>
    intro listed σ a w hsz hu h
    have hall := fun i hi => unl_zero (l := listed) (k := ops.size) (by omega) i hi
    exact ⟨noready listed hsz hall, fin listed σ a w hsz hall h⟩
  | succ fuel ih =>
    intro listed σ a w hsz hu h
    refine ⟨fun hr => fin listed σ a w hsz (ready_all listed hsz hr) h, fun j hj => ?_⟩
    obtain ⟨h1, o, ho, hed⟩ := mem_ready.1 hj
    have hjl : j < ops.size := (Array.getElem?_eq_some_iff.1 ho).1
    have hnj : ¬ listed.getD j false = true := by
      rw [getD_bool _ _ (by omega)] at h1
      rw [h1]; simp
    refine h.step c hnj ho hed fun σ' a' w' hI => ?_
    refine ih _ σ' a' w' (by simpa using hsz) ?_ ?_
    · have := unl_set (l := listed) (j := j) (by omega) hnj ops.size
      rw [if_pos hjl] at this
      omega
    · have : (fun i => (listed.setIfInBounds j true).getD i false = true) = (fun i => i = j ∨ listed.getD i false = true) := by
        funext i
        exact propext (getD_set listed (by omega) i)
      rw [this]
      exact hI

/-- A region that draws. -/
theorem draw_sound (hE : E.OK P) (hcall : CallOK P call) (hok : ∀ o ∈ ops.toList, okOper nt P.globals.size o = true) (hd : okDraw ops = true) {fr fr' : Fr} (h : draw? E call ops ops.toList 0 fr = some fr')
    (hf : FrRel σ fr.T a nt) (hs : Sim P σ fr.m w) (k : ∀ σ' a' w', FrRel σ' fr'.T a' nt → a'.defers = a.defers → Ev P σ fr.m w σ' fr'.m w' → Q .normal a' w') :
    wpAnyIn (wideAt ro) n P .any ops Q ops.size (Array.replicate ops.size false) a w := by
  obtain ⟨tr, t0, tN, tstep⟩ := draw_trace ops.toList 0 fr fr' h
  have hst : ∀ j o, ops[j]? = some o → DStep E call ops (tr j) o j (tr (j + 1)) := by
    intro j o ho
    have := tstep j o (by simpa using ho)
    simpa using this
  subst t0
  have tN : tr ops.size = fr' := by rw [← tN]; simp
  subst tN
  have c : Ctx E P call ops nt tr := ⟨hE, hcall, okDraw_order hd, hok, hst, ghost_all hE hcall hok hst hs hf⟩
  refine any_sound (σ0 := σ) (w0 := w) (ds := a.defers) c ?_ ops.size _ σ a w (by simp) ?_ ?_
  · intro σ' a' w' hI
    have hall : ∀ b i, σ' b = some i → b < (tr ops.size).m.n := by
      intro b i hb
      rcases hI.dom b i hb with h1 | ⟨q, hq, _, h2⟩
      · have := (c.mono (i := 0) ops.size (by omega) (Nat.le_refl _)).1
        omega
      · have := (c.mono (i := q + 1) ops.size (by omega) (Nat.le_refl _)).1
        omega
    have hsim := hI.win ops.size (Nat.le_refl _) (fun b hb => Iff.rfl)
    rw [Sg.cut_all hall] at hsim
    refine k σ' a' w' ⟨hI.tsz, fun t ht => ?_⟩ hI.defs ⟨hI.base, hsim, (c.mono (i := 0) ops.size (by omega) (Nat.le_refl _)).2, (c.mono (i := 0) ops.size (by omega) (Nat.le_refl _)).1, hI.hle, hI.new, fun b hb hn => c.abs ops.size (Nat.le_refl _) b hb hn, hI.heap, hI.os, hI.tape, hI.output⟩
    obtain ⟨q, hq, hv, hw, _⟩ := hI.tmp t ht
    have hT : at? (tr ops.size).T t = at? (tr q).T t := c.chain_T ops.size hq (Nat.le_refl _) fun i o h1 h2 ho hdst => by
      have := hw i o h2 ho hdst
      omega
    rw [hT]
    refine hv.mono fun b i hb => (Sg.cut_some.1 hb).2
  · have : ∀ k, unl (Array.replicate ops.size false) k ≤ k := by
      intro k
      induction k with
      | zero => simp [unl]
      | succ k ih =>
        unfold unl
        split <;> omega
    exact this _
  · have hL : ∀ i, ¬ (Array.replicate ops.size false).getD i false = true := by
      intro i
      simp [Array.getD_eq_getD_getElem?, Array.getElem?_replicate]
      split <;> simp
    have hcut : σ.cut (tr 0).m.n = σ := Sg.cut_all hs.dom
    exact {
      lt := fun i hi => absurd hi (hL i)
      closed := fun j o ho hj => absurd hj (hL j)
      tsz := hf.1
      defs := rfl
      tmp := fun t ht => ⟨0, by omega, by rw [hcut]; exact hf.2 t ht, fun i o hi => absurd hi (hL i), .inl rfl⟩
      win := fun k hk hw => by
        have hcutk : σ.cut (tr k).m.n = σ := Sg.cut_all fun b i hb => by
          have := hs.dom b i hb
          have := (c.mono (i := 0) k (by omega) hk).1
          omega
        rw [hcutk]
        have hget := c.chain_get (i := 0) k (by omega) hk (fun b _ h2 h3 => hL b ((hw b h3).1 h2))
        have hmono := (c.mono (i := 0) k (by omega) hk).1
        refine ⟨fun b i hb => ?_, fun b i hb => ?_, hs.lt, fun b b' i i' hb hb' h1 h2 => ?_, hs.glob⟩
        · have := hs.dom b i hb; omega
        · rw [hget b (hs.dom b i hb)]; exact hs.obj b i hb
        · rw [hget b (hs.dom b i hb)] at h1
          rw [hget b' (hs.dom b' i' hb')] at h2
          exact hs.inj b b' i i' hb hb' h1 h2
      dom := fun b i hb => .inl (hs.dom b i hb)
      base := fun _ _ x => x
      new := fun b i hb h0 => by rw [hb] at h0; cases h0
      hle := Nat.le_refl _
      heap := fun _ _ _ => rfl
      os := rfl
      tape := rfl
      output := rfl
      glob := fun g hg => ⟨hs.dom g _ (hs.glob g hg), hs.glob g hg⟩ }
end
end Go.D
