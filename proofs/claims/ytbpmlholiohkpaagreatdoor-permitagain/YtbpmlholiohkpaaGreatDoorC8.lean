/- Laws to which something was added that does not apply. append to an empty slice that points somewhere. Contracts: Copy of a law, Like of decisions, late. -/
import Derived.Test.YtbpmlholiohkpaaGreatDoorC6
import Derived.Test.YtbpmlholiohkpaaGreatDoorC3
import Derived.Test.YtbpmlholiohkpaaGreatDoorE3
import Derived.Test.YtbpmlholiohkpaaGreatDoorC5
import Derived.Test.YtbpmlholiohkpaaGreatDoorFx
/- Laws to which something was added that does not apply. -/
namespace Go.Proofs.YtbpmlholiohkpaaGreatDoor
open Go Go.D
/-- Two laws of which the same applies. -/
structure SameL (l l' : Law) (q : Query) : Prop where
  facts : l'.facts' q = l.facts' q
  rules : l'.rules' q = l.rules' q
  fs : ∀ z ∈ l.facts' q, l'.facts[z.toNat]? = l.facts[z.toNat]?
  cs : ∀ z ∈ l.rules' q, l'.clauses[z.toNat]? = l.clauses[z.toNat]?
theorem find_congr {α : Type} {p p' : α → Bool} : ∀ {l : List α}, (∀ x ∈ l, p' x = p x) → l.find? p' = l.find? p
  | [], _ => rfl
  | x :: l, h => by
    rw [List.find?_cons, List.find?_cons, h x List.mem_cons_self, find_congr fun y hy => h y (List.mem_cons_of_mem _ hy)]
theorem any_congr' {α : Type} {p p' : α → Bool} : ∀ {l : List α}, (∀ x ∈ l, p' x = p x) → l.any p' = l.any p
  | [], _ => rfl
  | x :: l, h => by
    rw [List.any_cons, List.any_cons, h x List.mem_cons_self, any_congr' fun y hy => h y (List.mem_cons_of_mem _ hy)]
section
variable {l l' : Law} {q : Query}
theorem SameL.find (h : SameL l l' q) (so : Int → Bool) (n : Int) : findS l' q so n = findS l q so n := by
  unfold findS
  rw [h.facts, h.rules, find_congr (p := factSays l n) (p' := factSays l' n) fun z hz => by unfold factSays; rw [h.fs z hz],
    find_congr (p := takes l so n) (p' := takes l' so n) fun z hz => by unfold takes; rw [h.cs z hz]]
theorem SameL.sot (h : SameL l l' q) : ∀ (k : Nat) (n : Int), soT l' q k n = soT l q k n
  | 0, _ => rfl
  | k + 1, n => by
    unfold soT
    rw [show soT l' q k = soT l q k from funext fun n => SameL.sot h k n, h.find]
theorem SameL.so (h : SameL l l' q) (n : Int) : soS l' q n = soS l q n := h.sot 20 n
theorem SameL.right (h : SameL l l' q) (x : Finding) (lst : List Finding) : rightS l' q x lst = rightS l q x lst := by
  obtain ⟨says, holds, fact, clause⟩ := x
  cases holds with
  | true =>
    by_cases hc : clause = -1
    · subst hc
      rw [rightS_fact, rightS_fact, h.facts]
      cases hm : (l.facts' q).contains fact with
      | false => rfl
      | true => unfold factSays; rw [h.fs _ (List.contains_iff_mem.1 hm)]
    · rw [rightS_clause hc, rightS_clause hc, h.rules]
      cases hm : (l.rules' q).contains clause with
      | false => rfl
      | true => unfold borneS; rw [h.cs _ (List.contains_iff_mem.1 hm)]
  | false =>
    rw [rightS_none, rightS_none, h.facts, h.rules, any_congr' (p := factSays l says) (p' := factSays l' says) fun z hz => by unfold factSays; rw [h.fs z hz],
      any_congr' (p := fun i => givesS l says i && !(barredS l lst i)) (p' := fun i => givesS l' says i && !(barredS l' lst i)) fun z hz => by unfold givesS barredS; rw [h.cs z hz]]
theorem SameL.proves (h : SameL l l' q) (n : Int) (b : Bool) (lst : List Finding) : provesS l' q n b lst = provesS l q n b lst := by
  have : okAt l' q lst = okAt l q lst := funext fun i => by
    unfold okAt
    cases lst[i]? with
    | none => rfl
    | some x => dsimp only; rw [h.right]
  unfold provesS
  rw [this]
end
theorem sel_more {p p' : Nat → Bool} {n : Nat} (h1 : ∀ i, i < n → p' i = p i) : ∀ {k : Nat}, (∀ i, n ≤ i → i < n + k → p' i = false) → sel p' (n + k) = sel p n
  | 0, _ => by
    unfold sel
    rw [Nat.add_zero, List.filter_congr fun x hx => h1 x (List.mem_range.1 hx)]
  | k + 1, h => by
    rw [← Nat.add_assoc, sel_succ, sel_more h1 fun i hi hk => h i hi (by omega), h (n + k) (by omega) (by omega)]
    simp
/-- Clauses that were published later, and facts that were not known. -/
theorem same_later {l : Law} {q : Query} {cs : List Clause} {fs : List Fact} (hc : ∀ x ∈ cs, q.known < x.pub) (hf : ∀ x ∈ fs, hasB x.kn q.known = false) : SameL l ⟨l.clauses ++ cs, l.repeals, l.facts ++ fs⟩ q := by
  have ef : ∀ i, i < l.facts.length → (l.facts ++ fs)[i]? = l.facts[i]? := fun i hi => List.getElem?_append_left hi
  have ec : ∀ i, i < l.clauses.length → (l.clauses ++ cs)[i]? = l.clauses[i]? := fun i hi => List.getElem?_append_left hi
  refine ⟨?_, ?_, fun z hz => ?_, fun z hz => ?_⟩
  · unfold Law.facts'
    dsimp only
    rw [List.length_append]
    refine sel_more (fun i hi => by rw [ef i hi]) fun i h1 h2 => ?_
    rw [List.getElem?_append_right h1]
    cases hx : fs[i - l.facts.length]? with
    | none => rfl
    | some x => simp only [statesB, hf x (List.mem_of_getElem? hx), Bool.and_false]
  · unfold Law.rules'
    dsimp only
    rw [List.length_append]
    refine sel_more (fun i hi => by unfold rulesB; dsimp only; rw [ec i hi]) fun i h1 h2 => ?_
    unfold rulesB
    dsimp only
    rw [List.getElem?_append_right h1]
    cases hx : cs[i - l.clauses.length]? with
    | none => rfl
    | some x =>
      have := hc x (List.mem_of_getElem? hx)
      have e : decide (x.pub ≤ q.known) = false := by simp; omega
      simp only [e, Bool.false_and]
  · obtain ⟨k, x, rfl, hk⟩ := mem_facts' hz
    exact ef _ (List.getElem?_eq_some_iff.1 hk).1
  · obtain ⟨k, x, rfl, hk⟩ := mem_rules' hz
    exact ec _ (List.getElem?_eq_some_iff.1 hk).1
theorem idx_more {α : Type} {p : α → Bool} {a b : List α} (h : ∀ x ∈ b, p x = false) : idx p (a ++ b) = idx p a := by
  rcases idx_cases p a with ⟨h1, h2⟩ | ⟨i, x, h1, h2, h3, h4⟩
  · rw [h1]
    refine idx_miss fun x hx => ?_
    rcases List.mem_append.1 hx with hx | hx
    · exact h2 x hx
    · exact h x hx
  · rw [h1]
    have hi := (List.getElem?_eq_some_iff.1 h2).1
    exact idx_hit (by rw [List.getElem?_append_left hi]; exact h2) h3 fun j y hj hy => h4 j y hj (by rwa [List.getElem?_append_left (by omega)] at hy)
/-- The registry with papers that became known later decides the same. -/
theorem later_same {r : Registry} {w : Wish} {cs : List Clause} {fs : List Fact} {ds : List Deed} {gs : List Grant} (hc : ∀ x ∈ cs, w.known < x.pub) (hf : ∀ x ∈ fs, hasB x.kn w.known = false) (hd : ∀ x ∈ ds, hasB x.kn w.known = false) (hg : ∀ x ∈ gs, hasB x.kn w.known = false) :
    SameL r.law ⟨r.law.clauses ++ cs, r.law.repeals, r.law.facts ++ fs⟩ w.query ∧ neededS ⟨⟨r.law.clauses ++ cs, r.law.repeals, r.law.facts ++ fs⟩, r.deeds ++ ds, r.grants ++ gs⟩ w = neededS r w ∧
      deedS ⟨⟨r.law.clauses ++ cs, r.law.repeals, r.law.facts ++ fs⟩, r.deeds ++ ds, r.grants ++ gs⟩ w = deedS r w ∧ grantS ⟨⟨r.law.clauses ++ cs, r.law.repeals, r.law.facts ++ fs⟩, r.deeds ++ ds, r.grants ++ gs⟩ w = grantS r w := by
  have hs : SameL r.law ⟨r.law.clauses ++ cs, r.law.repeals, r.law.facts ++ fs⟩ w.query := same_later hc hf
  refine ⟨hs, hs.so _, idx_more fun x hx => ?_, idx_more fun x hx => ?_⟩
  · unfold deedB; rw [hd x hx]; simp
  · unfold grantB; rw [hg x hx]; simp
end Go.Proofs.YtbpmlholiohkpaaGreatDoor

/- append to an empty slice that points somewhere. -/
namespace Go.D
open Go
section
variable {E : Env} {m : M} {T : TypeId} {α : Type} [Rep α]
/-- A slice value that points somewhere. -/
def Real (v : Value) : Prop := ∃ a n c, v = .slice (some a) n c
theorem Ow.real {n1 : Nat} {l : List α} {v : Value} (h : Ow n1 m l v) (hne : l ≠ []) : Real v := by
  rcases h with ⟨_, rfl⟩ | ⟨b, cs, rfl, _⟩
  · exact absurd rfl hne
  · exact ⟨_, _, _, rfl⟩
theorem Sl.real {l : List α} {v : Value} (h : Sl m l v) (hne : l ≠ []) : Real v := by
  rcases h with ⟨_, rfl⟩ | ⟨b, o, c, bc, g, rfl, _⟩
  · exact absurd rfl hne
  · exact ⟨_, _, _, rfl⟩
theorem Real.flat {v : Value} (h : Real v) : flat2 v = false := by
  obtain ⟨a, n, c, rfl⟩ := h; rfl
/-- append to an empty slice of one's own, perhaps of nothing. -/
theorem append_zero (hT : ApT E T α) {ys : List α} {y : Value} {b : Nat} (h : m.get b = .cells [] (Rep.ty α) none) (hy : Sl m ys y) (hs : ys.length ≤ 1000000) :
    ∃ v' m1, builtin? E (m.wl m.n) .append [T, T] [.slice (some ⟨b, 0, none⟩) 0 0, y] = some (v', m1) ∧ ((ys = [] ∧ v' = .slice (some ⟨b, 0, none⟩) 0 0) ∨ (ys ≠ [] ∧ Ow m.n m1 ys v')) ∧ Ext m m1 ∧ m1.low = m.n := by
  by_cases hne : ys = []
  · subst hne
    obtain ⟨ti, ei, t1, t2, t3, t4, t5, t6⟩ := hT
    obtain ⟨news, e1, e2, e3, e4, e5⟩ := hy.first
    have hpos := Rep.pos (α := α)
    have hnews : news = [] := List.length_eq_zero_iff.1 (by rw [e3]; simp)
    subst hnews
    have hc : (Nat.beq ti.es 0 || Nat.blt 65536 ei.bytes || !([] : List Value).all D.one || Nat.blt 268435456 (0 + ([] : List α).length) || !Nat.beq ([] : List Value).length (([] : List α).length * ti.es) || !zeroLen ei.zero ti.es) = false := by
      have c1 : Nat.beq ti.es 0 = false := by
        cases hb : Nat.beq ti.es 0 with
        | false => rfl
        | true => have := Nat.eq_of_beq_eq_true hb; omega
      have c2 : Nat.blt 65536 ei.bytes = false := by
        cases hb : Nat.blt 65536 ei.bytes with
        | false => rfl
        | true => rw [Nat.blt_eq] at hb; omega
      have c4 : Nat.beq ([] : List Value).length (([] : List α).length * ti.es) = true := by rw [List.length_nil, List.length_nil, Nat.zero_mul]; rfl
      rw [c1, c2, c4, t3, t6]; rfl
    have hfirst : first? (m.wl m.n) ti.es ([] : List α).length y = some [] := by rw [first?_wl, t3]; exact e2
    refine ⟨.slice (some ⟨b, 0, none⟩) 0 0, m.wl m.n, ?_, .inl ⟨rfl, rfl⟩, ⟨Nat.le_refl _, fun _ _ => rfl⟩, rfl⟩
    simp only [builtin?, append?, t1, e1, t2, t4, hfirst, hc, cond_false]
    rfl
  · obtain ⟨v', m1, h1, h2, h3, h4⟩ := append_copy hT h hy hne hs
    exact ⟨v', m1, h1, .inr ⟨hne, h2⟩, h3, h4⟩
end
end Go.D

/- Contracts: Copy of a law, Like of decisions, late. -/
namespace Go.D
open Go
/-- A slice of the call's own, or an empty one that points to an empty row. -/
def Ow0 {α : Type} [Rep α] (n1 : Nat) (m : M) (l : List α) (v : Value) : Prop :=
  Ow n1 m l v ∨ (l = [] ∧ ∃ b, v = .slice (some ⟨b, 0, none⟩) 0 0 ∧ n1 ≤ b ∧ m.get b = .cells [] (Rep.ty α) none)
section
variable {E : Env} {m : M} {T : TypeId} {α : Type} [Rep α] {n1 : Nat} {l ys : List α} {v y : Value}
theorem Ow0.sl (h : Ow0 n1 m l v) : Sl m l v := by
  rcases h with h | ⟨rfl, b, rfl, _, hb⟩
  · exact h.sl
  · exact .inr ⟨b, 0, 0, [], none, rfl, hb, by simp, fun i x hi => by simp at hi⟩
theorem Ow0.keep {m' : M} (h : Ow0 n1 m l v) (hk : ∀ b c t g, m.get b = .cells c t g → t ∈ Rep.ty α :: Rep.tys α → m'.get b = .cells c t g) : Ow0 n1 m' l v := by
  rcases h with h | ⟨rfl, b, rfl, h1, hb⟩
  · exact .inl (h.keep hk)
  · exact .inr ⟨rfl, b, rfl, h1, hk _ _ _ _ hb List.mem_cons_self⟩
theorem Ow0.keepE {m' : M} (h : Ow0 n1 m l v) (he : Ext m m') : Ow0 n1 m' l v := h.keep fun _ _ _ _ hb _ => he.cells hb
theorem Ow0.mono {n2 : Nat} (h : Ow0 n1 m l v) (hn : n2 ≤ n1) : Ow0 n2 m l v := by
  rcases h with h | ⟨rfl, b, rfl, h1, hb⟩
  · exact .inl (h.mono hn)
  · exact .inr ⟨rfl, b, rfl, by omega, hb⟩
theorem Ow0.append (hT : ApT E T α) (hty : Rep.ty α ∉ Rep.tys α) (h : Ow0 n1 m l v) (hy : Sl m ys y) (hn : n1 ≤ m.n) (hs : l.length + ys.length ≤ 1000000) :
    ∃ v' m1, builtin? E (m.wl m.n) .append [T, T] [v, y] = some (v', m1) ∧ Ow0 n1 m1 (l ++ ys) v' ∧ Fr' n1 m m1 ∧ n1 ≤ m1.low ∧ m.n ≤ m1.n := by
  rcases h with h | ⟨rfl, b, rfl, h1, hb⟩
  · obtain ⟨v', m1, e1, e2, e3, e4, e5⟩ := h.append hT hty hy hn (by omega)
    exact ⟨v', m1, e1, .inl e2, e3, e4, e3.n⟩
  · obtain ⟨v', m1, e1, e2, e3, e4⟩ := append_zero hT hb hy (by simpa using hs)
    refine ⟨v', m1, e1, ?_, e3.fr hn, by omega, e3.n⟩
    rcases e2 with ⟨rfl, rfl⟩ | ⟨_, e2⟩
    · exact .inr ⟨rfl, b, rfl, h1, e3.cells hb⟩
    · exact .inl (e2.mono hn)
/-- append to an empty slice of one's own, perhaps of nothing: a copy. -/
theorem append_zero' (hT : ApT E T α) {b : Nat} (h : m.get b = .cells [] (Rep.ty α) none) (hn : n1 ≤ b) (hy : Sl m ys y) (hs : ys.length ≤ 1000000) :
    ∃ v' m1, builtin? E (m.wl m.n) .append [T, T] [.slice (some ⟨b, 0, none⟩) 0 0, y] = some (v', m1) ∧ Ow0 n1 m1 ys v' ∧ Real v' ∧ Ext m m1 ∧ m1.low = m.n := by
  obtain ⟨v', m1, e1, e2, e3, e4⟩ := append_zero hT h hy hs
  have hbn := M.lt_of_get h
  refine ⟨v', m1, e1, ?_, ?_, e3, e4⟩
  · rcases e2 with ⟨rfl, rfl⟩ | ⟨_, e2⟩
    · exact .inr ⟨rfl, b, rfl, hn, e3.cells h⟩
    · exact .inl (e2.mono (by omega))
  · rcases e2 with ⟨rfl, rfl⟩ | ⟨hne, e2⟩
    · exact ⟨_, _, _, rfl⟩
    · exact e2.real hne
end
end Go.D
namespace Go.Proofs.YtbpmlholiohkpaaGreatDoor
open Go Go.D
variable {X : CallFn} {m : M}
theorem like_ok (hX : NoX X) {a n a' n' : Bool} {pv pv' : Value} {d g d' g' : Int} : C X (.func 18) [decV a n pv d g, decV a' n' pv' d' g'] m m.n (.bool ((a == a') && ((n == n') && (decide (d = d') && decide (g = g'))))) m := by
  refine Cl.flat (hX.no 18 rfl) fn_18 rfl rfl ?_
  rw [F18]
  refine onM_push fun m1 hn1 hg1 hk1 => ?_
  refine onM_push fun m2 hn2 hg2 hk2 => ?_
  have hb0 := (hk2 m.n (by omega)).trans hg1
  simp only [cells_agg] at hb0 hg2
  simp only [fieldAddr_49_0, fieldAddr_49_1, fieldAddr_49_3, fieldAddr_49_4, load_4, load_3, cellAt_of hb0, cellAt_of hg2, bin_eqlB, onS_some, on2_some, onFn_func, ifV_bool, ifB_true, ifB_false, bin_leq, bin_lss, bin_geq, bin_gtr, bin_eql, bin_neq, un_not, ptrTo, nilck_ptr, nilck_func, Nat.zero_add, Nat.reduceAdd, List.getElem?_cons_zero, List.getElem?_cons_succ, List.drop_zero, List.drop_succ_cons, List.take_succ_cons, List.take_zero, Option.map_some, cells_agg, cells_int, cells_bool, cells_slice, cells_ptr, cells_map, cells_func]
  refine ifB_intro (fun h1 => ?_) (fun h => ⟨by rw [mkres, h]; rfl, Nat.le_refl _⟩)
  refine ifB_intro (fun h2 => ?_) (fun h => ⟨by rw [mkres, h1, h]; rfl, Nat.le_refl _⟩)
  refine ifB_intro (fun h3 => ?_) (fun h => ⟨by rw [mkres, h1, h2, h]; rfl, Nat.le_refl _⟩)
  exact ⟨by rw [mkres, h1, h2, h3]; rfl, Nat.le_refl _⟩
/-- A spell that is moved behind a day. -/
def lateS (k : Int) (s : Spell) : Spell := ⟨k + 1 + s.f, k + 1 + s.t⟩
theorem late_ok (hX : NoX X) (w : Wish) (s : Spell) (hk : 0 ≤ w.known ∧ w.known ≤ 1000000) (hf : 0 ≤ s.f ∧ s.f ≤ 1000000) (ht : 0 ≤ s.t ∧ s.t ≤ 1000000) : C X (.func 16) [w.v, s.v] m m.n (lateS w.known s).v m := by
  refine Cl.flat (hX.no 16 rfl) fn_16 rfl rfl ?_
  rw [F16]
  refine onM_push fun m1 hn1 hg1 hk1 => ?_
  refine onM_push fun m2 hn2 hg2 hk2 => ?_
  refine onM_push fun m3 hn3 hg3 hk3 => ?_
  have hb0 := (hk3 m.n (by omega)).trans ((hk2 m.n (by omega)).trans hg1)
  have hb1 := (hk3 m1.n (by omega)).trans hg2
  simp only [cells_agg] at hb0 hb1
  simp only [fieldAddr_45_4, fieldAddr_62_0, fieldAddr_62_1, load_3, cellAt_of hb0, cellAt_of hb1, bin_add, onS_some, on2_some, onFn_func, ifV_bool, ifB_true, ifB_false, bin_leq, bin_lss, bin_geq, bin_gtr, bin_eql, bin_neq, un_not, ptrTo, nilck_ptr, nilck_func, Nat.zero_add, Nat.reduceAdd, List.getElem?_cons_zero, List.getElem?_cons_succ, List.drop_zero, List.drop_succ_cons, List.take_succ_cons, List.take_zero, Option.map_some, cells_agg, cells_int, cells_bool, cells_slice, cells_ptr, cells_map, cells_func]
  rw [wrap64 (x := w.known + 1) (by omega) (by omega), wrap64 (x := w.known + 1 + s.f) (by omega) (by omega), wrap64 (x := w.known + 1 + s.t) (by omega) (by omega), build_62_0_1 rfl rfl, onS_some]
  refine on2_storeV ty_62 hg3 (by rfl) (by rfl) rfl fun m4 hn4 hg4 hk4 => ?_
  rw [load_62, loadCells_of hg4 (by simp [cells_agg, cells_int]), Option.map_some, onS_some]
  exact ⟨rfl, by omega⟩
theorem buildSlice_i0 : buildSlice? Tab.env m 26 0 [] = some (.slice (some ⟨m.n, 0, none⟩) 0 0, m.push (.cells [] 3 none)) := by
  simp only [buildSlice?, show Tab.env.ty.get 26 = some Tab.t26 by kernel_rfl, Tab.t26, zero?, show Tab.env.ty.get 3 = some Tab.t3 by kernel_rfl, Tab.t3, Option.bind_some, cells_int]
  rfl
theorem buildSlice_r0 : buildSlice? Tab.env m 35 0 [] = some (.slice (some ⟨m.n, 0, none⟩) 0 0, m.push (.cells [] 92 none)) := by
  simp only [buildSlice?, show Tab.env.ty.get 35 = some Tab.t35 by kernel_rfl, Tab.t35, show zero? Tab.env 92 = some (.agg #[.int .i64 0, .int .i64 0, .int .i64 0]) by kernel_rfl, cells_agg]
  rfl
theorem buildSlice_fa0 : buildSlice? Tab.env m 36 0 [] = some (.slice (some ⟨m.n, 0, none⟩) 0 0, m.push (.cells [] 66 none)) := by
  simp only [buildSlice?, show Tab.env.ty.get 36 = some Tab.t36 by kernel_rfl, Tab.t36, show zero? Tab.env 66 = some (.agg #[.int .i64 0, .int .i64 0, .int .i64 0, .int .i64 0, .int .i64 0, .int .i64 0]) by kernel_rfl, cells_agg]
  rfl
/-- A copy of a law, all of it the call's own. -/
theorem copy_ok (hX : NoX X) {l : Law} {v1 v2 v3 : Value} (hl : LawV m l v1 v2 v3) (hlw : l.ok = true) :
    ∃ w1 w2 w3 m', C X (.func 15) [.agg #[v1, v2, v3]] m m.n (.agg #[w1, w2, w3]) m' ∧ LawV m' l w1 w2 w3 ∧ Ow m.n m' l.clauses w1 ∧ Ow0 m.n m' l.facts w3 ∧ Ext m m' := by
  have hsz := law_sizes hlw
  have key := Cl.heap (E := Tab.env) (X := X) (f := 15) (args := [.agg #[v1, v2, v3]]) (m := m) (R := fun v m' b => ∃ w1 w2 w3, v = .agg #[w1, w2, w3] ∧ b = m.n ∧ LawV m' l w1 w2 w3 ∧ Ow m.n m' l.clauses w1 ∧ Ow0 m.n m' l.facts w3 ∧ Ext m m') (hX.no 15 rfl) fn_15 rfl ?_
  · obtain ⟨v, m', b, hc, w1, w2, w3, rfl, rfl, h⟩ := key
    exact ⟨w1, w2, w3, m', hc, h⟩
  rw [F15]
  refine onM_push fun m1 hn1 hg1 hk1 => ?_
  refine onM_push fun m2 hn2 hg2 hk2 => ?_
  refine onM_push fun m3 hn3 hg3 hk3 => ?_
  have hb0 := (hk3 m.n (by omega)).trans ((hk2 m.n (by omega)).trans hg1)
  have hb1 := (hk3 m1.n (by omega)).trans hg2
  simp only [cells_agg] at hb0
  have he3 : Ext m m3 := ⟨by omega, fun b hb => by rw [hk3 b (by omega), hk2 b (by omega), hk1 b hb]⟩
  clear hg1 hg2 hk1 hk2 hk3
  have hl3 := hl.keepE he3
  simp only [ptrTo]
  refine Lp.intro (γ := Nat) (fun i => l.clauses.length - i) (fun i vs mm lo => vs = [.int .i64 i] ∧ i ≤ l.clauses.length ∧ KX m2.n m3 mm ∧ m.n ≤ lo ∧ ∃ vc, mm.get m2.n = .cells [vc, .slice none 0 0, .slice none 0 0] 38 none ∧ Ow m3.n mm (l.clauses.take i) vc) 0 ⟨rfl, Nat.zero_le _, .refl, Nat.le_refl _, _, hg3, .nil⟩ ?_
  rintro i vs mm lo ⟨rfl, hi, hK, hlo, vc, hbox, hOw⟩
  have hb0m := hK.cells hb0 (by omega)
  have hb1m := hK.cells hb1 (by omega)
  have hE := hK.ext he3 (by omega)
  have hlm := hl.keepE hE
  have hmn := hK.n
  simp only [un_cons, fieldAddr_38_0, load_34, cellAt_of hb0m, hlm.clauses.len slt_clause, onS_some, on2_some, onFn_func, ifV_bool, ifB_true, ifB_false, bin_leq, bin_lss, bin_geq, bin_gtr, bin_eql, bin_neq, un_not, ptrTo, nilck_ptr, nilck_func, Nat.zero_add, Nat.reduceAdd, List.getElem?_cons_zero, List.getElem?_cons_succ, List.drop_zero, List.drop_succ_cons, List.take_succ_cons, List.take_zero, Option.map_some, cells_agg, cells_int, cells_bool, cells_slice, cells_ptr, cells_map, cells_func]
  refine ifB_intro (fun hc => ?_) (fun hc => ?_)
  · have hlt : i < l.clauses.length := by simpa using hc
    have hx : l.clauses[i]? = some l.clauses[i] := List.getElem?_eq_getElem hlt
    have hxo := clause_ok hlw hx
    have htk : l.clauses.take (i + 1) = l.clauses.take i ++ [l.clauses[i]] := by rw [List.take_add_one, hx]; rfl
    generalize l.clauses[i] = x at hx hxo htk
    obtain ⟨_, _, _, _, hnl, hbl⟩ := clause_bounds hxo
    obtain ⟨p, cs, e1, e2, vn, vb, rfl, hvn, hvb⟩ := hlm.clauses.index slt_clause (k := .i64) hx
    rw [e1, onS_some, e2, onS_some, val_agg rfl]
    have on1 := hvn.one
    have on2' := hvb.one
    refine onM_push fun m19 hn19 hg19 hk19 => ?_
    refine on2_storeV ty_64 hg19 (by rfl) (by rfl) (by simp only [cells_agg, Clause.cs, List.all_cons, List.all_nil, on1, on2']; rfl) fun m20 hn20 hg20 hk20 => ?_
    simp only [cells_agg, Clause.cs] at hg20
    have he20 : Ext mm m20 := ⟨by omega, fun b hb => by rw [hk20 b (by omega), hk19 b hb]⟩
    rw [buildSlice_i0, on2_some]
    have he23 : Ext m20 (m20.push (.cells [] 3 none)) := Ext.refl.push
    have hrow23 : (m20.push (.cells [] 3 none)).get m20.n = .cells [] 3 none := M.get_push_new
    have hn23 : (m20.push (.cells [] 3 none)).n = m20.n + 1 := M.push_n
    generalize m20.push (.cells [] 3 none) = m23 at he23 hrow23 hn23 ⊢
    have hg23 := he23.cells hg20
    simp only [fieldAddr_64_2, load_26, cellAt_of hg23, onS_some, on2_some, onFn_func, ifV_bool, ifB_true, ifB_false, bin_leq, bin_lss, bin_geq, bin_gtr, bin_eql, bin_neq, un_not, ptrTo, nilck_ptr, nilck_func, Nat.zero_add, Nat.reduceAdd, List.getElem?_cons_zero, List.getElem?_cons_succ, List.drop_zero, List.drop_succ_cons, List.take_succ_cons, List.take_zero, Option.map_some, cells_agg, cells_int, cells_bool, cells_slice, cells_ptr, cells_map, cells_func]
    obtain ⟨vn', m27, e27, hOn, hRn, he27, hlow27⟩ := append_zero' (n1 := m20.n) (m := m23) apt_int hrow23 (Nat.le_refl _) ((hvn.keepE he20).keepE he23) (by omega)
    rw [e27, on2_some]
    have hn27 := he27.n
    have hg27 := he27.cells hg23
    have hcn : cells vn' = [vn'] := hOn.sl.cells
    have hon := hOn.sl.one
    refine on2_store ty_26 hg27 (by rw [hcn]; rfl) (by rw [hcn]; simp) (by rw [hcn]; simp [hon]) fun m29 hn29 hg29 hk29 => ?_
    rw [hcn] at hg29
    have hg29' : m29.get mm.n = .cells [.int .i64 x.pub, .int .i64 x.sp.f, .int .i64 x.sp.t, vn', vb, .int .i64 x.gives] 64 none := hg29
    have hK29 : KX mm.n m27 m29 := ⟨by omega, fun c _ hne => hk29 c hne⟩
    have hOn29 : Sl m29 x.needs vn' := hOn.sl.keep (hK29.keep hg27 (by simp [Rep.tys, Rep.ty]))
    have hvb29 : Sl m29 x.bars vb := ((((hvb.keepE he20).keepE he23).keepE he27)).keep (hK29.keep hg27 (by simp [Rep.tys, Rep.ty]))
    rw [buildSlice_i0, on2_some]
    have he32 : Ext m29 (m29.push (.cells [] 3 none)) := Ext.refl.push
    have hrow32 : (m29.push (.cells [] 3 none)).get m29.n = .cells [] 3 none := M.get_push_new
    have hn32 : (m29.push (.cells [] 3 none)).n = m29.n + 1 := M.push_n
    generalize m29.push (.cells [] 3 none) = m32 at he32 hrow32 hn32 ⊢
    have hg32 := he32.cells hg29'
    simp only [fieldAddr_64_3, load_26, cellAt_of hg32, onS_some, on2_some, onFn_func, ifV_bool, ifB_true, ifB_false, bin_leq, bin_lss, bin_geq, bin_gtr, bin_eql, bin_neq, un_not, ptrTo, nilck_ptr, nilck_func, Nat.zero_add, Nat.reduceAdd, List.getElem?_cons_zero, List.getElem?_cons_succ, List.drop_zero, List.drop_succ_cons, List.take_succ_cons, List.take_zero, Option.map_some, cells_agg, cells_int, cells_bool, cells_slice, cells_ptr, cells_map, cells_func]
    obtain ⟨vb', m36, e36, hOb, hRb, he36, hlow36⟩ := append_zero' (n1 := m29.n) (m := m32) apt_int hrow32 (Nat.le_refl _) (hvb29.keepE he32) (by omega)
    rw [e36, on2_some]
    have hn36 := he36.n
    have hg36 := he36.cells hg32
    have hcb : cells vb' = [vb'] := hOb.sl.cells
    have hob := hOb.sl.one
    refine on2_store ty_26 hg36 (by rw [hcb]; rfl) (by rw [hcb]; simp) (by rw [hcb]; simp [hob]) fun m38 hn38 hg38 hk38 => ?_
    rw [hcb] at hg38
    have hg38' : m38.get mm.n = .cells [.int .i64 x.pub, .int .i64 x.sp.f, .int .i64 x.sp.t, vn', vb', .int .i64 x.gives] 64 none := hg38
    have hK38 : KX mm.n m36 m38 := ⟨by omega, fun c _ hne => hk38 c hne⟩
    have hOb38 : Sl m38 x.bars vb' := hOb.sl.keep (hK38.keep hg36 (by simp [Rep.tys, Rep.ty]))
    have hOn38 : Sl m38 x.needs vn' := (((hOn29.keepE he32).keepE he36)).keep (hK38.keep hg36 (by simp [Rep.tys, Rep.ty]))
    -- what was there before the round
    have hEr : Ext mm m38 := ⟨by omega, fun c hc => by
      rw [hk38 c (by omega), he36.get c (by omega), he32.get c (by omega), hk29 c (by omega), he27.get c (by omega), he23.get c (by omega), he20.get c hc]⟩
    have hbox38 := hEr.cells hbox
    simp only [fieldAddr_38_0, load_34, cellAt_of hbox38, onS_some, on2_some, onFn_func, ifV_bool, ifB_true, ifB_false, bin_leq, bin_lss, bin_geq, bin_gtr, bin_eql, bin_neq, un_not, ptrTo, nilck_ptr, nilck_func, Nat.zero_add, Nat.reduceAdd, List.getElem?_cons_zero, List.getElem?_cons_succ, List.drop_zero, List.drop_succ_cons, List.take_succ_cons, List.take_zero, Option.map_some, cells_agg, cells_int, cells_bool, cells_slice, cells_ptr, cells_map, cells_func]
    rw [load_64, loadCells_of hg38' (by simp), Option.map_some, onS_some]
    simp only [List.drop_zero, List.take_succ_cons, List.take_zero]
    rw [buildSlice_c, on2_some]
    have hrep : Rep.rep m38 x [.int .i64 x.pub, .int .i64 x.sp.f, .int .i64 x.sp.t, vn', vb', .int .i64 x.gives] := ⟨vn', vb', rfl, hOn38, hOb38⟩
    have hsl44 := sl_one (m := m38) hrep
    have he44 : Ext m38 (m38.push (.cells [.int .i64 x.pub, .int .i64 x.sp.f, .int .i64 x.sp.t, vn', vb', .int .i64 x.gives] 64 none)) := Ext.refl.push
    have hn44 : (m38.push (.cells [.int .i64 x.pub, .int .i64 x.sp.f, .int .i64 x.sp.t, vn', vb', .int .i64 x.gives] 64 none)).n = m38.n + 1 := M.push_n
    change Sl (m38.push (.cells [.int .i64 x.pub, .int .i64 x.sp.f, .int .i64 x.sp.t, vn', vb', .int .i64 x.gives] 64 none)) [x] _ at hsl44
    generalize m38.push (.cells [.int .i64 x.pub, .int .i64 x.sp.f, .int .i64 x.sp.t, vn', vb', .int .i64 x.gives] 64 none) = m44 at hsl44 he44 hn44 ⊢
    have htl : (l.clauses.take i).length = i := by rw [List.length_take]; omega
    have hErn := hEr.n
    obtain ⟨v45, m46, e46, hOw46, hFr46, hlow46, hm46⟩ := Ow.append (m := m44) apt_clause (by simp [Rep.tys, Rep.ty]) (hOw.keepE (hEr.trans he44)) hsl44 (by omega) (by rw [htl]; simp; omega)
    rw [e46, on2_some]
    have hFn := hFr46.n
    have h46get : ∀ c, c < m3.n → m46.get c = mm.get c := fun c hc => by rw [hFr46.get c hc, he44.get c (by omega), hEr.get c (by omega)]
    have hbox46 : m46.get m2.n = .cells [vc, .slice none 0 0, .slice none 0 0] 38 none := by rw [h46get _ (by omega), hbox]
    have hc45 : cells v45 = [v45] := hOw46.sl.cells
    refine on2_store ty_34 hbox46 (by rw [hc45]; rfl) (by rw [hc45]; simp) (by rw [hc45]; simp [hOw46.sl.one]) fun m48 hn48 hg48 hk48 => ?_
    rw [hc45] at hg48
    simp only [bin_add, onS_some]
    have hlo' : m.n ≤ m27.low ∧ m.n ≤ m36.low ∧ m.n ≤ m46.low ∧ m.n ≤ mm.n ∧ m.n ≤ m2.n := by omega
    refine ⟨i + 1, by omega, ?_, by omega, hK.step (by omega) h46get hk48, by simp only [Nat.le_min, hlo, hlo', and_self], v45, by rw [hg48]; rfl, ?_⟩
    · rw [wrap64 (by omega) (by omega)]; rfl
    · rw [htk]
      exact hOw46.keep ((KX.mk (Nat.le_of_eq hn48.symm) fun c _ hne => hk48 c hne : KX m2.n m46 m48).keep hbox46 (by simp [Rep.tys, Rep.ty]))
  · have hge : i = l.clauses.length := by
      have : ¬ ((i : Int) < (l.clauses.length : Int)) := by simpa using hc
      omega
    subst hge
    clear hc
    rw [List.take_length] at hOw
    rw [buildSlice_r0, on2_some]
    have he52 : Ext mm (mm.push (.cells [] 92 none)) := Ext.refl.push
    have hrow52 : (mm.push (.cells [] 92 none)).get mm.n = .cells [] 92 none := M.get_push_new
    have hn52 : (mm.push (.cells [] 92 none)).n = mm.n + 1 := M.push_n
    generalize mm.push (.cells [] 92 none) = m52 at he52 hrow52 hn52 ⊢
    have hb052 := he52.cells hb0m
    simp only [fieldAddr_38_1, load_35, cellAt_of hb052, onS_some, on2_some, onFn_func, ifV_bool, ifB_true, ifB_false, bin_leq, bin_lss, bin_geq, bin_gtr, bin_eql, bin_neq, un_not, ptrTo, nilck_ptr, nilck_func, Nat.zero_add, Nat.reduceAdd, List.getElem?_cons_zero, List.getElem?_cons_succ, List.drop_zero, List.drop_succ_cons, List.take_succ_cons, List.take_zero, Option.map_some, cells_agg, cells_int, cells_bool, cells_slice, cells_ptr, cells_map, cells_func]
    obtain ⟨w2, m56, e56, hO2, _, he56, hlow56⟩ := append_zero' (n1 := mm.n) (m := m52) apt_repeal hrow52 (Nat.le_refl _) (hlm.repeals.keepE he52) (by omega)
    rw [e56, on2_some]
    have hn56 := he56.n
    have hE56 := he52.trans he56
    have hbox56 := hE56.cells hbox
    have hc2 : cells w2 = [w2] := hO2.sl.cells
    refine on2_store ty_35 hbox56 (by rw [hc2]; rfl) (by rw [hc2]; simp) (by rw [hc2]; simp [hO2.sl.one]) fun m58 hn58 hg58 hk58 => ?_
    rw [hc2] at hg58
    have hg58' : m58.get m2.n = .cells [vc, w2, .slice none 0 0] 38 none := hg58
    have hK58 : KX m2.n m56 m58 := ⟨by omega, fun c _ hne => hk58 c hne⟩
    have hO2' : Ow0 mm.n m58 l.repeals w2 := hO2.keep (hK58.keep hbox56 (by simp [Rep.tys, Rep.ty]))
    have hOw58 : Ow m3.n m58 l.clauses vc := (hOw.keepE hE56).keep (hK58.keep hbox56 (by simp [Rep.tys, Rep.ty]))
    have hf58 : Sl m58 l.facts v3 := (hlm.facts.keepE hE56).keep (hK58.keep hbox56 (by simp [Rep.tys, Rep.ty]))
    have hb058 := hK58.cells (he56.cells hb052) (by omega)
    have hb158 := hK58.cells (hE56.cells hb1m) (by omega)
    rw [buildSlice_fa0, on2_some]
    have he61 : Ext m58 (m58.push (.cells [] 66 none)) := Ext.refl.push
    have hrow61 : (m58.push (.cells [] 66 none)).get m58.n = .cells [] 66 none := M.get_push_new
    have hn61 : (m58.push (.cells [] 66 none)).n = m58.n + 1 := M.push_n
    generalize m58.push (.cells [] 66 none) = m61 at he61 hrow61 hn61 ⊢
    have hb061 := he61.cells hb058
    simp only [fieldAddr_38_2, load_36, cellAt_of hb061, onS_some, on2_some, onFn_func, ifV_bool, ifB_true, ifB_false, bin_leq, bin_lss, bin_geq, bin_gtr, bin_eql, bin_neq, un_not, ptrTo, nilck_ptr, nilck_func, Nat.zero_add, Nat.reduceAdd, List.getElem?_cons_zero, List.getElem?_cons_succ, List.drop_zero, List.drop_succ_cons, List.take_succ_cons, List.take_zero, Option.map_some, cells_agg, cells_int, cells_bool, cells_slice, cells_ptr, cells_map, cells_func]
    obtain ⟨w3, m65, e65, hO3, hR3, he65, hlow65⟩ := append_zero' (n1 := m58.n) (m := m61) apt_fact hrow61 (Nat.le_refl _) (hf58.keepE he61) (by omega)
    rw [e65, on2_some]
    have hn65 := he65.n
    have hE65 := he61.trans he65
    have hbox65 := hE65.cells hg58'
    have hc3 : cells w3 = [w3] := hO3.sl.cells
    refine on2_store ty_36 hbox65 (by rw [hc3]; rfl) (by rw [hc3]; simp) (by rw [hc3]; simp [hO3.sl.one]) fun m67 hn67 hg67 hk67 => ?_
    rw [hc3] at hg67
    have hg67' : m67.get m2.n = .cells [vc, w2, w3] 38 none := hg67
    have hK67 : KX m2.n m65 m67 := ⟨by omega, fun c _ hne => hk67 c hne⟩
    have hOc : Ow m3.n m67 l.clauses vc := (hOw58.keepE hE65).keep (hK67.keep hbox65 (by simp [Rep.tys, Rep.ty]))
    have hOr : Ow0 mm.n m67 l.repeals w2 := (hO2'.keepE hE65).keep (hK67.keep hbox65 (by simp [Rep.tys, Rep.ty]))
    have hOf : Ow0 m58.n m67 l.facts w3 := hO3.keep (hK67.keep hbox65 (by simp [Rep.tys, Rep.ty]))
    have hb167 := hK67.cells (hE65.cells hb158) (by omega)
    have x1 := hOc.sl.one
    have x2 := hOr.sl.one
    have x3 := hOf.sl.one
    rw [load_38, loadCells_of hg67' (by simp), Option.map_some, onS_some]
    refine on2_storeV ty_38 hb167 (by rfl) (by rfl) (by simp [cells_agg, x1, x2, x3]) fun m70 hn70 hg70 hk70 => ?_
    simp only [cells_agg, List.drop_zero, List.take_succ_cons, List.take_zero] at hg70
    rw [load_38, loadCells_of hg70 (by simp), Option.map_some, onS_some]
    have hK70 : KX m1.n m67 m70 := ⟨by omega, fun c _ hne => hk70 c hne⟩
    have hOc' : Ow m3.n m70 l.clauses vc := hOc.keep (hK70.keep hb167 (by simp [Rep.tys, Rep.ty]))
    have hOr' : Ow0 mm.n m70 l.repeals w2 := hOr.keep (hK70.keep hb167 (by simp [Rep.tys, Rep.ty]))
    have hOf' : Ow0 m58.n m70 l.facts w3 := hOf.keep (hK70.keep hb167 (by simp [Rep.tys, Rep.ty]))
    have hlo' : m.n ≤ m56.low ∧ m.n ≤ m65.low ∧ m.n ≤ m2.n ∧ m.n ≤ m1.n := by omega
    have hlast : m.n ≤ min (min (min (min (min lo m56.low) m2.n) m65.low) m2.n) m1.n := by simp only [Nat.le_min, hlo, hlo', and_self]
    refine ⟨.inl ?_, vc, w2, w3, rfl, by omega, ⟨hOc'.sl, hOr'.sl, hOf'.sl⟩, hOc'.mono (by omega), hOf'.mono (by omega), ⟨by omega, fun c hc => ?_⟩⟩
    · obtain ⟨_, _, _, rfl⟩ := hR3
      rcases hOc' with ⟨h1, _⟩ | ⟨_, _, h1, _⟩ <;> rcases hOr' with (⟨h2, _⟩ | ⟨_, _, h2, _⟩) | ⟨_, _, h2, _⟩ <;> rw [h1, h2] <;> rfl
    · rw [hk70 c (by omega), hk67 c (by omega), hE65.get c (by omega), hk58 c (by omega), hE56.get c (by omega), hE.get c hc]
end Go.Proofs.YtbpmlholiohkpaaGreatDoor
