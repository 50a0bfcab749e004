/- Contracts: the judge: what is so. Contracts: the judge: so and find. Contracts: the judge: so, of every number; open. Contracts: the judge: is a finding right? Contracts: the judge: is a finding right; does a list prove an answer? Contracts: the judge: does a list prove an answer? Contracts: slices.Clone and slices.Delete of findings; what statutes decide. Contracts: what statutes decide. Contracts: what permits decide. -/
import Derived.Test.YtbpmlholiohkpaaGreatDoorC2
import Derived.Test.YtbpmlholiohkpaaGreatDoorE3
import Derived.Test.YtbpmlholiohkpaaGreatDoorFc
/- Contracts: the judge: what is so. -/
namespace Go.Proofs.YtbpmlholiohkpaaGreatDoor
open Go Go.D
variable {X : CallFn} {m : M}

theorem lt_of_ro {b : Nat} {cs : List Value} (h : m.get b = .ro cs) : b < m.n := by
  rcases Nat.lt_or_ge b m.n with h' | h'
  · exact h'
  · rw [M.get_of_ge h'] at h; cases h
/-- All rows of cells are as they were, and all that are read only. -/
structure KC (m m' : M) : Prop where
  n : m.n ≤ m'.n
  get : ∀ c cs e g, m.get c = .cells cs e g → m'.get c = .cells cs e g
  ro : ∀ c cs, m.get c = .ro cs → m'.get c = .ro cs
theorem KC.refl : KC m m := ⟨Nat.le_refl _, fun _ _ _ _ h => h, fun _ _ h => h⟩
theorem KC.trans {m1 m2 : M} (h : KC m m1) (h' : KC m1 m2) : KC m m2 := ⟨Nat.le_trans h.n h'.n, fun c cs e g hc => h'.get _ _ _ _ (h.get _ _ _ _ hc), fun c cs hc => h'.ro _ _ (h.ro _ _ hc)⟩
theorem KC.of_ext {m1 : M} (h : Ext m m1) : KC m m1 := ⟨h.n, fun _ _ _ _ hc => h.cells hc, fun _ _ hc => by rw [h.get _ (lt_of_ro hc), hc]⟩
theorem KC.sl {m' : M} (h : KC m m') {α : Type} [Rep α] {l : List α} {v : Value} (hs : Sl m l v) : Sl m' l v := hs.keep fun b c t g hb _ => h.get b c t g hb
theorem KC.law {m' : M} (h : KC m m') {l : Law} {v1 v2 v3 : Value} (hs : LawV m l v1 v2 v3) : LawV m' l v1 v2 v3 := ⟨h.sl hs.clauses, h.sl hs.repeals, h.sl hs.facts⟩

/-- slices.ContainsFunc over numbers, with a closure that may write. -/
theorem containsFunc118_st (hX : NoX X) {l : List Int} {v : Value} {g : Fn} {fi ca : Array Value} (p : Int → Bool) (J : M → Prop) (b0 : Nat) (hb : l.length < 4611686018427387904)
    (hl : ∀ m, J m → Sl m l v) (hs : ∀ x ∈ l, ∀ m1, J m1 → ∃ b m2, C X g (fi.toList ++ ([.int .i64 x] ++ ca.toList)) m1 b (.bool (p x)) m2 ∧ J m2 ∧ b0 ≤ b) (hJ : J m) (hb0 : b0 ≤ m.n) :
    ∃ m' b, C X (.func 118) [v, .func g fi ca] m b (.bool (l.any p)) m' ∧ J m' ∧ b0 ≤ b := by
  have hidx : ∃ m' b, C X (.func 154) [v, .func g fi ca] m b (.int .i64 (idx p l)) m' ∧ J m' ∧ b0 ≤ b := by
    have key := Cl.gen (E := Tab.env) (X := X) (f := 154) (args := [v, .func g fi ca]) (m := m) (R := fun w m' b => w = .int .i64 (idx p l) ∧ J m' ∧ b0 ≤ b) (hX.no 154 rfl) fn_154 rfl ?_
    · obtain ⟨w, m', b, hc, rfl, h3⟩ := key
      exact ⟨m', b, hc, h3⟩
    · have hcase : ∀ (lo : Nat) (m' : M) (r : Int), r = idx p l → J m' → b0 ≤ lo →
          (flat2 (mkres [.int .i64 r]) = true ∧ m.n ≤ lo ∧ mkres [.int .i64 r] = .int .i64 (idx p l) ∧ J m ∧ b0 ≤ m.n) ∨ ((flat2 (mkres [.int .i64 r]) = false ∨ lo < m.n) ∧ mkres [.int .i64 r] = .int .i64 (idx p l) ∧ J m' ∧ b0 ≤ min m.n lo) := by
        rintro lo m' r rfl hJ' hlo
        by_cases hc : m.n ≤ lo
        · exact .inl ⟨rfl, hc, rfl, hJ, hb0⟩
        · exact .inr ⟨.inr (by omega), rfl, hJ', by omega⟩
      refine indexFunc154_vc (l := l) (fun i mm lo => J mm ∧ b0 ≤ lo ∧ ∀ j x, j < i → l[j]? = some x → p x = false) (fun i mm lo => J mm ∧ b0 ≤ lo ∧ (∀ j x, j < i → l[j]? = some x → p x = false)) (fun i => match l[i]? with | some x => p x | none => false) hb ?_ ?_ ⟨hJ, hb0, fun j x hj => by omega⟩ ?_ ?_
      · rintro i mm lo ⟨hJ', _, _⟩; exact hl mm hJ'
      · rintro i x mm lo hx ⟨hJ', hlo, hp⟩ cs rfl
        rw [hx]
        obtain ⟨b, m2, hc, hJ2, hb2⟩ := hs x (List.mem_of_getElem? hx) mm hJ'
        refine ⟨b, m2, hc, fun _ => ⟨hJ2, by omega, hp⟩, fun hpx => ⟨hJ2, by omega, fun j y hj hy => ?_⟩⟩
        by_cases e : j = i
        · subst e; rw [hx] at hy; cases hy; exact hpx
        · exact hp j y (by omega) hy
      · rintro i m2 lo2 hlt hpi ⟨hJ2, hlo, hp⟩
        have hx : l[i]? = some l[i] := List.getElem?_eq_getElem hlt
        rw [hx] at hpi
        exact hcase lo2 m2 i (idx_hit hx hpi hp).symm hJ2 hlo
      · rintro m2 lo2 ⟨hJ2, hlo, hp⟩
        exact hcase lo2 m2 (-1) (idx_miss fun x hx => by obtain ⟨j, hj⟩ := List.mem_iff_getElem?.1 hx; exact hp j x (List.getElem?_eq_some_iff.1 hj).1 hj).symm hJ2 hlo
  obtain ⟨m1, b1, hc1, hJ1, hb1⟩ := hidx
  have key := Cl.gen (E := Tab.env) (X := X) (f := 118) (args := [v, .func g fi ca]) (m := m) (R := fun w m' b => w = .bool (l.any p) ∧ J m' ∧ b0 ≤ b) (hX.no 118 rfl) fn_118 rfl ?_
  · obtain ⟨w, m', b, hc, rfl, h3⟩ := key
    exact ⟨m', b, hc, h3⟩
  · rw [F118]
    refine onC_of hc1 ?_
    simp only [bin_geq, onS_some, idx_nonneg]
    by_cases hcc : m.n ≤ min m.n b1
    · exact .inl ⟨rfl, hcc, rfl, hJ, hb0⟩
    · exact .inr ⟨.inr (by omega), rfl, hJ1, by omega⟩

/-- The finding about a number, where it is known of lesser numbers whether they are so. -/
def takes (l : Law) (so : Int → Bool) (n i : Int) : Bool := match l.clauses[i.toNat]? with
  | some x => decide (x.gives = n) && (!(x.needs.any fun k => !so k) && !(x.bars.any so))
  | none => false
def factSays (l : Law) (n i : Int) : Bool := match l.facts[i.toNat]? with
  | some x => decide (x.says = n)
  | none => false
def findS (l : Law) (q : Query) (so : Int → Bool) (n : Int) : Finding :=
  match (l.facts' q).find? (factSays l n) with
  | some i => ⟨n, true, i, -1⟩
  | none => match (l.rules' q).find? (takes l so n) with
    | some i => ⟨n, true, -1, i⟩
    | none => ⟨n, false, -1, -1⟩
/-- What is so, of the numbers below k. -/
def soT (l : Law) (q : Query) : Nat → Int → Bool
  | 0, _ => false
  | k + 1, n => if n = k then (findS l q (soT l q k) n).holds else soT l q k n
def soS (l : Law) (q : Query) (n : Int) : Bool := soT l q 20 n
def fndS (l : Law) (q : Query) (n : Int) : Finding := findS l q (soS l q) n
theorem soT_lt {l : Law} {q : Query} : ∀ {k j : Nat} {n : Int}, n < j → j ≤ k → soT l q k n = soT l q j n
  | 0, j, n, h1, h2 => by
    obtain rfl : j = 0 := by omega
    rfl
  | k + 1, j, n, h1, h2 => by
    by_cases e : j = k + 1
    · rw [e]
    · rw [soT, if_neg (by omega)]
      exact soT_lt h1 (by omega)
theorem clause_ok {l : Law} (h : l.ok = true) {i : Nat} {x : Clause} (hi : l.clauses[i]? = some x) : x.ok = true := by
  simp only [Law.ok, Bool.and_eq_true] at h
  exact all_ok_of_any h.2.2.2.1 hi
theorem fact_ok {l : Law} (h : l.ok = true) {i : Nat} {x : Fact} (hi : l.facts[i]? = some x) : x.ok = true := by
  simp only [Law.ok, Bool.and_eq_true] at h
  exact all_ok_of_any h.2.2.2.2.2 hi
theorem asc_bounds {below : Int} : ∀ {l : List Int} {p : Int}, ascB below p l = true → ∀ k ∈ l, p + 1 ≤ k ∧ k ≤ below - 1
  | [], _, _, k, hk => by cases hk
  | x :: l, p, h, k, hk => by
    simp only [ascB, inB, Bool.and_eq_true, decide_eq_true_eq] at h
    rcases List.mem_cons.1 hk with rfl | hk
    · exact h.1
    · have := asc_bounds h.2 k hk; omega
theorem clause_bounds {x : Clause} (h : x.ok = true) : 0 ≤ x.gives ∧ x.gives ≤ 19 ∧ (∀ k ∈ x.needs, 0 ≤ k ∧ k < x.gives) ∧ (∀ k ∈ x.bars, 0 ≤ k ∧ k < x.gives) ∧ x.needs.length ≤ 4 ∧ x.bars.length ≤ 4 := by
  simp only [Clause.ok, ascends, inB, Bool.and_eq_true, decide_eq_true_eq] at h
  obtain ⟨_, _, ⟨h1, h2⟩, ⟨h3, h4⟩, h5, h6⟩ := h
  exact ⟨h1, h2, fun k hk => by have := asc_bounds h4 k hk; omega, fun k hk => by have := asc_bounds h6 k hk; omega, h3, h5⟩
theorem takes_congr {l : Law} (hl : l.ok = true) {so so' : Int → Bool} {n : Int} (h : ∀ k, 0 ≤ k → k < n → so k = so' k) (i : Int) : takes l so n i = takes l so' n i := by
  unfold takes
  cases hi : l.clauses[i.toNat]? with
  | none => rfl
  | some x =>
    dsimp only
    by_cases hg : x.gives = n
    · obtain ⟨_, _, h1, h2, _⟩ := clause_bounds (clause_ok hl hi)
      subst hg
      have e1 : (x.needs.any fun k => !so k) = x.needs.any fun k => !so' k := by
        rw [Bool.eq_iff_iff]; simp only [List.any_eq_true]
        constructor
        · rintro ⟨k, hk, hs⟩; exact ⟨k, hk, by rw [← h k (h1 k hk).1 (h1 k hk).2]; exact hs⟩
        · rintro ⟨k, hk, hs⟩; exact ⟨k, hk, by rw [h k (h1 k hk).1 (h1 k hk).2]; exact hs⟩
      have e2 : x.bars.any so = x.bars.any so' := by
        rw [Bool.eq_iff_iff]; simp only [List.any_eq_true]
        constructor
        · rintro ⟨k, hk, hs⟩; exact ⟨k, hk, by rw [← h k (h2 k hk).1 (h2 k hk).2]; exact hs⟩
        · rintro ⟨k, hk, hs⟩; exact ⟨k, hk, by rw [h k (h2 k hk).1 (h2 k hk).2]; exact hs⟩
      rw [e1, e2]
    · simp [hg]
theorem findS_congr {l : Law} (hl : l.ok = true) {q : Query} {so so' : Int → Bool} {n : Int} (h : ∀ k, 0 ≤ k → k < n → so k = so' k) : findS l q so n = findS l q so' n := by
  unfold findS
  have : takes l so n = takes l so' n := funext fun i => takes_congr hl h i
  rw [this]
theorem soS_eq {l : Law} (hl : l.ok = true) (q : Query) {n : Int} (h0 : 0 ≤ n) (h1 : n < 20) : soS l q n = (fndS l q n).holds := by
  obtain ⟨k, rfl⟩ : ∃ k : Nat, n = k := ⟨n.toNat, by omega⟩
  unfold soS fndS
  rw [soT_lt (j := k + 1) (by omega) (by omega), soT, if_pos rfl]
  rw [findS_congr hl (so := soT l q k) (so' := soS l q) fun j hj0 hj => by unfold soS; rw [soT_lt (k := 20) (j := k) hj (by omega)]]
theorem findS_says {l : Law} {q : Query} {so : Int → Bool} {n : Int} : (findS l q so n).says = n := by
  unfold findS
  split
  · rfl
  · split <;> rfl

/-- The entries of the judge's map are right. -/
def MI (l : Law) (q : Query) (es : List MapEntry) : Prop := ∀ e ∈ es, ∃ n : Int, e.key = .int .i64 n ∧ e.val = .agg (fndS l q n).c.toArray
def MapOK (l : Law) (q : Query) (m : M) (bm : Nat) : Prop := ∃ es clock, m.get bm = .map es clock ∧ MI l q es
/-- The number has an entry. -/
def Known (m : M) (bm : Nat) (n : Int) : Prop := ∃ es clock, m.get bm = .map es clock ∧ ∃ e ∈ es, e.key = .int .i64 n
theorem findKey_int {l : Law} {q : Query} {n : Int} : ∀ {es : List MapEntry} {i : Nat}, MI l q es → (findKey Tab.env 3 (.int .i64 n) es i = some none ∧ ∀ e ∈ es, e.key ≠ .int .i64 n) ∨ (∃ j, findKey Tab.env 3 (.int .i64 n) es i = some (some (j, .agg (fndS l q n).c.toArray)) ∧ ∃ e ∈ es, e.key = .int .i64 n)
  | [], i, _ => .inl ⟨rfl, fun e he => by cases he⟩
  | e :: es, i, h => by
    obtain ⟨k, hk, hv⟩ := h e List.mem_cons_self
    have heq : eq? Tab.env 3 (.int .i64 n) e.key = some (n == k) := by
      rw [hk]
      simp only [eq?, show Tab.env.ty.get 3 = some Tab.t3 by kernel_rfl, Tab.t3, if_true]
    unfold findKey
    rw [heq]
    by_cases hnk : n = k
    · subst hnk
      simp only [beq_self_eq_true]
      exact .inr ⟨i, by rw [hv], e, List.mem_cons_self, hk⟩
    · have : (n == k) = false := by simpa using hnk
      rw [this]
      rcases findKey_int (i := i + 1) (fun e' he' => h e' (List.mem_cons_of_mem _ he')) with ⟨h1, h2⟩ | ⟨j, h1, e', he', hk'⟩
      · refine .inl ⟨h1, fun e' he' => ?_⟩
        rcases List.mem_cons.1 he' with rfl | he'
        · rw [hk]; intro hq; cases hq; exact hnk rfl
        · exact h2 e' he'
      · exact .inr ⟨j, h1, e', List.mem_cons_of_mem _ he', hk'⟩
theorem keyed_int {n : Int} : keyed Tab.env 3 (.int .i64 n) = true := by
  simp only [keyed, show Tab.env.ty.get 3 = some Tab.t3 by kernel_rfl, Tab.t3]
theorem ty152 : Tab.env.ty.get 152 = some Tab.t152 := by kernel_rfl
theorem zero150 : zero? Tab.env 150 = some (.agg #[.int .i64 0, .bool false, .int .i64 0, .int .i64 0]) := by kernel_rfl
/-- A look-up in the judge's map. -/
theorem lookup_found {l : Law} {q : Query} {bm : Nat} {n : Int} {ok : Bool} {es : List MapEntry} {clock : Nat} (hm : m.get bm = .map es clock) (h : MI l q es) :
    (∀ e ∈ es, e.key ≠ .int .i64 n) ∧ lookup? Tab.env m 152 (.map (some bm)) (.int .i64 n) ok = some (bif ok then .tuple #[.agg #[.int .i64 0, .bool false, .int .i64 0, .int .i64 0], .bool false] else .agg #[.int .i64 0, .bool false, .int .i64 0, .int .i64 0]) ∨
    (∃ e ∈ es, e.key = .int .i64 n) ∧ lookup? Tab.env m 152 (.map (some bm)) (.int .i64 n) ok = some (bif ok then .tuple #[.agg (fndS l q n).c.toArray, .bool true] else .agg (fndS l q n).c.toArray) := by
  rcases findKey_int (i := 0) h (n := n) with ⟨h1, h2⟩ | ⟨j, h1, h2⟩
  · refine .inl ⟨h2, ?_⟩
    simp only [lookup?, ty152, Tab.t152, hm, keyed_int, cond_true, h1, zero150, Option.map_some]
  · refine .inr ⟨h2, ?_⟩
    simp only [lookup?, ty152, Tab.t152, hm, keyed_int, cond_true, h1]
/-- A new entry in the judge's map. -/
theorem mapUpd_new {l : Law} {q : Query} {bm : Nat} {n : Int} {v : Value} {es : List MapEntry} {clock : Nat} (hm : m.get bm = .map es clock) (h : MI l q es) (hv : v = .agg (fndS l q n).c.toArray) :
    ∃ es' clock', mapUpd? Tab.env m 152 (.map (some bm)) (.int .i64 n) v = some (m.set bm (.map es' clock'), bm) ∧ MI l q es' ∧ (∃ e ∈ es', e.key = .int .i64 n) := by
  rcases findKey_int (i := 0) h (n := n) with ⟨h1, h2⟩ | ⟨j, h1, e0, he0, hk0⟩
  · refine ⟨es ++ [{ key := .int .i64 n, val := v, born := clock }], clock + 1, ?_, fun e he => ?_, ⟨_, List.mem_append_right _ List.mem_cons_self, rfl⟩⟩
    · simp only [mapUpd?, mapUpdate?, ty152, Tab.t152, hm, keyed_int, cond_true, h1]
    · rcases List.mem_append.1 he with he | he
      · exact h e he
      · rcases List.mem_cons.1 he with rfl | he
        · exact ⟨n, rfl, hv⟩
        · cases he
  · refine ⟨es.modify j fun e => { e with key := .int .i64 n, val := v }, clock, ?_, fun e he => ?_, ?_⟩
    · simp only [mapUpd?, mapUpdate?, ty152, Tab.t152, hm, keyed_int, cond_true, h1]
    · obtain ⟨i, hi⟩ := List.mem_iff_getElem?.1 he
      rw [List.getElem?_modify] at hi
      cases hei : es[i]? with
      | none => rw [hei] at hi; simp at hi
      | some e1 =>
        rw [hei] at hi
        by_cases hij : j = i
        · simp [hij] at hi; subst hi; exact ⟨n, rfl, hv⟩
        · simp [hij] at hi; subst hi; exact h e1 (List.mem_of_getElem? hei)
    · obtain ⟨i, hi⟩ := List.mem_iff_getElem?.1 he0
      have : (es.modify j fun e => { e with key := .int .i64 n, val := v })[i]? = some (if j = i then { e0 with key := .int .i64 n, val := v } else e0) := by
        rw [List.getElem?_modify, hi]
        by_cases hij : j = i <;> simp [hij]
      refine ⟨_, List.mem_of_getElem? this, ?_⟩
      split
      · rfl
      · exact hk0
end Go.Proofs.YtbpmlholiohkpaaGreatDoor

/- Contracts: the judge: so and find. -/
namespace Go.Proofs.YtbpmlholiohkpaaGreatDoor
open Go Go.D
variable {X : CallFn} {m : M}

/-- A judge. -/
structure J (l : Law) (q : Query) (bj bm : Nat) (v1 v2 v3 w1 w2 : Value) (m : M) : Prop where
  row : m.get bj = .cells [v1, v2, v3, w1, w2, .map (some bm)] 154 none
  law : LawV m l v1 v2 v3
  facts : Sl m (l.facts' q) w1
  rules : Sl m (l.rules' q) w2
  map : MapOK l q m bm
section
variable {l : Law} {q : Query} {bj bm : Nat} {v1 v2 v3 w1 w2 : Value}
theorem J.keep {m' : M} (h : J l q bj bm v1 v2 v3 w1 w2 m) (hk : KC m m') (hm : MapOK l q m' bm) : J l q bj bm v1 v2 v3 w1 w2 m' :=
  ⟨hk.get _ _ _ _ h.row, hk.law h.law, hk.sl h.facts, hk.sl h.rules, hm⟩
theorem J.lt (h : J l q bj bm v1 v2 v3 w1 w2 m) : bm < m.n := by
  obtain ⟨es, clock, h1, _⟩ := h.map
  exact M.lt_of_map h1
theorem MapOK.ext {m' : M} (h : MapOK l q m bm) (he : Ext m m') : MapOK l q m' bm := by
  obtain ⟨es, clock, h1, h2⟩ := h
  exact ⟨es, clock, by rw [he.get bm (M.lt_of_map h1), h1], h2⟩
theorem J.ext {m' : M} (h : J l q bj bm v1 v2 v3 w1 w2 m) (he : Ext m m') : J l q bj bm v1 v2 v3 w1 w2 m' := h.keep (.of_ext he) (h.map.ext he)
/-- What so does, of one number. -/
def SoC (X : CallFn) (l : Law) (q : Query) (bj bm : Nat) (v1 v2 v3 w1 w2 : Value) (n : Int) : Prop :=
  ∀ m, J l q bj bm v1 v2 v3 w1 w2 m → ∃ m' b, C X (.func 61) [ptrTo bj, .int .i64 n] m b (.bool (soS l q n)) m' ∧ KC m m' ∧ MapOK l q m' bm ∧ Known m' bm n ∧ bm ≤ b
def FindC (X : CallFn) (l : Law) (q : Query) (bj bm : Nat) (v1 v2 v3 w1 w2 : Value) (n : Int) : Prop :=
  ∀ m, J l q bj bm v1 v2 v3 w1 w2 m → ∃ m' b, C X (.func 110) [ptrTo bj, .int .i64 n] m b (.agg (fndS l q n).c.toArray) m' ∧ KC m m' ∧ MapOK l q m' bm ∧ bm ≤ b
theorem isNot_ok (hX : NoX X) {n : Int} (hs : SoC X l q bj bm v1 v2 v3 w1 w2 n) (hJ : J l q bj bm v1 v2 v3 w1 w2 m) {bx : Nat} {e : TypeId} {g : Option Nat} (hb : m.get bx = .cells [ptrTo bj] e g) :
    ∃ m' b, C X (.func 150) [.int .i64 n, ptrTo bx] m b (.bool (!(soS l q n))) m' ∧ KC m m' ∧ MapOK l q m' bm ∧ bm ≤ b := by
  have hlt := hJ.lt
  obtain ⟨m1, b1, hc, hk, hm, _, hb1⟩ := hs m hJ
  have key := Cl.gen (E := Tab.env) (X := X) (f := 150) (args := [.int .i64 n, ptrTo bx]) (m := m) (R := fun w m' b => w = .bool (!(soS l q n)) ∧ KC m m' ∧ MapOK l q m' bm ∧ bm ≤ b) (hX.no 150 rfl) fn_150 rfl ?_
  · obtain ⟨w, m', b, hc, rfl, h3⟩ := key
    exact ⟨m', b, hc, h3⟩
  · rw [F150]
    rw [show load? Tab.env m 134 (ptrTo bx) = some (ptrTo bj) by rw [ptrTo, load_134, cellAt_of hb]; rfl, onS_some]
    refine onC_of hc ?_
    simp only [un_not, onS_some]
    by_cases hcc : m.n ≤ min m.n b1
    · exact .inl ⟨rfl, hcc, rfl, .refl, hJ.map, by omega⟩
    · exact .inr ⟨.inr (by omega), rfl, hk, hm, by omega⟩
theorem find_hit {p : Int → Bool} {l : List Int} {i : Nat} {x : Int} (hx : l[i]? = some x) (hp : p x = true) (h : ∀ j y, j < i → l[j]? = some y → p y = false) : l.find? p = some x := by
  rw [List.find?_eq_some_iff_getElem]
  have hlt := (List.getElem?_eq_some_iff.1 hx).1
  refine ⟨hp, i, hlt, (List.getElem?_eq_some_iff.1 hx).2, fun j hj => ?_⟩
  have := h j l[j] hj (List.getElem?_eq_getElem (by omega))
  simp [this]
theorem find_miss {p : Int → Bool} {l : List Int} (h : ∀ j y, j < l.length → l[j]? = some y → p y = false) : l.find? p = none := by
  rw [List.find?_eq_none]
  intro x hx
  obtain ⟨j, hj⟩ := List.mem_iff_getElem?.1 hx
  rw [h j x (List.getElem?_eq_some_iff.1 hj).1 hj]
  exact Bool.false_ne_true
theorem facts_mem {i : Nat} {z : Int} (h : (l.facts' q)[i]? = some z) : ∃ (k : Nat) (x : Fact), z = k ∧ l.facts[k]? = some x ∧ statesB q x = true := by
  obtain ⟨k, h1, h2, rfl⟩ := mem_sel.1 (List.mem_of_getElem? h)
  have hx : l.facts[k]? = some l.facts[k] := List.getElem?_eq_getElem h1
  rw [hx] at h2
  exact ⟨k, _, rfl, hx, h2⟩
theorem rules_mem {i : Nat} {z : Int} (h : (l.rules' q)[i]? = some z) : ∃ (k : Nat) (x : Clause), z = k ∧ l.clauses[k]? = some x ∧ rulesB l q k = true := by
  obtain ⟨k, h1, h2, rfl⟩ := mem_sel.1 (List.mem_of_getElem? h)
  exact ⟨k, _, rfl, List.getElem?_eq_getElem h1, h2⟩
theorem law_sizes (h : l.ok = true) : l.clauses.length ≤ 20 ∧ l.repeals.length ≤ 10 ∧ l.facts.length ≤ 20 := by
  simp only [Law.ok, Bool.and_eq_true, decide_eq_true_eq] at h
  exact ⟨h.1, h.2.1, h.2.2.1⟩
theorem facts_len (h : l.ok = true) : (l.facts' q).length ≤ 20 := Nat.le_trans sel_length (law_sizes h).2.2
theorem rules_len (h : l.ok = true) : (l.rules' q).length ≤ 20 := Nat.le_trans sel_length (law_sizes h).1
/-- find, where so is known of lesser numbers. -/
theorem find_ok (hX : NoX X) (hlo : l.ok = true) {n : Int} (hs : ∀ k, 0 ≤ k → k < n → SoC X l q bj bm v1 v2 v3 w1 w2 k) : FindC X l q bj bm v1 v2 v3 w1 w2 n := by
  intro m hJ
  have hlt := hJ.lt
  have hfl := facts_len (q := q) hlo
  have hrl := rules_len (q := q) hlo
  have key := Cl.gen (E := Tab.env) (X := X) (f := 110) (args := [ptrTo bj, .int .i64 n]) (m := m) (R := fun w m' b => w = .agg (fndS l q n).c.toArray ∧ KC m m' ∧ MapOK l q m' bm ∧ bm ≤ b) (hX.no 110 rfl) fn_110 rfl ?_
  · obtain ⟨w, m', b, hc, rfl, h3⟩ := key
    exact ⟨m', b, hc, h3⟩
  · have hfin : ∀ (lo : Nat) (mm : M) (v : Value), v = .agg (fndS l q n).c.toArray → KC m mm → MapOK l q mm bm → bm ≤ lo →
        (flat2 (mkres [v]) = true ∧ m.n ≤ lo ∧ mkres [v] = .agg (fndS l q n).c.toArray ∧ KC m m ∧ MapOK l q m bm ∧ bm ≤ m.n) ∨ ((flat2 (mkres [v]) = false ∨ lo < m.n) ∧ mkres [v] = .agg (fndS l q n).c.toArray ∧ KC m mm ∧ MapOK l q mm bm ∧ bm ≤ min m.n lo) := by
      rintro lo mm v rfl hk hm hb
      by_cases hcc : m.n ≤ lo
      · exact .inl ⟨rfl, hcc, rfl, .refl, hJ.map, by omega⟩
      · exact .inr ⟨.inr (by omega), rfl, hk, hm, by omega⟩
    rw [F110]
    refine onM_push fun m1 hn1 hg1 hk1 => ?_
    refine onM_push fun m2 hn2 hg2 hk2 => ?_
    have he2 : Ext m m2 := ⟨by omega, fun b hb => by rw [hk2 b (by omega), hk1 b hb]⟩
    have hJ2 := hJ.ext he2
    have hg1' : m2.get m.n = .cells [ptrTo bj] 134 none := (hk2 m.n (by omega)).trans hg1
    -- the judge's fields, at any store that has the rows
    have hptr : ∀ mm, KC m2 mm → load? Tab.env mm 134 (ptrTo m.n) = some (ptrTo bj) := fun mm hk => by rw [ptrTo, load_134, cellAt_of (hk.get _ _ _ _ hg1')]; rfl
    rw [hptr m2 .refl, onS_some]
    simp only [ptrTo, nilck_ptr, onS_some, fieldAddr_154_1, load_26, cellAt_of hJ2.row, Nat.zero_add, List.getElem?_cons_zero, List.getElem?_cons_succ]
    rw [hJ2.facts.len slt_int, on2_some]
    refine Lp.intro (γ := Nat) (fun i => (l.facts' q).length - i) (fun i vs mm lo => vs = [.int .i64 i] ∧ i ≤ (l.facts' q).length ∧ mm = m2 ∧ lo = m.n ∧ ∀ j x, j < i → (l.facts' q)[j]? = some x → factSays l n x = false) 0 ⟨rfl, Nat.zero_le _, rfl, rfl, fun j x hj => by omega⟩ ?_
    rintro i vs mm lo ⟨rfl, hi, rfl, rfl, hno⟩
    simp only [un_cons, bin_lss, onS_some, ifV_bool]
    refine ifB_intro (fun hlt2 => ?_) (fun hge => ?_)
    · have hlt2 : i < (l.facts' q).length := by simpa using hlt2
      have hx : (l.facts' q)[i]? = some (l.facts' q)[i] := List.getElem?_eq_getElem hlt2
      obtain ⟨k, f, hz, hf, _⟩ := facts_mem hx
      rw [hz] at hx
      obtain ⟨p, cs, e1, e2, rfl⟩ := hJ2.facts.index slt_int (k := .i64) hx
      rw [e1, onS_some, e2, onS_some, val_int]
      have hp := hptr mm .refl
      rw [ptrTo, ptrTo] at hp
      rw [hp, onS_some]
      simp only [nilck_ptr, onS_some, fieldAddr_154_0, fieldAddr_38_2, load_36, cellAt_of hJ2.row, Nat.zero_add, Nat.add_zero, List.getElem?_cons_zero, List.getElem?_cons_succ]
      obtain ⟨bb, oo, bc, gg, cs, e3, e4, rfl, e6, e7⟩ := hJ2.law.facts.indexA slt_fact (k := .i64) hf
      rw [e3, onS_some, fieldAddr_66_1, onS_some, load_3, cellAt_of e4, e7 1 (by simp [Rep.sz])]
      simp only [List.getElem?_cons_zero, List.getElem?_cons_succ, bin_eql, onS_some, ifV_bool]
      have hsays : factSays l n (k : Int) = decide (f.says = n) := by simp only [factSays, Int.toNat_natCast, hf]
      refine ifB_intro (fun heq => ?_) (fun hne => ?_)
      · rw [build_150_0_1_2_3 rfl rfl rfl rfl, onS_some]
        refine on2_store ty_150 hg2 (by rfl) (by simp [cells_agg, cells_int, cells_bool]) rfl fun m3 hn3 hg3 hk3 => ?_
        rw [load_150, loadCells_of hg3 (by simp [cells_agg, cells_int, cells_bool])]
        have he3 : Ext m m3 := ⟨by omega, fun b hb => by rw [hk3 b (by omega), he2.get b hb]⟩
        refine hfin _ m3 _ ?_ (.of_ext he3) (hJ.map.ext he3) (by omega)
        have : fndS l q n = ⟨n, true, k, -1⟩ := by
          unfold fndS findS
          rw [find_hit hx (by rw [hsays]; exact heq) hno]
        rw [this]
        rfl
      · simp only [bin_add, onS_some]
        refine ⟨i + 1, by omega, ?_, by omega, by trivial, by trivial, fun j y hj hy => ?_⟩
        · rw [wrap64 (by omega) (by omega)]; rfl
        · by_cases e : j = i
          · subst e; rw [hx] at hy; cases hy; rw [hsays]; exact hne
          · exact hno j y (by omega) hy
    · have hge : i = (l.facts' q).length := by
        have : ¬ ((i : Int) < ((l.facts' q).length : Int)) := by simpa using hge
        omega
      subst hge
      have hnone := find_miss fun j y hj hy => hno j y hj hy
      have hp := hptr mm .refl
      rw [ptrTo, ptrTo] at hp
      rw [hp, onS_some]
      simp only [nilck_ptr, onS_some, fieldAddr_154_2, load_26, cellAt_of hJ2.row, Nat.zero_add, List.getElem?_cons_zero, List.getElem?_cons_succ]
      rw [hJ2.rules.len slt_int, on2_some]
      refine Lp.intro (γ := Nat) (fun i => (l.rules' q).length - i) (fun i vs mk lo => vs = [.int .i64 i] ∧ i ≤ (l.rules' q).length ∧ KC mm mk ∧ MapOK l q mk bm ∧ bm ≤ lo ∧ ∀ j x, j < i → (l.rules' q)[j]? = some x → takes l (soS l q) n x = false) 0 ⟨rfl, Nat.zero_le _, .refl, hJ2.map, by omega, fun j x hj => by omega⟩ ?_
      rintro i vs mk lo ⟨rfl, hi, hkc, hmk, hlo2, hno2⟩
      have hJk := hJ2.keep hkc hmk
      have hKm : KC m mk := (KC.of_ext he2).trans hkc
      simp only [un_cons, bin_lss, onS_some, ifV_bool]
      refine ifB_intro (fun hlt2 => ?_) (fun hge => ?_)
      · have hlt2 : i < (l.rules' q).length := by simpa using hlt2
        have hx : (l.rules' q)[i]? = some (l.rules' q)[i] := List.getElem?_eq_getElem hlt2
        obtain ⟨k, c, hz, hcl, _⟩ := rules_mem hx
        rw [hz] at hx
        obtain ⟨p, cs, e1, e2, rfl⟩ := hJk.rules.index slt_int (k := .i64) hx
        rw [e1, onS_some, e2, onS_some, val_int]
        have hp := hptr mk hkc
        rw [ptrTo, ptrTo] at hp
        rw [hp, onS_some]
        simp only [nilck_ptr, onS_some, fieldAddr_154_0, fieldAddr_38_0, load_34, cellAt_of hJk.row, Nat.zero_add, Nat.add_zero, List.getElem?_cons_zero, List.getElem?_cons_succ]
        obtain ⟨p, cs, e3, e4, vn, vb, rfl, hvn, hvb⟩ := hJk.law.clauses.index slt_clause (k := .i64) hcl
        rw [e3, onS_some, e4, onS_some, val_agg rfl]
        have hcok := clause_ok hlo hcl
        obtain ⟨hg0, hg20, hneeds, hbars, hnl, hbl⟩ := clause_bounds hcok
        have htakes : takes l (soS l q) n (k : Int) = (decide (c.gives = n) && (!(c.needs.any fun k => !soS l q k) && !(c.bars.any (soS l q)))) := by simp only [takes, Int.toNat_natCast, hcl]
        -- no: the next clause
        have hnext : ∀ mk2 lo3, takes l (soS l q) n (k : Int) = false → KC mk mk2 → MapOK l q mk2 bm → bm ≤ lo3 → (onS (bin? Tab.env .add 3 (.int .i64 (i : Int)) (.int .i64 1)) fun v =>
            ∃ g', (l.rules' q).length - g' < (l.rules' q).length - i ∧ [v] = [.int .i64 (g' : Int)] ∧ g' ≤ (l.rules' q).length ∧ KC mm mk2 ∧ MapOK l q mk2 bm ∧ bm ≤ lo3 ∧ ∀ j x, j < g' → (l.rules' q)[j]? = some x → takes l (soS l q) n x = false) := by
          intro mk2 lo3 ht hk2 hm2 hl3
          simp only [bin_add, onS_some]
          refine ⟨i + 1, by omega, ?_, by omega, hkc.trans hk2, hm2, hl3, fun j y hj hy => ?_⟩
          · rw [wrap64 (by omega) (by omega)]; rfl
          · by_cases e : j = i
            · subst e; rw [hx] at hy; cases hy; exact ht
            · exact hno2 j y (by omega) hy
        refine onM_push fun m3 hn3 hg3 hk3 => ?_
        have hones : (cells (Value.agg (c.cs vn vb).toArray)).all D.one = true := by
          rw [cells_agg]
          exact Rep.ones (α := Clause) (m := mk) (x := c) ⟨vn, vb, rfl, hvn, hvb⟩
        refine on2_store ty_64 hg3 (by rfl) (by simp [cells_agg, Clause.cs]) hones fun m4 hn4 hg4 hk4 => ?_
        have he4 : Ext mk m4 := ⟨by omega, fun b hb => by rw [hk4 b (by omega), hk3 b hb]⟩
        have hk4c : KC mk m4 := .of_ext he4
        have hJ4 := hJk.ext he4
        have hx4 : m4.get mk.n = .cells (c.cs vn vb) 64 none := by rw [hg4]; simp [cells_agg, Clause.cs]
        simp only [Clause.cs] at hx4
        have hknn := hkc.n
        simp only [fieldAddr_64_4, load_3, cellAt_of hx4, Nat.zero_add, List.getElem?_cons_zero, List.getElem?_cons_succ, onS_some, bin_eql, ifV_bool]
        refine ifB_intro (fun hgv => ?_) (fun hgv => ?_)
        · have hgv : c.gives = n := by simpa using hgv
          simp only [fieldAddr_64_2, load_26, cellAt_of hx4, Nat.zero_add, List.getElem?_cons_zero, List.getElem?_cons_succ, onS_some]
          obtain ⟨m5, b5, hc5, ⟨hk5, hm5⟩, hb5⟩ := containsFunc118_st hX (m := m4) (l := c.needs) (v := vn) (g := .func 150) (fi := #[]) (ca := #[ptrTo m.n]) (fun k => !(soS l q k)) (fun mx => KC m4 mx ∧ MapOK l q mx bm) bm (by omega)
            (fun mx hmx => hmx.1.sl (hvn.keepE he4)) (fun z hz mx hmx => by
              have hzb := hneeds z hz
              have hJx := hJ4.keep hmx.1 hmx.2
              obtain ⟨m6, b6, q1, q2, q3, q4⟩ := isNot_ok hX (hs z hzb.1 (by omega)) hJx (((hkc.trans hk4c).trans hmx.1).get _ _ _ _ hg1')
              exact ⟨b6, m6, q1, ⟨hmx.1.trans q2, q3⟩, q4⟩) ⟨.refl, hJ4.map⟩ (by have := hJ4.lt; omega)
          refine onC_of hc5 ?_
          simp only [un_not, onS_some, ifV_bool]
          have hJ5 := hJ4.keep hk5 hm5
          have hx5 := hk5.get _ _ _ _ hx4
          refine ifB_intro (fun hn => ?_) (fun hn => ?_)
          · simp only [fieldAddr_64_3, load_26, cellAt_of hx5, Nat.zero_add, List.getElem?_cons_zero, List.getElem?_cons_succ, onS_some]
            have hp := hptr m5 ((hkc.trans hk4c).trans hk5)
            rw [ptrTo, ptrTo] at hp
            rw [hp, onS_some]
            obtain ⟨m6, b6, hc6, ⟨hk6, hm6⟩, hb6⟩ := containsFunc118_st hX (m := m5) (l := c.bars) (v := vb) (g := .func 61) (fi := #[ptrTo bj]) (ca := #[]) (soS l q) (fun mx => KC m5 mx ∧ MapOK l q mx bm) bm (by omega)
              (fun mx hmx => hmx.1.sl (hk5.sl (hvb.keepE he4))) (fun z hz mx hmx => by
                have hzb := hbars z hz
                have hJx := hJ5.keep hmx.1 hmx.2
                obtain ⟨m7, b7, q1, q2, q3, _, q4⟩ := hs z hzb.1 (by omega) mx hJx
                exact ⟨b7, m7, q1, ⟨hmx.1.trans q2, q3⟩, q4⟩) ⟨.refl, hJ5.map⟩ (by have := hJ5.lt; omega)
            refine onC_of hc6 ?_
            simp only [un_not, onS_some, ifV_bool]
            have hall : KC mk m6 := (hk4c.trans hk5).trans hk6
            refine ifB_intro (fun hb => ?_) (fun hb => ?_)
            · rw [build_150_0_1_2_3 rfl rfl rfl rfl, onS_some]
              have hbox : m6.get m1.n = .cells [.int .i64 0, .bool false, .int .i64 0, .int .i64 0] 150 none := (hkc.trans hall).get _ _ _ _ hg2
              refine on2_store ty_150 hbox (by rfl) (by simp [cells_agg, cells_int, cells_bool]) rfl fun m7 hn7 hg7 hk7 => ?_
              rw [load_150, loadCells_of hg7 (by simp [cells_agg, cells_int, cells_bool])]
              have hknn6 := (hkc.trans hall).n
              have hne : ∀ b, b < m.n → b ≠ m1.n := fun b hb => by omega
              have hk7' : KC m m7 := ⟨by have := (hKm.trans hall).n; omega, fun cc xs ee gg hh => by
                rw [hk7 cc (hne cc (M.lt_of_get hh))]; exact (hKm.trans hall).get _ _ _ _ hh, fun cc xs hh => by
                rw [hk7 cc (hne cc (lt_of_ro hh))]; exact (hKm.trans hall).ro _ _ hh⟩
              have hm7 : MapOK l q m7 bm := by
                obtain ⟨es, clock, h1, h2⟩ := hm6
                exact ⟨es, clock, by rw [hk7 bm (by omega), h1], h2⟩
              refine hfin _ m7 _ ?_ hk7' hm7 (by have := hJk.lt; omega)
              have : fndS l q n = ⟨n, true, -1, k⟩ := by
                unfold fndS findS
                rw [hnone, find_hit hx (by rw [htakes, hgv]; simp only [Bool.not_eq_true'] at hn hb; simp [hn, hb]) hno2]
              rw [this]
              rfl
            · exact hnext m6 _ (by rw [htakes]; simp only [Bool.not_eq_false'] at hb; simp [hb]) hall hm6 (by have := hJk.lt; omega)
          · exact hnext m5 _ (by rw [htakes]; simp only [Bool.not_eq_false'] at hn; simp [hn]) (hk4c.trans hk5) hm5 (by have := hJk.lt; omega)
        · exact hnext m4 _ (by rw [htakes]; simp only [hgv, Bool.false_and]) hk4c hJ4.map (by have := hJk.lt; omega)
      · have hge : i = (l.rules' q).length := by
          have : ¬ ((i : Int) < ((l.rules' q).length : Int)) := by simpa using hge
          omega
        subst hge
        rw [build_150_0_2_3 rfl rfl rfl, onS_some]
        have hbox : mk.get m1.n = .cells [.int .i64 0, .bool false, .int .i64 0, .int .i64 0] 150 none := hkc.get _ _ _ _ hg2
        refine on2_store ty_150 hbox (by rfl) (by simp [cells_agg, cells_int, cells_bool]) rfl fun m7 hn7 hg7 hk7 => ?_
        rw [load_150, loadCells_of hg7 (by simp [cells_agg, cells_int, cells_bool])]
        have hk7' : KC m m7 := ⟨by have := hKm.n; omega, fun cc xs ee gg hh => by
          rw [hk7 cc (by have := M.lt_of_get hh; omega)]; exact hKm.get _ _ _ _ hh, fun cc xs hh => by
          rw [hk7 cc (by have := lt_of_ro hh; omega)]; exact hKm.ro _ _ hh⟩
        have hm7 : MapOK l q m7 bm := by
          obtain ⟨es, clock, h1, h2⟩ := hmk
          exact ⟨es, clock, by rw [hk7 bm (by omega), h1], h2⟩
        refine hfin _ m7 _ ?_ hk7' hm7 (by omega)
        have : fndS l q n = ⟨n, false, -1, -1⟩ := by
          unfold fndS findS
          rw [hnone, find_miss fun j y hj hy => hno2 j y hj hy]
        rw [this]
        rfl
end
end Go.Proofs.YtbpmlholiohkpaaGreatDoor

/- Contracts: the judge: so, of every number; open. -/
namespace Go.Proofs.YtbpmlholiohkpaaGreatDoor
open Go Go.D
variable {X : CallFn} {m : M}
section
variable {l : Law} {q : Query} {bj bm : Nat} {v1 v2 v3 w1 w2 : Value}
theorem so_step (hX : NoX X) (hlo : l.ok = true) {n : Int} (h0 : 0 ≤ n) (h1 : n < 20) (hf : FindC X l q bj bm v1 v2 v3 w1 w2 n) : SoC X l q bj bm v1 v2 v3 w1 w2 n := by
  intro m hJ
  have hlt := hJ.lt
  have hso := soS_eq hlo q h0 h1
  have key := Cl.gen (E := Tab.env) (X := X) (f := 61) (args := [ptrTo bj, .int .i64 n]) (m := m) (R := fun w m' b => w = .bool (soS l q n) ∧ KC m m' ∧ MapOK l q m' bm ∧ Known m' bm n ∧ bm ≤ b) (hX.no 61 rfl) fn_61 rfl ?_
  · obtain ⟨w, m', b, hc, rfl, h3⟩ := key
    exact ⟨m', b, hc, h3⟩
  · rw [F61]
    obtain ⟨es, clock, hmap, hMI⟩ := hJ.map
    simp only [ptrTo, nilck_ptr, onS_some, fieldAddr_154_3, load_152, cellAt_of hJ.row, Nat.zero_add, List.getElem?_cons_zero, List.getElem?_cons_succ]
    rcases lookup_found (ok := true) (n := n) hmap hMI with ⟨hno, hlk⟩ | ⟨hyes, hlk⟩
    · rw [hlk]
      simp only [cond_true, onS_some, extr_tuple, List.getElem?_cons_zero, List.getElem?_cons_succ]
      refine onM_push fun m1 hn1 hg1 hk1 => ?_
      refine on2_storeV ty_150 hg1 (by rfl) (by rfl) rfl fun m2 hn2 hg2 hk2 => ?_
      simp only [un_not, onS_some, Bool.not_false, ifV_bool, ifB_true]
      have he2 : Ext m m2 := ⟨by omega, fun b hb => by rw [hk2 b (by omega), hk1 b hb]⟩
      obtain ⟨m3, b3, hc3, hk3, hm3, hb3⟩ := hf m2 (hJ.ext he2)
      refine onC_of hc3 ?_
      have hbox := hk3.get _ _ _ _ hg2
      simp only [cells_agg] at hbox
      refine on2_storeV ty_150 hbox (by rfl) (by rfl) rfl fun m4 hn4 hg4 hk4 => ?_
      have hknn := hk3.n
      have hkc4 : KC m m4 := ⟨by omega, fun cc xs ee gg hh => by
        rw [hk4 cc (by have := M.lt_of_get hh; omega)]; exact ((KC.of_ext he2).trans hk3).get _ _ _ _ hh, fun cc xs hh => by
        rw [hk4 cc (by have := lt_of_ro hh; omega)]; exact ((KC.of_ext he2).trans hk3).ro _ _ hh⟩
      have hm4 : MapOK l q m4 bm := by
        obtain ⟨es, clock, h1, h2⟩ := hm3
        exact ⟨es, clock, by rw [hk4 bm (by omega), h1], h2⟩
      have hJ4 := hJ.keep hkc4 hm4
      simp only [cellAt_of hJ4.row, Nat.zero_add, List.getElem?_cons_zero, List.getElem?_cons_succ, onS_some]
      rw [load_150, loadCells_of hg4 (by simp [cells_agg])]
      obtain ⟨es4, clock4, hmap4, hMI4⟩ := hm4
      obtain ⟨es5, clock5, hupd, hMI5, hkn5⟩ := mapUpd_new (n := n) (v := .agg (fndS l q n).c.toArray) hmap4 hMI4 rfl
      simp only [Option.map_some, onS_some]
      rw [show Value.agg (List.take 4 (List.drop 0 (cells (Value.agg (fndS l q n).c.toArray)))).toArray = .agg (fndS l q n).c.toArray by rfl, hupd, on2_some]
      have hne : m.n ≠ bm := by omega
      have hg5 : (m4.set bm (.map es5 clock5)).get m.n = m4.get m.n := M.get_set_ne hne
      simp only [fieldAddr_150_1, onS_some, load_4, Nat.zero_add]
      rw [cellAt_of (hg5.trans hg4)]
      simp only [cells_agg, List.take_zero, List.nil_append, List.cons_append, List.getElem?_cons_zero, List.getElem?_cons_succ, onS_some]
      refine .inr ⟨.inr (by omega), by rw [mkres, hso], ⟨hkc4.n, fun cc xs ee gg hh => ?_, fun cc xs hh => by
        rw [M.get_set_ne (fun e => by subst e; rw [hmap] at hh; cases hh)]
        exact hkc4.ro _ _ hh⟩, ⟨es5, clock5, M.get_set_same (M.lt_of_map hmap4), hMI5⟩, ⟨es5, clock5, M.get_set_same (M.lt_of_map hmap4), hkn5⟩, by omega⟩
      rw [M.get_set_ne (fun e => by subst e; rw [hmap] at hh; cases hh)]
      exact hkc4.get _ _ _ _ hh
    · rw [hlk]
      simp only [cond_true, onS_some, extr_tuple, List.getElem?_cons_zero, List.getElem?_cons_succ]
      refine onM_push fun m1 hn1 hg1 hk1 => ?_
      refine on2_storeV ty_150 hg1 (by rfl) (by rfl) rfl fun m2 hn2 hg2 hk2 => ?_
      simp only [un_not, onS_some, Bool.not_true, ifV_bool, ifB_false, fieldAddr_150_1, load_4, Nat.zero_add]
      rw [cellAt_of hg2]
      simp only [cells_agg, List.take_zero, List.nil_append, List.cons_append, List.getElem?_cons_zero, List.getElem?_cons_succ, onS_some]
      exact .inl ⟨rfl, by omega, by rw [mkres, hso], .refl, ⟨es, clock, hmap, hMI⟩, ⟨es, clock, hmap, hyes⟩, by omega⟩
/-- so, of every number that laws speak of. -/
theorem so_ok (hX : NoX X) (hlo : l.ok = true) : ∀ k : Nat, k < 20 → SoC X l q bj bm v1 v2 v3 w1 w2 k := by
  intro k
  induction k using Nat.strongRecOn with
  | ind k ih =>
    intro hk
    refine so_step hX hlo (by omega) (by omega) (find_ok hX hlo fun j h0 hj => ?_)
    obtain ⟨i, rfl⟩ : ∃ i : Nat, j = i := ⟨j.toNat, by omega⟩
    exact ih i (by omega) (by omega)
end
/-- open. -/
theorem open_ok (hX : NoX X) {l : Law} {v1 v2 v3 : Value} (hl : LawV m l v1 v2 v3) (q : Query) (hlo : l.ok = true) (hqo : q.ok = true) :
    ∃ bj bm w1 w2 m', C X (.func 40) [.agg #[v1, v2, v3], q.v] m m.n (.tuple #[ptrTo bj, .int .i64 0]) m' ∧ J l q bj bm v1 v2 v3 w1 w2 m' ∧ Ext m m' ∧ m.n ≤ bj ∧ m.n ≤ bm := by
  have key := Cl.heap (E := Tab.env) (X := X) (f := 40) (args := [.agg #[v1, v2, v3], q.v]) (m := m) (R := fun v m' b => ∃ bj bm w1 w2, v = .tuple #[ptrTo bj, .int .i64 0] ∧ b = m.n ∧ J l q bj bm v1 v2 v3 w1 w2 m' ∧ Ext m m' ∧ m.n ≤ bj ∧ m.n ≤ bm) (hX.no 40 rfl) fn_40 rfl ?_
  · obtain ⟨v, m', b, hc, bj, bm, w1, w2, rfl, rfl, h3⟩ := key
    exact ⟨bj, bm, w1, w2, m', hc, h3⟩
  · rw [F40]
    refine onM_push fun m1 hn1 hg1 hk1 => ?_
    refine onM_push fun m2 hn2 hg2 hk2 => ?_
    have hg1' := (hk2 m.n (by omega)).trans hg1
    simp only [cells_agg] at hg1' hg2
    have he2 : Ext m m2 := ⟨by omega, fun b hb => by rw [hk2 b (by omega), hk1 b hb]⟩
    simp only [onS_some, on2_some, onFn_func, ifV_bool, ifB_true, ifB_false, bin_leq, bin_lss, bin_geq, bin_gtr, bin_eql, bin_neq, un_not, ptrTo, nilck_ptr, nilck_func, Nat.zero_add, Nat.reduceAdd, List.getElem?_cons_zero, List.getElem?_cons_succ, List.drop_zero, List.drop_succ_cons, List.take_succ_cons, List.take_zero, Option.map_some, cells_agg, cells_int, cells_bool, cells_slice, cells_ptr, cells_map, cells_func, build_154_0_1_2_3, load_38, load_55]
    rw [loadCells_of hg1' (by simp)]
    simp only [onS_some, on2_some, onFn_func, ifV_bool, ifB_true, ifB_false, bin_leq, bin_lss, bin_geq, bin_gtr, bin_eql, bin_neq, un_not, ptrTo, nilck_ptr, nilck_func, Nat.zero_add, Nat.reduceAdd, List.getElem?_cons_zero, List.getElem?_cons_succ, List.drop_zero, List.drop_succ_cons, List.take_succ_cons, List.take_zero, Option.map_some, cells_agg, cells_int, cells_bool, cells_slice, cells_ptr, cells_map, cells_func]
    rw [loadCells_of hg2 (by simp)]
    simp only [onS_some, on2_some, onFn_func, ifV_bool, ifB_true, ifB_false, bin_leq, bin_lss, bin_geq, bin_gtr, bin_eql, bin_neq, un_not, ptrTo, nilck_ptr, nilck_func, Nat.zero_add, Nat.reduceAdd, List.getElem?_cons_zero, List.getElem?_cons_succ, List.drop_zero, List.drop_succ_cons, List.take_succ_cons, List.take_zero, Option.map_some, cells_agg, cells_int, cells_bool, cells_slice, cells_ptr, cells_map, cells_func]
    obtain ⟨w1, w2, m3, hc3, hf3, hr3, he3⟩ := applies_ok hX (hl.keepE he2) q hlo hqo
    refine onC_of hc3 ?_
    simp only [extr_tuple, onS_some, on2_some, onFn_func, ifV_bool, ifB_true, ifB_false, bin_leq, bin_lss, bin_geq, bin_gtr, bin_eql, bin_neq, un_not, ptrTo, nilck_ptr, nilck_func, Nat.zero_add, Nat.reduceAdd, List.getElem?_cons_zero, List.getElem?_cons_succ, List.drop_zero, List.drop_succ_cons, List.take_succ_cons, List.take_zero, Option.map_some, cells_agg, cells_int, cells_bool, cells_slice, cells_ptr, cells_map, cells_func]
    rw [loadCells_of (he3.cells hg1') (by simp)]
    simp only [onS_some, on2_some, onFn_func, ifV_bool, ifB_true, ifB_false, bin_leq, bin_lss, bin_geq, bin_gtr, bin_eql, bin_neq, un_not, ptrTo, nilck_ptr, nilck_func, Nat.zero_add, Nat.reduceAdd, List.getElem?_cons_zero, List.getElem?_cons_succ, List.drop_zero, List.drop_succ_cons, List.take_succ_cons, List.take_zero, Option.map_some, cells_agg, cells_int, cells_bool, cells_slice, cells_ptr, cells_map, cells_func]
    refine onM_push fun m4 hn4 hg4 hk4 => ?_
    obtain ⟨a1, c1, rfl⟩ := hf3.form
    obtain ⟨a2, c2, rfl⟩ := hr3.form
    rw [build_154_0_1_2_3 rfl rfl rfl rfl, onS_some]
    refine onM_push fun m5 hn5 hg5 hk5 => ?_
    have he5 : Ext m3 m5 := ⟨by omega, fun b hb => by rw [hk5 b (by omega), hk4 b hb]⟩
    have heall : Ext m m5 := he2.trans (he3.trans he5)
    have h3n := he3.n
    refine ⟨.inl rfl, m4.n, m3.n, _, _, rfl, by omega, ⟨?_, hl.keepE heall, hf3.keepE he5, hr3.keepE he5, ?_⟩, heall, by omega, by omega⟩
    · rw [hg5]; rfl
    · exact ⟨[], 0, by rw [hk5 m3.n (by omega), hg4], fun e he => by cases he⟩
end Go.Proofs.YtbpmlholiohkpaaGreatDoor

/- Contracts: the judge: is a finding right? -/
namespace Go.Proofs.YtbpmlholiohkpaaGreatDoor
open Go Go.D
variable {X : CallFn} {m : M}

theorem bin_eqlB {a b : Bool} : bin? Tab.env .eql 4 (.bool a) (.bool b) = some (.bool (a == b)) := by
  simp only [bin?, eq?, show Tab.env.ty.get 4 = some Tab.t4 by kernel_rfl, Tab.t4, Option.map_some]
theorem bin_neqF {a c d a' c' d' : Int} {b b' : Bool} : bin? Tab.env .neq 150 (.agg #[.int .i64 a, .bool b, .int .i64 c, .int .i64 d]) (.agg #[.int .i64 a', .bool b', .int .i64 c', .int .i64 d']) =
    some (.bool (!((a == a') && ((b == b') && ((c == c') && ((d == d') && true)))))) := by
  simp only [bin?, eq?, ty_150, Tab.t150, eqCells, eqK, if_true, Option.map_some]
theorem contains121_ok (hX : NoX X) {l : List Int} {v : Value} (hl : Sl m l v) (hs : l.length < 4611686018427387904) (x : Int) : C X (.func 121) [v, .int .i64 x] m m.n (.bool (l.contains x)) m := by
  have h155 : C X (.func 155) [v, .int .i64 x] m m.n (.int .i64 (idx (fun z => decide (x = z)) l)) m := by
    refine Cl.flat (hX.no 155 rfl) fn_155 rfl rfl ?_
    rw [F155]
    rw [hl.len slt_int, on2_some]
    refine Lp.intro (γ := Nat) (fun i => l.length - i) (fun i vs mm lo => ∃ w, vs = [w, .int .i64 i] ∧ i ≤ l.length ∧ mm = m ∧ lo = m.n ∧ ∀ j z, j < i → l[j]? = some z → decide (x = z) = false) 0 ⟨_, rfl, Nat.zero_le _, rfl, rfl, fun j z hj => by omega⟩ ?_
    rintro i vs mm lo ⟨w, rfl, hi, rfl, rfl, hno⟩
    simp only [un_cons, bin_lss, onS_some, ifV_bool]
    refine ifB_intro (fun hlt => ?_) (fun hge => ?_)
    · have hlt : i < l.length := by simpa using hlt
      have hx : l[i]? = some l[i] := List.getElem?_eq_getElem hlt
      obtain ⟨p, cs, e1, e2, rfl⟩ := hl.index slt_int (k := .i64) hx
      rw [e1, onS_some, e2, onS_some, val_int]
      simp only [bin_eql, onS_some, ifV_bool]
      refine ifB_intro (fun he => ?_) (fun hne => ?_)
      · exact ⟨by rw [mkres, idx_hit hx he hno], Nat.le_refl _⟩
      · simp only [bin_add, onS_some]
        refine ⟨i + 1, by omega, w, ?_, by omega, by trivial, by trivial, fun j z hj hz => ?_⟩
        · rw [wrap64 (by omega) (by omega)]; rfl
        · by_cases e : j = i
          · subst e; rw [hx] at hz; cases hz; exact hne
          · exact hno j z (by omega) hz
    · have hge : i = l.length := by
        have : ¬ ((i : Int) < (l.length : Int)) := by simpa using hge
        omega
      subst hge
      have hm := idx_miss (p := fun z => decide (x = z)) (l := l) fun z hz => by
        obtain ⟨j, hj⟩ := List.mem_iff_getElem?.1 hz
        exact hno j z (List.getElem?_eq_some_iff.1 hj).1 hj
      exact ⟨by rw [mkres, hm], Nat.le_refl _⟩
  refine Cl.flat (hX.no 121 rfl) fn_121 rfl rfl ?_
  rw [F121]
  refine onC_of h155 ?_
  simp only [bin_geq, onS_some, idx_nonneg, mkres]
  refine ⟨?_, by omega⟩
  rw [List.contains_eq_any_beq]
  rfl
/-- Is there a finding that says so? -/
def finds (lst : List Finding) (n : Int) (h : Bool) : Bool := lst.any fun y => decide (y.says = n) && (y.holds == h)
theorem finds_ok (hX : NoX X) {lst : List Finding} {vl : Value} {bl : Nat} {e : TypeId} {g : Option Nat} (hb : m.get bl = .cells [vl] e g) (hl : Sl m lst vl) (hs : lst.length < 1000) (n : Int) (h : Bool) : C X (.func 114) [.int .i64 n, .bool h, ptrTo bl] m m.n (.bool (finds lst n h)) m := by
  refine Cl.flat (hX.no 114 rfl) fn_114 rfl rfl ?_
  rw [F114]
  refine onM_push fun m1 hn1 hg1 hk1 => ?_
  refine onM_push fun m2 hn2 hg2 hk2 => ?_
  have hg1' := (hk2 m.n (by omega)).trans hg1
  have he2 : Ext m m2 := ⟨by omega, fun b hb => by rw [hk2 b (by omega), hk1 b hb]⟩
  simp only [cells_int, cells_bool] at hg1' hg2
  simp only [onS_some, on2_some, onFn_func, ifV_bool, ifB_true, ifB_false, bin_leq, bin_lss, bin_geq, bin_gtr, bin_eql, bin_neq, un_not, ptrTo, nilck_ptr, nilck_func, Nat.zero_add, Nat.reduceAdd, List.getElem?_cons_zero, List.getElem?_cons_succ, List.drop_zero, List.drop_succ_cons, List.take_succ_cons, List.take_zero, Option.map_some, cells_agg, cells_int, cells_bool, cells_slice, cells_ptr, cells_map, cells_func, load_47, cellAt_of (he2.cells hb)]
  refine onC_of (containsFunc115_ok hX (fun y => decide (y.says = n) && (y.holds == h)) (by omega) (hl.keepE he2) fun y _ cs hr => ?_) ⟨rfl, by omega⟩
  cases hr
  rw [val_agg rfl]
  show C X (.func 116) [.agg y.c.toArray, ptrTo m.n, ptrTo m1.n] m2 m2.n _ m2
  refine Cl.flat (hX.no 116 rfl) fn_116 rfl rfl ?_
  rw [F116]
  refine onM_push fun m3 hn3 hg3 hk3 => ?_
  have he3 : Ext m2 m3 := ⟨by omega, hk3⟩
  simp only [cells_agg] at hg3
  simp only [onS_some, on2_some, onFn_func, ifV_bool, ifB_true, ifB_false, bin_leq, bin_lss, bin_geq, bin_gtr, bin_eql, bin_neq, un_not, ptrTo, nilck_ptr, nilck_func, Nat.zero_add, Nat.reduceAdd, List.getElem?_cons_zero, List.getElem?_cons_succ, List.drop_zero, List.drop_succ_cons, List.take_succ_cons, List.take_zero, Option.map_some, cells_agg, cells_int, cells_bool, cells_slice, cells_ptr, cells_map, cells_func, fieldAddr_150_0, fieldAddr_150_1, load_3, load_4, cellAt_of hg3, cellAt_of (he3.cells hg1'), cellAt_of (he3.cells hg2)]
  refine ifB_intro (fun h1 => ?_) (fun h1 => ⟨by simp [mkres, h1], by omega⟩)
  rw [bin_eqlB, onS_some]
  exact ⟨by simp [mkres, h1], by omega⟩
/-- The closures that call finds. -/
theorem finds119_ok (hX : NoX X) {lst : List Finding} {vl : Value} {bl bf : Nat} {e e' : TypeId} {g g' : Option Nat} (hb : m.get bl = .cells [vl] e g) (hl : Sl m lst vl) (hs : lst.length < 1000) (hf : m.get bf = .cells [.func (.func 114) #[] #[ptrTo bl]] e' g') (n : Int) : C X (.func 119) [.int .i64 n, ptrTo bf] m m.n (.bool (finds lst n false)) m := by
  refine Cl.flat (hX.no 119 rfl) fn_119 rfl rfl ?_
  rw [F119]
  simp only [onS_some, on2_some, onFn_func, ifV_bool, ifB_true, ifB_false, bin_leq, bin_lss, bin_geq, bin_gtr, bin_eql, bin_neq, un_not, ptrTo, nilck_ptr, nilck_func, Nat.zero_add, Nat.reduceAdd, List.getElem?_cons_zero, List.getElem?_cons_succ, List.drop_zero, List.drop_succ_cons, List.take_succ_cons, List.take_zero, Option.map_some, cells_agg, cells_int, cells_bool, cells_slice, cells_ptr, cells_map, cells_func, load_224, cellAt_of hf]
  exact onC_of (finds_ok hX hb hl hs n false) ⟨rfl, by omega⟩
theorem finds120_ok (hX : NoX X) {lst : List Finding} {vl : Value} {bl bf : Nat} {e e' : TypeId} {g g' : Option Nat} (hb : m.get bl = .cells [vl] e g) (hl : Sl m lst vl) (hs : lst.length < 1000) (hf : m.get bf = .cells [.func (.func 114) #[] #[ptrTo bl]] e' g') (n : Int) : C X (.func 120) [.int .i64 n, ptrTo bf] m m.n (.bool (finds lst n true)) m := by
  refine Cl.flat (hX.no 120 rfl) fn_120 rfl rfl ?_
  rw [F120]
  simp only [onS_some, on2_some, onFn_func, ifV_bool, ifB_true, ifB_false, bin_leq, bin_lss, bin_geq, bin_gtr, bin_eql, bin_neq, un_not, ptrTo, nilck_ptr, nilck_func, Nat.zero_add, Nat.reduceAdd, List.getElem?_cons_zero, List.getElem?_cons_succ, List.drop_zero, List.drop_succ_cons, List.take_succ_cons, List.take_zero, Option.map_some, cells_agg, cells_int, cells_bool, cells_slice, cells_ptr, cells_map, cells_func, load_224, cellAt_of hf]
  exact onC_of (finds_ok hX hb hl hs n true) ⟨rfl, by omega⟩
theorem finds122_ok (hX : NoX X) {lst : List Finding} {vl : Value} {bl bf : Nat} {e e' : TypeId} {g g' : Option Nat} (hb : m.get bl = .cells [vl] e g) (hl : Sl m lst vl) (hs : lst.length < 1000) (hf : m.get bf = .cells [.func (.func 114) #[] #[ptrTo bl]] e' g') (n : Int) : C X (.func 122) [.int .i64 n, ptrTo bf] m m.n (.bool (!(finds lst n true))) m := by
  refine Cl.flat (hX.no 122 rfl) fn_122 rfl rfl ?_
  rw [F122]
  simp only [onS_some, on2_some, onFn_func, ifV_bool, ifB_true, ifB_false, bin_leq, bin_lss, bin_geq, bin_gtr, bin_eql, bin_neq, un_not, ptrTo, nilck_ptr, nilck_func, Nat.zero_add, Nat.reduceAdd, List.getElem?_cons_zero, List.getElem?_cons_succ, List.drop_zero, List.drop_succ_cons, List.take_succ_cons, List.take_zero, Option.map_some, cells_agg, cells_int, cells_bool, cells_slice, cells_ptr, cells_map, cells_func, load_224, cellAt_of hf]
  refine onC_of (finds_ok hX hb hl hs n true) ?_
  simp only [un_not, onS_some]
  exact ⟨rfl, by omega⟩
theorem finds123_ok (hX : NoX X) {lst : List Finding} {vl : Value} {bl bf : Nat} {e e' : TypeId} {g g' : Option Nat} (hb : m.get bl = .cells [vl] e g) (hl : Sl m lst vl) (hs : lst.length < 1000) (hf : m.get bf = .cells [.func (.func 114) #[] #[ptrTo bl]] e' g') (n : Int) : C X (.func 123) [.int .i64 n, ptrTo bf] m m.n (.bool (!(finds lst n false))) m := by
  refine Cl.flat (hX.no 123 rfl) fn_123 rfl rfl ?_
  rw [F123]
  simp only [onS_some, on2_some, onFn_func, ifV_bool, ifB_true, ifB_false, bin_leq, bin_lss, bin_geq, bin_gtr, bin_eql, bin_neq, un_not, ptrTo, nilck_ptr, nilck_func, Nat.zero_add, Nat.reduceAdd, List.getElem?_cons_zero, List.getElem?_cons_succ, List.drop_zero, List.drop_succ_cons, List.take_succ_cons, List.take_zero, Option.map_some, cells_agg, cells_int, cells_bool, cells_slice, cells_ptr, cells_map, cells_func, load_224, cellAt_of hf]
  refine onC_of (finds_ok hX hb hl hs n false) ?_
  simp only [un_not, onS_some]
  exact ⟨rfl, by omega⟩
/-- Is the clause barred, by the findings? -/
def barredS (l : Law) (lst : List Finding) (i : Int) : Bool := match l.clauses[i.toNat]? with
  | some y => (y.needs.any fun n => finds lst n false) || (y.bars.any fun n => finds lst n true)
  | none => false
def givesS (l : Law) (n i : Int) : Bool := match l.clauses[i.toNat]? with
  | some y => decide (y.gives = n)
  | none => false
section
variable {l : Law} {q : Query} {bj bm : Nat} {v1 v2 v3 w1 w2 : Value}
theorem barred_ok (hX : NoX X) (hlo : l.ok = true) (hJ : J l q bj bm v1 v2 v3 w1 w2 m) {lst : List Finding} {vl : Value} {bl bf bp : Nat} {e e' e2 : TypeId} {g g' g2 : Option Nat} (hb : m.get bl = .cells [vl] e g) (hl : Sl m lst vl) (hs : lst.length < 1000)
    (hf : m.get bf = .cells [.func (.func 114) #[] #[ptrTo bl]] e' g') (hp : m.get bp = .cells [ptrTo bj] e2 g2) {k : Nat} {c : Clause} (hc : l.clauses[k]? = some c) : C X (.func 117) [.int .i64 k, ptrTo bp, ptrTo bf] m m.n (.bool (barredS l lst k)) m := by
  obtain ⟨hg0, hg20, _, _, hnl, hbl⟩ := clause_bounds (clause_ok hlo hc)
  refine Cl.flat (hX.no 117 rfl) fn_117 rfl rfl ?_
  rw [F117]
  simp only [onS_some, on2_some, onFn_func, ifV_bool, ifB_true, ifB_false, bin_leq, bin_lss, bin_geq, bin_gtr, bin_eql, bin_neq, un_not, ptrTo, nilck_ptr, nilck_func, Nat.zero_add, Nat.reduceAdd, List.getElem?_cons_zero, List.getElem?_cons_succ, List.drop_zero, List.drop_succ_cons, List.take_succ_cons, List.take_zero, Option.map_some, cells_agg, cells_int, cells_bool, cells_slice, cells_ptr, cells_map, cells_func, fieldAddr_154_0, fieldAddr_38_0, fieldAddr_64_2, fieldAddr_64_3, load_134, load_26, load_34, load_64, ty_34, ty_64, cellAt_of hp, cellAt_of hJ.row, Nat.add_zero]
  obtain ⟨p, cs, e3, e4, vn, vb, rfl, hvn, hvb⟩ := hJ.law.clauses.index slt_clause (k := .i64) hc
  rw [e3, onS_some, e4, onS_some, val_agg rfl]
  refine onM_push fun m3 hn3 hg3 hk3 => ?_
  have hones : (cells (Value.agg (c.cs vn vb).toArray)).all D.one = true := by
    rw [cells_agg]
    exact Rep.ones (α := Clause) (m := m) (x := c) ⟨vn, vb, rfl, hvn, hvb⟩
  refine on2_storeV ty_64 hg3 (by rfl) (by rfl) hones fun m4 hn4 hg4 hk4 => ?_
  have he4 : Ext m m4 := ⟨by omega, fun b hb => by rw [hk4 b (by omega), hk3 b hb]⟩
  simp only [cells_agg, Clause.cs] at hg4
  simp only [cellAt_of hg4, onS_some, on2_some, onFn_func, ifV_bool, ifB_true, ifB_false, bin_leq, bin_lss, bin_geq, bin_gtr, bin_eql, bin_neq, un_not, ptrTo, nilck_ptr, nilck_func, Nat.zero_add, Nat.reduceAdd, List.getElem?_cons_zero, List.getElem?_cons_succ, List.drop_zero, List.drop_succ_cons, List.take_succ_cons, List.take_zero, Option.map_some, cells_agg, cells_int, cells_bool, cells_slice, cells_ptr, cells_map, cells_func]
  refine onC_of (containsFunc118_ok hX (fun n => finds lst n false) (by omega) (hvn.keepE he4) fun n _ cs hr => by cases hr; rw [val_int]; exact finds119_ok hX (he4.cells hb) (hl.keepE he4) hs (he4.cells hf) n) ?_
  have hbs : barredS l lst k = ((c.needs.any fun n => finds lst n false) || (c.bars.any fun n => finds lst n true)) := by simp only [barredS, Int.toNat_natCast, hc]
  simp only [cellAt_of hg4, onS_some, on2_some, onFn_func, ifV_bool, ifB_true, ifB_false, bin_leq, bin_lss, bin_geq, bin_gtr, bin_eql, bin_neq, un_not, ptrTo, nilck_ptr, nilck_func, Nat.zero_add, Nat.reduceAdd, List.getElem?_cons_zero, List.getElem?_cons_succ, List.drop_zero, List.drop_succ_cons, List.take_succ_cons, List.take_zero, Option.map_some, cells_agg, cells_int, cells_bool, cells_slice, cells_ptr, cells_map, cells_func]
  refine ifB_intro (fun h1 => ⟨by rw [hbs, h1]; rfl, by omega⟩) (fun h1 => ?_)
  refine onC_of (containsFunc118_ok hX (fun n => finds lst n true) (by omega) (hvb.keepE he4) fun n _ cs hr => by cases hr; rw [val_int]; exact finds120_ok hX (he4.cells hb) (hl.keepE he4) hs (he4.cells hf) n) ?_
  exact ⟨by rw [hbs, h1]; rfl, by omega⟩
theorem says124_ok (hX : NoX X) (hJ : J l q bj bm v1 v2 v3 w1 w2 m) {x : Finding} {bp bx : Nat} {e e2 : TypeId} {g g2 : Option Nat} (hx : m.get bx = .cells x.c e g) (hp : m.get bp = .cells [ptrTo bj] e2 g2) {k : Nat} {f : Fact} (hf : l.facts[k]? = some f) :
    C X (.func 124) [.int .i64 k, ptrTo bp, ptrTo bx] m m.n (.bool (factSays l x.says k)) m := by
  refine Cl.flat (hX.no 124 rfl) fn_124 rfl rfl ?_
  rw [F124]
  simp only [onS_some, on2_some, onFn_func, ifV_bool, ifB_true, ifB_false, bin_leq, bin_lss, bin_geq, bin_gtr, bin_eql, bin_neq, un_not, ptrTo, nilck_ptr, nilck_func, Nat.zero_add, Nat.reduceAdd, List.getElem?_cons_zero, List.getElem?_cons_succ, List.drop_zero, List.drop_succ_cons, List.take_succ_cons, List.take_zero, Option.map_some, cells_agg, cells_int, cells_bool, cells_slice, cells_ptr, cells_map, cells_func, fieldAddr_150_0, fieldAddr_154_0, fieldAddr_38_2, fieldAddr_66_1, load_134, load_3, load_36, ty_36, cellAt_of hp, cellAt_of hJ.row, Nat.add_zero]
  obtain ⟨bb, oo, bc, gg, cs, e3, e4, rfl, e6, e7⟩ := hJ.law.facts.indexA slt_fact (k := .i64) hf
  rw [e3, onS_some, fieldAddr_66_1, onS_some, load_3, cellAt_of e4, e7 1 (by simp [Rep.sz])]
  simp only [cellAt_of hx, onS_some, on2_some, onFn_func, ifV_bool, ifB_true, ifB_false, bin_leq, bin_lss, bin_geq, bin_gtr, bin_eql, bin_neq, un_not, ptrTo, nilck_ptr, nilck_func, Nat.zero_add, Nat.reduceAdd, List.getElem?_cons_zero, List.getElem?_cons_succ, List.drop_zero, List.drop_succ_cons, List.take_succ_cons, List.take_zero, Option.map_some, cells_agg, cells_int, cells_bool, cells_slice, cells_ptr, cells_map, cells_func]
  exact ⟨by simp only [mkres, factSays, Int.toNat_natCast, hf], by omega⟩
theorem gives125_ok (hX : NoX X) (hlo : l.ok = true) (hJ : J l q bj bm v1 v2 v3 w1 w2 m) {x : Finding} {lst : List Finding} {vl : Value} {bl bf bp bx bb : Nat} {e e' e2 e3 e4 : TypeId} {g g' g2 g3 g4 : Option Nat} (hb : m.get bl = .cells [vl] e g) (hl : Sl m lst vl) (hs : lst.length < 1000)
    (hf : m.get bf = .cells [.func (.func 114) #[] #[ptrTo bl]] e' g') (hp : m.get bp = .cells [ptrTo bj] e2 g2) (hx : m.get bx = .cells x.c e3 g3) (hbb : m.get bb = .cells [.func (.func 117) #[] #[ptrTo bp, ptrTo bf]] e4 g4) {k : Nat} {c : Clause} (hc : l.clauses[k]? = some c) :
    C X (.func 125) [.int .i64 k, ptrTo bp, ptrTo bx, ptrTo bb] m m.n (.bool (givesS l x.says k && !(barredS l lst k))) m := by
  refine Cl.flat (hX.no 125 rfl) fn_125 rfl rfl ?_
  rw [F125]
  simp only [onS_some, on2_some, onFn_func, ifV_bool, ifB_true, ifB_false, bin_leq, bin_lss, bin_geq, bin_gtr, bin_eql, bin_neq, un_not, ptrTo, nilck_ptr, nilck_func, Nat.zero_add, Nat.reduceAdd, List.getElem?_cons_zero, List.getElem?_cons_succ, List.drop_zero, List.drop_succ_cons, List.take_succ_cons, List.take_zero, Option.map_some, cells_agg, cells_int, cells_bool, cells_slice, cells_ptr, cells_map, cells_func, fieldAddr_150_0, fieldAddr_154_0, fieldAddr_38_0, fieldAddr_64_4, load_134, load_168, load_3, load_34, ty_34, cellAt_of hp, cellAt_of hJ.row, Nat.add_zero]
  obtain ⟨b0, oo, bc, gg, cs, e3, e4, ⟨vn, vb, rfl, _, _⟩, e6, e7⟩ := hJ.law.clauses.indexA slt_clause (k := .i64) hc
  rw [e3, onS_some, fieldAddr_64_4, onS_some, load_3, cellAt_of e4, e7 5 (by simp [Rep.sz])]
  simp only [cellAt_of hx, Clause.cs, onS_some, on2_some, onFn_func, ifV_bool, ifB_true, ifB_false, bin_leq, bin_lss, bin_geq, bin_gtr, bin_eql, bin_neq, un_not, ptrTo, nilck_ptr, nilck_func, Nat.zero_add, Nat.reduceAdd, List.getElem?_cons_zero, List.getElem?_cons_succ, List.drop_zero, List.drop_succ_cons, List.take_succ_cons, List.take_zero, Option.map_some, cells_agg, cells_int, cells_bool, cells_slice, cells_ptr, cells_map, cells_func]
  have hgs : givesS l x.says k = decide (c.gives = x.says) := by simp only [givesS, Int.toNat_natCast, hc]
  refine ifB_intro (fun h1 => ?_) (fun h1 => ⟨by rw [mkres, hgs, h1]; rfl, by omega⟩)
  simp only [load_168, cellAt_of hbb, onS_some, on2_some, onFn_func, ifV_bool, ifB_true, ifB_false, bin_leq, bin_lss, bin_geq, bin_gtr, bin_eql, bin_neq, un_not, ptrTo, nilck_ptr, nilck_func, Nat.zero_add, Nat.reduceAdd, List.getElem?_cons_zero, List.getElem?_cons_succ, List.drop_zero, List.drop_succ_cons, List.take_succ_cons, List.take_zero, Option.map_some, cells_agg, cells_int, cells_bool, cells_slice, cells_ptr, cells_map, cells_func]
  refine onC_of (barred_ok hX hlo hJ hb hl hs hf hp hc) ?_
  simp only [un_not, onS_some]
  exact ⟨by rw [mkres, hgs, h1]; rfl, by omega⟩
end
end Go.Proofs.YtbpmlholiohkpaaGreatDoor

/- Contracts: the judge: is a finding right; does a list prove an answer? -/
namespace Go.Proofs.YtbpmlholiohkpaaGreatDoor
open Go Go.D
variable {X : CallFn} {m : M}
/-- Is a clause that yields a number borne out by findings? -/
def borneS (l : Law) (n : Int) (lst : List Finding) (i : Int) : Bool := match l.clauses[i.toNat]? with
  | some y => decide (y.gives = n) && (!(y.needs.any fun k => !(finds lst k true)) && !(y.bars.any fun k => !(finds lst k false)))
  | none => false
def rightS (l : Law) (q : Query) (x : Finding) (lst : List Finding) : Bool :=
  if x.holds then
    if x.clause = -1 then (l.facts' q).contains x.fact && factSays l x.says x.fact
    else decide (x.fact = -1) && ((l.rules' q).contains x.clause && borneS l x.says lst x.clause)
  else (decide (x.fact = -1) && decide (x.clause = -1)) && (!((l.facts' q).any (factSays l x.says)) && !((l.rules' q).any fun i => givesS l x.says i && !(barredS l lst i)))
theorem mem_facts' {l : Law} {q : Query} {z : Int} (h : z ∈ l.facts' q) : ∃ (k : Nat) (x : Fact), z = k ∧ l.facts[k]? = some x := by
  obtain ⟨i, hi⟩ := List.mem_iff_getElem?.1 h
  obtain ⟨k, x, h1, h2, _⟩ := facts_mem hi
  exact ⟨k, x, h1, h2⟩
theorem mem_rules' {l : Law} {q : Query} {z : Int} (h : z ∈ l.rules' q) : ∃ (k : Nat) (x : Clause), z = k ∧ l.clauses[k]? = some x := by
  obtain ⟨i, hi⟩ := List.mem_iff_getElem?.1 h
  obtain ⟨k, x, h1, h2, _⟩ := rules_mem hi
  exact ⟨k, x, h1, h2⟩
theorem rightS_fact {l : Law} {q : Query} {says fact : Int} {lst : List Finding} : rightS l q ⟨says, true, fact, -1⟩ lst = ((l.facts' q).contains fact && factSays l says fact) := by
  unfold rightS; rw [if_pos rfl, if_pos rfl]
theorem rightS_clause {l : Law} {q : Query} {says fact clause : Int} {lst : List Finding} (h : clause ≠ -1) : rightS l q ⟨says, true, fact, clause⟩ lst = (decide (fact = -1) && ((l.rules' q).contains clause && borneS l says lst clause)) := by
  unfold rightS; rw [if_pos rfl, if_neg h]
theorem rightS_none {l : Law} {q : Query} {says fact clause : Int} {lst : List Finding} : rightS l q ⟨says, false, fact, clause⟩ lst = ((decide (fact = -1) && decide (clause = -1)) && (!((l.facts' q).any (factSays l says)) && !((l.rules' q).any fun i => givesS l says i && !(barredS l lst i)))) := by
  unfold rightS; rw [if_neg Bool.false_ne_true]
section
variable {l : Law} {q : Query} {bj bm : Nat} {v1 v2 v3 w1 w2 : Value}
theorem isRight_ok (hX : NoX X) (hlo : l.ok = true) (hJ : J l q bj bm v1 v2 v3 w1 w2 m) {lst : List Finding} {vl : Value} (hl : Sl m lst vl) (hs : lst.length < 1000) (x : Finding) : C X (.func 71) [ptrTo bj, .agg x.c.toArray, vl] m m.n (.bool (rightS l q x lst)) m := by
  have hfl := facts_len (q := q) hlo
  have hrl := rules_len (q := q) hlo
  obtain ⟨says, holds, fact, clause⟩ := x
  refine Cl.flat (hX.no 71 rfl) fn_71 rfl rfl ?_
  rw [F71]
  refine onM_push fun m1 hn1 hg1 hk1 => ?_
  refine onM_push fun m2 hn2 hg2 hk2 => ?_
  refine onM_push fun m3 hn3 hg3 hk3 => ?_
  refine onM_push fun m4 hn4 hg4 hk4 => ?_
  refine on2_storeV ty_224 hg4 (by rfl) (by rfl) rfl fun m5 hn5 hg5 hk5 => ?_
  refine onM_push fun m7 hn7 hg7 hk7 => ?_
  refine on2_storeV ty_168 hg7 (by rfl) (by rfl) rfl fun m8 hn8 hg8 hk8 => ?_
  have hp : m8.get m.n = .cells [ptrTo bj] 134 none := by rw [hk8 _ (by omega), hk7 _ (by omega), hk5 _ (by omega), hk4 _ (by omega), hk3 _ (by omega), hk2 _ (by omega), hg1]; rfl
  have hx : m8.get m1.n = .cells (Finding.c ⟨says, holds, fact, clause⟩) 150 none := by rw [hk8 _ (by omega), hk7 _ (by omega), hk5 _ (by omega), hk4 _ (by omega), hk3 _ (by omega), hg2]; rfl
  have hb : m8.get m2.n = .cells [vl] 47 none := by rw [hk8 _ (by omega), hk7 _ (by omega), hk5 _ (by omega), hk4 _ (by omega), hg3, hl.cells]
  have hf : m8.get m3.n = .cells [.func (.func 114) #[] #[ptrTo m2.n]] 224 none := by rw [hk8 _ (by omega), hk7 _ (by omega), hg5]; rfl
  have hbb : m8.get m5.n = .cells [.func (.func 117) #[] #[ptrTo m.n, ptrTo m3.n]] 168 none := hg8
  have he : Ext m m8 := ⟨by omega, fun b hb => by rw [hk8 _ (by omega), hk7 _ (by omega), hk5 _ (by omega), hk4 _ (by omega), hk3 _ (by omega), hk2 _ (by omega), hk1 _ hb]⟩
  have hJ8 := hJ.ext he
  have hl8 := hl.keepE he
  have hn : m.n ≤ m8.n := he.n
  clear hg1 hg2 hg3 hg4 hg5 hg7 hg8 hk1 hk2 hk3 hk4 hk5 hk7 hk8
  simp only [fieldAddr_150_1, fieldAddr_150_3, load_4, load_3, cellAt_of hx, onS_some, on2_some, onFn_func, ifV_bool, ifB_true, ifB_false, bin_leq, bin_lss, bin_geq, bin_gtr, bin_eql, bin_neq, un_not, ptrTo, nilck_ptr, nilck_func, Nat.zero_add, Nat.reduceAdd, List.getElem?_cons_zero, List.getElem?_cons_succ, List.drop_zero, List.drop_succ_cons, List.take_succ_cons, List.take_zero, Option.map_some, cells_agg, cells_int, cells_bool, cells_slice, cells_ptr, cells_map, cells_func]
  cases holds with
  | true =>
    simp only [ifB_true]
    refine ifB_intro (fun hc => ?_) (fun hc => ?_)
    · -- a fact
      have hc : clause = -1 := by simpa using hc
      subst hc
      simp only [load_134, cellAt_of hp, fieldAddr_154_1, load_26, cellAt_of hJ8.row, fieldAddr_150_2, load_3, cellAt_of hx, onS_some, on2_some, onFn_func, ifV_bool, ifB_true, ifB_false, bin_leq, bin_lss, bin_geq, bin_gtr, bin_eql, bin_neq, un_not, ptrTo, nilck_ptr, nilck_func, Nat.zero_add, Nat.reduceAdd, List.getElem?_cons_zero, List.getElem?_cons_succ, List.drop_zero, List.drop_succ_cons, List.take_succ_cons, List.take_zero, Option.map_some, cells_agg, cells_int, cells_bool, cells_slice, cells_ptr, cells_map, cells_func]
      refine onC_of (contains121_ok hX hJ8.facts (by omega) fact) ?_
      simp only [ifV_bool]
      refine ifB_intro (fun hin => ?_) (fun hin => ⟨by rw [mkres, rightS_fact, hin]; rfl, by omega⟩)
      obtain ⟨k, f, rfl, hfk⟩ := mem_facts' (List.contains_iff_mem.1 hin)
      simp only [load_134, cellAt_of hp, fieldAddr_154_0, fieldAddr_38_2, load_36, cellAt_of hJ8.row, fieldAddr_150_2, fieldAddr_150_0, load_3, cellAt_of hx, Nat.add_zero, onS_some, on2_some, onFn_func, ifV_bool, ifB_true, ifB_false, bin_leq, bin_lss, bin_geq, bin_gtr, bin_eql, bin_neq, un_not, ptrTo, nilck_ptr, nilck_func, Nat.zero_add, Nat.reduceAdd, List.getElem?_cons_zero, List.getElem?_cons_succ, List.drop_zero, List.drop_succ_cons, List.take_succ_cons, List.take_zero, Option.map_some, cells_agg, cells_int, cells_bool, cells_slice, cells_ptr, cells_map, cells_func]
      obtain ⟨b0, oo, bc, gg, cs, e3, e4, rfl, e6, e7⟩ := hJ8.law.facts.indexA slt_fact (k := .i64) hfk
      rw [e3, onS_some, fieldAddr_66_1, onS_some, load_3, cellAt_of e4, e7 1 (by simp [Rep.sz])]
      simp only [onS_some, on2_some, onFn_func, ifV_bool, ifB_true, ifB_false, bin_leq, bin_lss, bin_geq, bin_gtr, bin_eql, bin_neq, un_not, ptrTo, nilck_ptr, nilck_func, Nat.zero_add, Nat.reduceAdd, List.getElem?_cons_zero, List.getElem?_cons_succ, List.drop_zero, List.drop_succ_cons, List.take_succ_cons, List.take_zero, Option.map_some, cells_agg, cells_int, cells_bool, cells_slice, cells_ptr, cells_map, cells_func]
      refine ⟨?_, by omega⟩
      rw [mkres, rightS_fact, hin]
      simp only [factSays, Int.toNat_natCast, hfk, Bool.true_and]
    · have hc : clause ≠ -1 := by simpa using hc
      simp only [fieldAddr_150_1, load_4, fieldAddr_150_2, load_3, cellAt_of hx, onS_some, on2_some, onFn_func, ifV_bool, ifB_true, ifB_false, bin_leq, bin_lss, bin_geq, bin_gtr, bin_eql, bin_neq, un_not, ptrTo, nilck_ptr, nilck_func, Nat.zero_add, Nat.reduceAdd, List.getElem?_cons_zero, List.getElem?_cons_succ, List.drop_zero, List.drop_succ_cons, List.take_succ_cons, List.take_zero, Option.map_some, cells_agg, cells_int, cells_bool, cells_slice, cells_ptr, cells_map, cells_func]
      refine ifB_intro (fun hfa => ⟨by rw [mkres, rightS_clause hc, (by simpa using hfa : decide (fact = -1) = false)]; rfl, by omega⟩) (fun hfa => ?_)
      have hfa : fact = -1 := by simpa using hfa
      simp only [load_134, cellAt_of hp, fieldAddr_154_2, load_26, cellAt_of hJ8.row, fieldAddr_150_3, load_3, cellAt_of hx, onS_some, on2_some, onFn_func, ifV_bool, ifB_true, ifB_false, bin_leq, bin_lss, bin_geq, bin_gtr, bin_eql, bin_neq, un_not, ptrTo, nilck_ptr, nilck_func, Nat.zero_add, Nat.reduceAdd, List.getElem?_cons_zero, List.getElem?_cons_succ, List.drop_zero, List.drop_succ_cons, List.take_succ_cons, List.take_zero, Option.map_some, cells_agg, cells_int, cells_bool, cells_slice, cells_ptr, cells_map, cells_func]
      refine onC_of (contains121_ok hX hJ8.rules (by omega) clause) ?_
      simp only [un_not, onS_some, ifV_bool]
      refine ifB_intro (fun hin => ⟨by simp only [Bool.not_eq_true'] at hin; rw [mkres, rightS_clause hc, hin, Bool.false_and, Bool.and_false], by omega⟩) (fun hin => ?_)
      simp only [Bool.not_eq_false'] at hin
      obtain ⟨k, c, rfl, hck⟩ := mem_rules' (List.contains_iff_mem.1 hin)
      obtain ⟨hg0, hg20, _, _, hnl, hbl⟩ := clause_bounds (clause_ok hlo hck)
      simp only [load_134, cellAt_of hp, fieldAddr_154_0, fieldAddr_38_0, load_34, cellAt_of hJ8.row, fieldAddr_150_3, fieldAddr_150_0, load_3, cellAt_of hx, Nat.add_zero, onS_some, on2_some, onFn_func, ifV_bool, ifB_true, ifB_false, bin_leq, bin_lss, bin_geq, bin_gtr, bin_eql, bin_neq, un_not, ptrTo, nilck_ptr, nilck_func, Nat.zero_add, Nat.reduceAdd, List.getElem?_cons_zero, List.getElem?_cons_succ, List.drop_zero, List.drop_succ_cons, List.take_succ_cons, List.take_zero, Option.map_some, cells_agg, cells_int, cells_bool, cells_slice, cells_ptr, cells_map, cells_func]
      obtain ⟨b0, oo, bc, gg, cs, e3, e4, ⟨vn, vb, rfl, hvn, hvb⟩, e6, e7⟩ := hJ8.law.clauses.indexA slt_clause (k := .i64) hck
      rw [e3, onS_some, fieldAddr_64_4, onS_some, load_3, cellAt_of e4, e7 5 (by simp [Rep.sz])]
      simp only [Clause.cs, onS_some, on2_some, onFn_func, ifV_bool, ifB_true, ifB_false, bin_leq, bin_lss, bin_geq, bin_gtr, bin_eql, bin_neq, un_not, ptrTo, nilck_ptr, nilck_func, Nat.zero_add, Nat.reduceAdd, List.getElem?_cons_zero, List.getElem?_cons_succ, List.drop_zero, List.drop_succ_cons, List.take_succ_cons, List.take_zero, Option.map_some, cells_agg, cells_int, cells_bool, cells_slice, cells_ptr, cells_map, cells_func]
      have hbo : borneS l says lst k = (decide (c.gives = says) && (!(c.needs.any fun k => !(finds lst k true)) && !(c.bars.any fun k => !(finds lst k false)))) := by simp only [borneS, Int.toNat_natCast, hck]
      refine ifB_intro (fun hgv => ⟨by rw [mkres, rightS_clause hc, hbo, (by simpa using hgv : decide (c.gives = says) = false), Bool.false_and, Bool.and_false, Bool.and_false], by omega⟩) (fun hgv => ?_)
      have hgv : c.gives = says := by simpa using hgv
      obtain ⟨p, cs, e3', e4', vn, vb, rfl, hvn, hvb⟩ := hJ8.law.clauses.index slt_clause (k := .i64) hck
      rw [e3] at e3'
      cases e3'
      rw [e4', onS_some, val_agg rfl]
      refine onM_push fun m9 hn9 hg9 hk9 => ?_
      have hones : (cells (Value.agg (c.cs vn vb).toArray)).all D.one = true := by
        rw [cells_agg]
        exact Rep.ones (α := Clause) (m := m8) (x := c) ⟨vn, vb, rfl, hvn, hvb⟩
      refine on2_storeV ty_64 hg9 (by rfl) (by rfl) hones fun m10 hn10 hg10 hk10 => ?_
      have he10 : Ext m8 m10 := ⟨by omega, fun b hb => by rw [hk10 b (by omega), hk9 b hb]⟩
      simp only [cells_agg, Clause.cs] at hg10
      simp only [fieldAddr_64_2, fieldAddr_64_3, load_26, cellAt_of hg10, onS_some, on2_some, onFn_func, ifV_bool, ifB_true, ifB_false, bin_leq, bin_lss, bin_geq, bin_gtr, bin_eql, bin_neq, un_not, ptrTo, nilck_ptr, nilck_func, Nat.zero_add, Nat.reduceAdd, List.getElem?_cons_zero, List.getElem?_cons_succ, List.drop_zero, List.drop_succ_cons, List.take_succ_cons, List.take_zero, Option.map_some, cells_agg, cells_int, cells_bool, cells_slice, cells_ptr, cells_map, cells_func]
      refine onC_of (containsFunc118_ok hX (fun k => !(finds lst k true)) (by omega) (hvn.keepE he10) fun n _ cs hr => by cases hr; rw [val_int]; exact finds122_ok hX (he10.cells hb) (hl8.keepE he10) hs (he10.cells hf) n) ?_
      simp only [un_not, onS_some, ifV_bool]
      refine ifB_intro (fun hn1' => ?_) (fun hn1' => ⟨by simp only [Bool.not_eq_false'] at hn1'; rw [mkres, rightS_clause hc, hbo, hn1', Bool.not_true, Bool.false_and, Bool.and_false, Bool.and_false, Bool.and_false], by omega⟩)
      simp only [fieldAddr_64_2, fieldAddr_64_3, load_26, cellAt_of hg10, onS_some, on2_some, onFn_func, ifV_bool, ifB_true, ifB_false, bin_leq, bin_lss, bin_geq, bin_gtr, bin_eql, bin_neq, un_not, ptrTo, nilck_ptr, nilck_func, Nat.zero_add, Nat.reduceAdd, List.getElem?_cons_zero, List.getElem?_cons_succ, List.drop_zero, List.drop_succ_cons, List.take_succ_cons, List.take_zero, Option.map_some, cells_agg, cells_int, cells_bool, cells_slice, cells_ptr, cells_map, cells_func]
      refine onC_of (containsFunc118_ok hX (fun k => !(finds lst k false)) (by omega) (hvb.keepE he10) fun n _ cs hr => by cases hr; rw [val_int]; exact finds123_ok hX (he10.cells hb) (hl8.keepE he10) hs (he10.cells hf) n) ?_
      simp only [un_not, onS_some]
      refine ⟨?_, by omega⟩
      simp only [Bool.not_eq_true'] at hn1'
      rw [mkres, rightS_clause hc, hbo, hn1', hin, hgv, hfa]
      simp only [decide_true, Bool.true_and, Bool.not_false]
  | false =>
    simp only [ifB_false, fieldAddr_150_1, load_4, cellAt_of hx, onS_some, on2_some, onFn_func, ifV_bool, ifB_true, ifB_false, bin_leq, bin_lss, bin_geq, bin_gtr, bin_eql, bin_neq, un_not, ptrTo, nilck_ptr, nilck_func, Nat.zero_add, Nat.reduceAdd, List.getElem?_cons_zero, List.getElem?_cons_succ, List.drop_zero, List.drop_succ_cons, List.take_succ_cons, List.take_zero, Option.map_some, cells_agg, cells_int, cells_bool, cells_slice, cells_ptr, cells_map, cells_func]
    rw [load_150, loadCells_of hx (by simp)]
    simp only [fieldAddr_150_0, load_3, cellAt_of hx, onS_some, on2_some, onFn_func, ifV_bool, ifB_true, ifB_false, bin_leq, bin_lss, bin_geq, bin_gtr, bin_eql, bin_neq, un_not, ptrTo, nilck_ptr, nilck_func, Nat.zero_add, Nat.reduceAdd, List.getElem?_cons_zero, List.getElem?_cons_succ, List.drop_zero, List.drop_succ_cons, List.take_succ_cons, List.take_zero, Option.map_some, cells_agg, cells_int, cells_bool, cells_slice, cells_ptr, cells_map, cells_func]
    rw [build_150_0_2_3 rfl rfl rfl, onS_some]
    have hne : bin? Tab.env .neq 150 (.agg #[.int .i64 says, .bool false, .int .i64 fact, .int .i64 clause]) (.agg (cells (Value.int .i64 says) ++ ([(Value.bool false)] ++ (cells (Value.int .i64 (-1)) ++ cells (Value.int .i64 (-1))))).toArray) = some (.bool (!((says == says) && (((false : Bool) == false) && ((fact == -1) && ((clause == -1) && true)))))) := bin_neqF
    rw [hne, onS_some, ifV_bool]
    have heq : (!((says == says) && (((false : Bool) == false) && ((fact == -1) && ((clause == -1) && true))))) = !(decide (fact = -1) && decide (clause = -1)) := by
      by_cases h1 : fact = -1 <;> by_cases h2 : clause = -1 <;> simp [h1, h2]
    rw [heq]
    refine ifB_intro (fun hx' => ⟨by simp only [Bool.not_eq_true'] at hx'; rw [mkres, rightS_none, hx']; rfl, by omega⟩) (fun hx' => ?_)
    simp only [Bool.not_eq_false'] at hx'
    simp only [load_134, cellAt_of hp, fieldAddr_154_1, load_26, cellAt_of hJ8.row, onS_some, on2_some, onFn_func, ifV_bool, ifB_true, ifB_false, bin_leq, bin_lss, bin_geq, bin_gtr, bin_eql, bin_neq, un_not, ptrTo, nilck_ptr, nilck_func, Nat.zero_add, Nat.reduceAdd, List.getElem?_cons_zero, List.getElem?_cons_succ, List.drop_zero, List.drop_succ_cons, List.take_succ_cons, List.take_zero, Option.map_some, cells_agg, cells_int, cells_bool, cells_slice, cells_ptr, cells_map, cells_func]
    refine onC_of (containsFunc118_ok hX (factSays l says) (by omega) hJ8.facts fun z hz cs hr => by
      cases hr
      obtain ⟨k, f, rfl, hfk⟩ := mem_facts' hz
      rw [val_int]
      exact says124_ok hX hJ8 hx hp hfk) ?_
    simp only [ifV_bool]
    refine ifB_intro (fun h1 => ⟨by rw [mkres, rightS_none, hx', h1]; rfl, by omega⟩) (fun h1 => ?_)
    simp only [load_134, cellAt_of hp, fieldAddr_154_2, load_26, cellAt_of hJ8.row, onS_some, on2_some, onFn_func, ifV_bool, ifB_true, ifB_false, bin_leq, bin_lss, bin_geq, bin_gtr, bin_eql, bin_neq, un_not, ptrTo, nilck_ptr, nilck_func, Nat.zero_add, Nat.reduceAdd, List.getElem?_cons_zero, List.getElem?_cons_succ, List.drop_zero, List.drop_succ_cons, List.take_succ_cons, List.take_zero, Option.map_some, cells_agg, cells_int, cells_bool, cells_slice, cells_ptr, cells_map, cells_func]
    refine onC_of (containsFunc118_ok hX (fun i => givesS l says i && !(barredS l lst i)) (by omega) hJ8.rules fun z hz cs hr => by
      cases hr
      obtain ⟨k, c, rfl, hck⟩ := mem_rules' hz
      rw [val_int]
      exact gives125_ok hX hlo hJ8 hb hl8 hs hf hp hx hbb hck) ?_
    simp only [un_not, onS_some]
    exact ⟨by rw [mkres, rightS_none, hx', h1]; rfl, by omega⟩
end
end Go.Proofs.YtbpmlholiohkpaaGreatDoor

/- Contracts: the judge: does a list prove an answer? -/
namespace Go.Proofs.YtbpmlholiohkpaaGreatDoor
open Go Go.D
variable {X : CallFn} {m : M}
/-- The number of the finding before the i-th. -/
def beforeF (lst : List Finding) (i : Nat) : Int := if i = 0 then -1 else match lst[i - 1]? with | some x => x.says | none => 0
def okAt (l : Law) (q : Query) (lst : List Finding) (i : Nat) : Bool := match lst[i]? with
  | some x => inB x.says (beforeF lst i + 1) 19 && rightS l q x lst
  | none => false
def lastSays (lst : List Finding) : Int := beforeF lst lst.length
def provesS (l : Law) (q : Query) (n : Int) (holds : Bool) (lst : List Finding) : Bool :=
  (List.range lst.length).all (okAt l q lst) && (decide (0 < lst.length) && (decide (lastSays lst = n) && (match lst[lst.length - 1]? with | some x => x.holds == holds | none => false)))
section
variable {l : Law} {q : Query} {bj bm : Nat} {v1 v2 v3 w1 w2 : Value}
theorem proves_ok (hX : NoX X) (hlo : l.ok = true) (hJ : J l q bj bm v1 v2 v3 w1 w2 m) {lst : List Finding} {vl : Value} (hl : Sl m lst vl) (hs : lst.length < 1000) (n : Int) (holds : Bool) : C X (.func 41) [ptrTo bj, .int .i64 n, .bool holds, vl] m m.n (.bool (provesS l q n holds lst)) m := by
  refine Cl.flat (hX.no 41 rfl) fn_41 rfl rfl ?_
  rw [F41]
  rw [hl.len slt_finding, on2_some]
  refine Lp.intro (γ := Nat) (fun i => lst.length - i) (fun i vs mm lo => ∃ w, vs = [w, .int .i64 (beforeF lst i), .int .i64 i] ∧ i ≤ lst.length ∧ Ext m mm ∧ m.n ≤ lo ∧ ∀ j, j < i → okAt l q lst j = true) 0 ⟨_, rfl, Nat.zero_le _, .refl, by omega, fun j hj => by omega⟩ ?_
  rintro i vs mm lo ⟨w, rfl, hi, he, hlo', hok⟩
  simp only [un_cons, bin_lss, onS_some, ifV_bool]
  have hJm := hJ.ext he
  have hlm := hl.keepE he
  have hmn := he.n
  refine ifB_intro (fun hlt => ?_) (fun hge => ?_)
  · have hlt : i < lst.length := by simpa using hlt
    have hx : lst[i]? = some lst[i] := List.getElem?_eq_getElem hlt
    obtain ⟨p, cs, e1, e2, rfl⟩ := hlm.index slt_finding (k := .i64) hx
    rw [e1, onS_some, e2, onS_some, val_agg rfl]
    refine onM_push fun m1 hn1 hg1 hk1 => ?_
    refine on2_storeV ty_150 hg1 (by rfl) (by rfl) rfl fun m2 hn2 hg2 hk2 => ?_
    have he2 : Ext mm m2 := ⟨by omega, fun b hb => by rw [hk2 b (by omega), hk1 b hb]⟩
    simp only [cells_agg] at hg2
    have hbf : -1 ≤ beforeF lst i ∧ beforeF lst i ≤ 19 := by
      cases i with
      | zero => simp [beforeF]
      | succ i =>
        have h0 : ∀ j, j < i + 1 → -1 ≤ beforeF lst (j + 1) ∧ beforeF lst (j + 1) ≤ 19 := by
          intro j
          induction j with
          | zero =>
            intro hj
            have := hok 0 (by omega)
            simp only [okAt, List.getElem?_eq_getElem (show 0 < lst.length by omega), inB, beforeF, Bool.and_eq_true, decide_eq_true_eq] at this
            simp only [beforeF]
            simp at this ⊢
            rw [List.getElem?_eq_getElem (show 0 < lst.length by omega)]
            simp
            omega
          | succ j ih =>
            intro hj
            have h5 := ih (by omega)
            have := hok (j + 1) (by omega)
            simp only [okAt, List.getElem?_eq_getElem (show j + 1 < lst.length by omega), inB, Bool.and_eq_true, decide_eq_true_eq] at this
            simp only [beforeF, Nat.add_eq_zero_iff, Nat.one_ne_zero, and_false, if_false, Nat.add_sub_cancel]
            rw [List.getElem?_eq_getElem (show j + 1 < lst.length by omega)]
            simp only
            omega
        exact h0 i (by omega)
    simp only [onS_some, on2_some, onFn_func, ifV_bool, ifB_true, ifB_false, bin_leq, bin_lss, bin_geq, bin_gtr, bin_eql, bin_neq, un_not, ptrTo, nilck_ptr, nilck_func, Nat.zero_add, Nat.reduceAdd, List.getElem?_cons_zero, List.getElem?_cons_succ, List.drop_zero, List.drop_succ_cons, List.take_succ_cons, List.take_zero, Option.map_some, cells_agg, cells_int, cells_bool, cells_slice, cells_ptr, cells_map, cells_func, fieldAddr_150_0, fieldAddr_150_1, len_47, load_150, load_3, load_4, ty_150, ty_47, cellAt_of hg2, bin_add]
    rw [wrap64 (by omega) (by omega)]
    refine onC_of (isIn70_ok hX _ _ _) ?_
    simp only [un_not, onS_some, ifV_bool]
    have hokA : okAt l q lst i = (inB lst[i].says (beforeF lst i + 1) 19 && rightS l q lst[i] lst) := by simp only [okAt, hx]
    have hbad : okAt l q lst i = false → provesS l q n holds lst = false := by
      intro hf
      have : (List.range lst.length).all (okAt l q lst) = false := by
        rw [List.all_eq_false]
        exact ⟨i, List.mem_range.2 hlt, by rw [hf]; exact Bool.false_ne_true⟩
      unfold provesS
      rw [this, Bool.false_and]
    refine ifB_intro (fun h1 => ⟨by simp only [Bool.not_eq_true'] at h1; rw [mkres, hbad (by rw [hokA, h1]; rfl)], by omega⟩) (fun h1 => ?_)
    rw [loadCells_of hg2 (by simp)]
    simp only [onS_some, on2_some, onFn_func, ifV_bool, ifB_true, ifB_false, bin_leq, bin_lss, bin_geq, bin_gtr, bin_eql, bin_neq, un_not, ptrTo, nilck_ptr, nilck_func, Nat.zero_add, Nat.reduceAdd, List.getElem?_cons_zero, List.getElem?_cons_succ, List.drop_zero, List.drop_succ_cons, List.take_succ_cons, List.take_zero, Option.map_some, cells_agg, cells_int, cells_bool, cells_slice, cells_ptr, cells_map, cells_func]
    refine onC_of (isRight_ok hX hlo (hJm.ext he2) (hlm.keepE he2) hs lst[i]) ?_
    simp only [un_not, onS_some, ifV_bool]
    refine ifB_intro (fun h2 => ⟨by simp only [Bool.not_eq_true'] at h2; rw [mkres, hbad (by rw [hokA, h2, Bool.and_false])], by omega⟩) (fun h2 => ?_)
    simp only [onS_some, on2_some, onFn_func, ifV_bool, ifB_true, ifB_false, bin_leq, bin_lss, bin_geq, bin_gtr, bin_eql, bin_neq, un_not, ptrTo, nilck_ptr, nilck_func, Nat.zero_add, Nat.reduceAdd, List.getElem?_cons_zero, List.getElem?_cons_succ, List.drop_zero, List.drop_succ_cons, List.take_succ_cons, List.take_zero, Option.map_some, cells_agg, cells_int, cells_bool, cells_slice, cells_ptr, cells_map, cells_func, fieldAddr_150_0, fieldAddr_150_1, len_47, load_150, load_3, load_4, ty_150, ty_47, cellAt_of hg2, bin_add]
    refine ⟨i + 1, by omega, w, ?_, by omega, he.trans he2, by omega, fun j hj => ?_⟩
    · rw [wrap64 (by omega) (by omega)]
      simp only [beforeF, Nat.add_eq_zero_iff, Nat.one_ne_zero, and_false, if_false, Nat.add_sub_cancel, hx]
      rfl
    · by_cases e : j = i
      · subst e
        simp only [Bool.not_eq_false'] at h1 h2
        rw [hokA, h1, h2]; rfl
      · exact hok j (by omega)
  · have hge : i = lst.length := by
      have : ¬ ((i : Int) < (lst.length : Int)) := by simpa using hge
      omega
    subst hge
    have hall : (List.range lst.length).all (okAt l q lst) = true := List.all_eq_true.2 fun j hj => hok j (List.mem_range.1 hj)
    rw [hlm.len slt_finding, on2_some]
    simp only [bin_gtr, onS_some, ifV_bool]
    refine ifB_intro (fun h1 => ?_) (fun h1 => ?_)
    · have h1 : 0 < lst.length := by simp at h1; omega
      simp only [bin_eql, onS_some, ifV_bool]
      refine ifB_intro (fun h2 => ?_) (fun h2 => ?_)
      · rw [on2_some]
        simp only [bin_sub, onS_some]
        rw [wrap64 (by omega) (by omega)]
        have e5 : ((lst.length : Int) - 1) = ((lst.length - 1 : Nat) : Int) := by omega
        have hx : lst[lst.length - 1]? = some lst[lst.length - 1] := List.getElem?_eq_getElem (by omega)
        obtain ⟨b0, oo, bc, gg, cs, e3, e4, rfl, e6, e7⟩ := hlm.indexA slt_finding (k := .i64) hx
        rw [e5, e3, onS_some, fieldAddr_150_1, onS_some, load_4, cellAt_of e4, e7 1 (by simp [Rep.sz])]
        simp only [onS_some, on2_some, onFn_func, ifV_bool, ifB_true, ifB_false, bin_leq, bin_lss, bin_geq, bin_gtr, bin_eql, bin_neq, un_not, ptrTo, nilck_ptr, nilck_func, Nat.zero_add, Nat.reduceAdd, List.getElem?_cons_zero, List.getElem?_cons_succ, List.drop_zero, List.drop_succ_cons, List.take_succ_cons, List.take_zero, Option.map_some, cells_agg, cells_int, cells_bool, cells_slice, cells_ptr, cells_map, cells_func]
        rw [bin_eqlB, onS_some]
        refine ⟨?_, by omega⟩
        unfold provesS lastSays
        rw [hall, hx]
        simp only [mkres, h1, h2, decide_true, Bool.true_and]
      · refine ⟨?_, by omega⟩
        unfold provesS lastSays
        rw [hall]
        simp only [mkres, h1, h2, decide_true, Bool.true_and, Bool.false_and]
    · have h1 : ¬ 0 < lst.length := by simp at h1; simp [h1]
      refine ⟨?_, by omega⟩
      unfold provesS
      rw [hall]
      simp only [mkres, h1, decide_false, Bool.true_and, Bool.false_and]
end
end Go.Proofs.YtbpmlholiohkpaaGreatDoor

/- Contracts: slices.Clone and slices.Delete of findings; what statutes decide. -/
namespace Go.Proofs.YtbpmlholiohkpaaGreatDoor
open Go Go.D
variable {X : CallFn} {m : M}
theorem ty47 : Tab.env.ty.get 47 = some Tab.t47 := by kernel_rfl
theorem apt_finding : ApT Tab.env 47 Finding := ⟨Tab.t47, Tab.t150, by kernel_rfl, rfl, rfl, by kernel_rfl, by decide, rfl⟩
theorem buildSlice_f0 : buildSlice? Tab.env m 47 0 [] = some (.slice (some ⟨m.n, 0, none⟩) 0 0, m.push (.cells [] 150 none)) := by
  simp only [buildSlice?, ty47, Tab.t47, zero150, cells_agg]
  rfl
theorem buildSlice_f1 {x : Finding} : buildSlice? Tab.env m 47 1 [(0, .agg x.c.toArray)] = some (.slice (some ⟨m.n, 0, none⟩) 1 1, m.push (.cells x.c 150 none)) := by
  simp only [buildSlice?, ty47, Tab.t47, zero150, cells_agg]
  rfl
theorem clone_ok (hX : NoX X) {lst : List Finding} {v : Value} (hl : Sl m lst v) (hne : lst ≠ []) (hs : lst.length ≤ 1000) :
    ∃ v' m', C X (.func 63) [v] m m.n v' m' ∧ Ow m.n m' lst v' ∧ Ext m m' := by
  have key := Cl.heap (E := Tab.env) (X := X) (f := 63) (args := [v]) (m := m) (R := fun v' m' b => b = m.n ∧ Ow m.n m' lst v' ∧ Ext m m') (hX.no 63 rfl) fn_63 rfl ?_
  · obtain ⟨v', m', b, hc, rfl, h3⟩ := key
    exact ⟨v', m', hc, h3⟩
  · rw [F63]
    have hnil : bin? Tab.env .eql 47 v (.slice none 0 0) = some (.bool false) := by
      rcases hl with ⟨_, rfl⟩ | ⟨b, o, c, bc, g, rfl, _⟩
      · exact absurd rfl hne
      · simp only [bin?, eq?, ty47, Tab.t47, Option.map_some]
    rw [hnil]
    simp only [onS_some, ifV_bool, ifB_false]
    rw [buildSlice_f0, on2_some]
    have he1 : Ext m (m.push (.cells [] 150 none)) := Ext.refl.push
    obtain ⟨v', m1, e1, hOw, he, hlow⟩ := append_copy (m := m.push (.cells [] 150 none)) apt_finding (b := m.n) M.get_push_new (hl.keepE he1) hne (by omega)
    rw [e1, on2_some]
    have hfl := hOw.flat hne
    rw [M.push_n] at hlow
    exact ⟨.inl hfl, by omega, hOw.mono (by rw [M.push_n]; omega), he1.trans he⟩
theorem eraseIdx_get {lst : List Finding} {k i : Nat} (hk : k < lst.length) : (lst.eraseIdx k)[i]? = if i < k then lst[i]? else lst[i + 1]? := by
  rw [List.getElem?_eraseIdx]
theorem delete_ok (hX : NoX X) {n1 : Nat} {lst : List Finding} {v : Value} (h : Ow n1 m lst v) {k : Nat} (hk : k < lst.length) (hs : lst.length ≤ 1000) :
    ∃ v' m' b, C X (.func 62) [v, .int .i64 k, .int .i64 ((k + 1 : Nat) : Int)] m b v' m' ∧ Sl m' (lst.eraseIdx k) v' ∧ Fr' n1 m m' ∧ n1 ≤ b := by
  rcases h with ⟨_, rfl⟩ | ⟨b, cs, rfl, h2, h3, h4, h5, h6⟩
  · simp at hk
  have hbn := M.lt_of_get h4
  have hszF : Rep.sz Finding = 4 := rfl
  rw [hszF] at h4 h5 h6
  refine Cl.heap (R := fun v' m' b => Sl m' (lst.eraseIdx k) v' ∧ Fr' n1 m m' ∧ n1 ≤ b) (hX.no 62 rfl) fn_62 rfl ?_
  rw [F62]
  have hlen0 : ∀ (mm : M) (a : Option Addr) (n c : Nat), builtin? Tab.env mm .len [47] [.slice a n c] = some (.int .i64 n, mm) := fun mm a n c => by simp only [builtin?, len?, ty47, Tab.t47, Option.map_some]
  rw [hlen0, on2_some]
  obtain ⟨w, hw⟩ := slice_full (m := m) ty47 (by rfl) (by rfl) (by decide) h4 (i := k) (j := k + 1) (n := lst.length) (by omega) (by omega)
  rw [hw, onS_some]
  simp only [bin_eql, onS_some, ifV_bool]
  have hne : decide ((k : Int) = ((k + 1 : Nat) : Int)) = false := by
    rw [decide_eq_false_iff_not]; omega
  rw [hne]
  simp only [ifB_false]
  rw [on2_some]
  rw [slice_to (m := m) ty47 (by rfl) (by rfl) (by decide) h4 (i := k) (c := lst.length) (n := lst.length) (by omega) (by omega) (by omega), onS_some]
  rw [slice_from (m := m) ty47 (by rfl) (by rfl) (by decide) h4 h5 (j := k + 1) (by omega), onS_some]
  have hone : cs.all D.one = true := all_chunks lst.length cs h5 fun i hi => Rep.ones (α := Finding) (m := m) (h6 i _ (List.getElem?_eq_getElem hi))
  obtain ⟨m1, a1, a2, a3, a4, a5⟩ := append_room (m := m) (α := Finding) apt_finding h4 h5 hone (i := k) (j := k + 1) (n := lst.length) (by omega) (by omega) (by omega)
  rw [hszF] at a1 a5
  rw [a1, on2_some, hlen0, on2_some]
  have hkn : k + (lst.length - (k + 1)) = lst.length - 1 := by omega
  rw [hkn]
  have hl1 : (cs.take (k * 4) ++ (cs.drop ((k + 1) * 4) ++ cs.drop (k * 4 + (lst.length - (k + 1)) * 4))).length = lst.length * 4 := by
    simp only [List.length_append, List.length_take, List.length_drop, h5]; omega
  rw [slice_tail (m := m1) ty47 (by rfl) (by rfl) (by decide) a5 hl1 (c := lst.length - 1) (by omega), onS_some]
  have hsub : lst.length - (lst.length - 1) = 1 := by omega
  rw [hsub]
  obtain ⟨m2, c1, c2, c3, c4, c5⟩ := clear_part (E := Tab.env) (T := 47) (m := m1) (α := Finding) apt_finding a5 (o := (lst.length - 1) * 4) (n := 1) (z := [.int .i64 0, .bool false, .int .i64 0, .int .i64 0]) ⟨_, zero150, rfl⟩ rfl rfl (by omega) (by rw [hl1, hszF]; omega)
  rw [c1, on2_some]
  refine ⟨.inl rfl, ?_, ⟨by omega, fun c hc => by rw [c4 c (by omega), a4 c (by omega)]⟩, ?_⟩
  · have hel : (lst.eraseIdx k).length = lst.length - 1 := by rw [List.length_eraseIdx_of_lt hk]
    rw [mkres]
    rw [← hel]
    refine .inr ⟨b, 0, lst.length, _, _, rfl, c5, ?_, fun i x hi => ?_⟩
    · rw [hszF, hel]
      simp only [List.length_append, List.length_take, hl1, zeros]
      omega
    · show _ = x.c
      rw [hszF, Nat.zero_add]
      have hi1 : i < lst.length - 1 := by rw [← hel]; exact (List.getElem?_eq_some_iff.1 hi).1
      rw [eraseIdx_get hk] at hi
      have hA : (cs.take (k * 4)).length = k * 4 := by rw [List.length_take]; omega
      have hBl : (cs.drop ((k + 1) * 4)).length = (lst.length - 1 - k) * 4 := by rw [List.length_drop, h5]; omega
      have e1 : (cs.take (k * 4) ++ (cs.drop ((k + 1) * 4) ++ cs.drop (k * 4 + (lst.length - (k + 1)) * 4))).take ((lst.length - 1) * 4) = cs.take (k * 4) ++ cs.drop ((k + 1) * 4) := by
        rw [← List.append_assoc, List.take_append_of_le_length (by rw [List.length_append, hA, hBl]; omega), List.take_of_length_le (by rw [List.length_append, hA, hBl]; omega)]
      rw [e1]
      show chunk ((cs.take (k * 4) ++ cs.drop ((k + 1) * 4)) ++ _) 4 i = x.c
      rw [chunk_append_left (n := lst.length - 1) (by rw [List.length_append, hA, hBl]; omega) hi1]
      by_cases hik : i < k
      · rw [if_pos hik] at hi
        rw [chunk_append_left hA hik]
        have hq : chunk cs 4 i = x.c := h6 i x hi
        rw [← hq]
        unfold chunk
        rw [List.drop_take, List.take_take]
        congr 1
        omega
      · rw [if_neg hik] at hi
        rw [chunk_append_right hA (by omega)]
        have hq : chunk cs 4 (i + 1) = x.c := h6 (i + 1) x hi
        rw [← hq]
        unfold chunk
        rw [List.drop_drop]
        congr 2
        omega
  · rcases a3 with a3 | a3 <;> omega
end Go.Proofs.YtbpmlholiohkpaaGreatDoor

/- Contracts: what statutes decide. -/
namespace Go.Proofs.YtbpmlholiohkpaaGreatDoor
open Go Go.D
variable {X : CallFn} {m : M}
theorem KC.fr {m6 m31 m33 : M} (h : KC m6 m31) (hf : Fr' m6.n m31 m33) : KC m6 m33 := ⟨Nat.le_trans h.n hf.n, fun c cs e g hc => by rw [hf.get c (M.lt_of_get hc)]; exact h.get _ _ _ _ hc, fun c cs hc => by rw [hf.get c (lt_of_ro hc)]; exact h.ro _ _ hc⟩
theorem MapOK.fr {l : Law} {q : Query} {bm n1 : Nat} {m' : M} (h : MapOK l q m bm) (hf : Fr' n1 m m') (hb : bm < n1) : MapOK l q m' bm := by
  obtain ⟨es, clock, h1, h2⟩ := h
  exact ⟨es, clock, by rw [hf.get bm hb, h1], h2⟩
/-- The findings about the numbers below k. -/
def firstF (l : Law) (q : Query) (k : Nat) : List Finding := (List.range k).map fun i : Nat => fndS l q i
theorem firstF_succ {l : Law} {q : Query} {k : Nat} : firstF l q (k + 1) = firstF l q k ++ [fndS l q k] := by
  unfold firstF; rw [List.range_succ, List.map_append]; rfl
theorem firstF_length {l : Law} {q : Query} {k : Nat} : (firstF l q k).length = k := by simp [firstF]
theorem firstF_get {l : Law} {q : Query} {k i : Nat} (h : i < k) : (firstF l q k)[i]? = some (fndS l q i) := by
  unfold firstF
  rw [List.getElem?_map, List.getElem?_range h]; rfl
theorem fndS_says {l : Law} {q : Query} {n : Int} : (fndS l q n).says = n := findS_says
theorem finds_first {l : Law} (hl : l.ok = true) {q : Query} {k : Nat} (hk : k ≤ 20) {n : Int} (h0 : 0 ≤ n) (h1 : n < k) (h : Bool) : finds (firstF l q k) n h = (soS l q n == h) := by
  obtain ⟨j, rfl⟩ : ∃ j : Nat, n = j := ⟨n.toNat, by omega⟩
  have hj := soS_eq hl q (n := (j : Int)) h0 (by omega)
  rw [Bool.eq_iff_iff]
  unfold finds
  rw [List.any_eq_true]
  constructor
  · rintro ⟨x, hx, hp⟩
    simp only [firstF, List.mem_map, List.mem_range] at hx
    obtain ⟨i, hi, rfl⟩ := hx
    simp only [Bool.and_eq_true, decide_eq_true_eq, fndS_says] at hp
    have : i = j := by omega
    subst this
    rw [hj]; exact hp.2
  · intro hh
    refine ⟨fndS l q j, List.mem_map.2 ⟨j, List.mem_range.2 (by omega), rfl⟩, ?_⟩
    rw [hj] at hh
    simp only [fndS_says, hh, decide_true, Bool.and_self]
theorem right_first {l : Law} (hl : l.ok = true) {q : Query} {k : Nat} (hk : k ≤ 20) {i : Nat} (hi : i < k) : rightS l q (fndS l q i) (firstF l q k) = true := by
  unfold fndS findS
  cases hf : (l.facts' q).find? (factSays l i) with
  | some z =>
    dsimp only
    rw [rightS_fact, List.contains_iff_mem.2 (List.mem_of_find?_eq_some hf), List.find?_some hf]; rfl
  | none =>
    dsimp only
    cases hr : (l.rules' q).find? (takes l (soS l q) i) with
    | some z =>
      dsimp only
      have hm := List.mem_of_find?_eq_some hr
      have ht := List.find?_some hr
      obtain ⟨j, c, rfl, hc⟩ := mem_rules' hm
      obtain ⟨_, _, hn, hb, _⟩ := clause_bounds (clause_ok hl hc)
      rw [rightS_clause (by omega), List.contains_iff_mem.2 hm]
      simp only [takes, Int.toNat_natCast, hc, Bool.and_eq_true, decide_eq_true_eq] at ht
      obtain ⟨hg, h1, h2⟩ := ht
      have e1 : (c.needs.any fun k' => !(finds (firstF l q k) k' true)) = (c.needs.any fun k' => !(soS l q k')) := by
        rw [Bool.eq_iff_iff]; simp only [List.any_eq_true]
        constructor
        · rintro ⟨n, h3, h4⟩; refine ⟨n, h3, ?_⟩; rw [finds_first hl hk (hn n h3).1 (by have := (hn n h3).2; omega)] at h4; simpa using h4
        · rintro ⟨n, h3, h4⟩; refine ⟨n, h3, ?_⟩; rw [finds_first hl hk (hn n h3).1 (by have := (hn n h3).2; omega)]; simpa using h4
      have e2 : (c.bars.any fun k' => !(finds (firstF l q k) k' false)) = c.bars.any (soS l q) := by
        rw [Bool.eq_iff_iff]; simp only [List.any_eq_true]
        constructor
        · rintro ⟨n, h3, h4⟩; refine ⟨n, h3, ?_⟩; rw [finds_first hl hk (hb n h3).1 (by have := (hb n h3).2; omega)] at h4; simpa using h4
        · rintro ⟨n, h3, h4⟩; refine ⟨n, h3, ?_⟩; rw [finds_first hl hk (hb n h3).1 (by have := (hb n h3).2; omega)]; simpa using h4
      simp only [borneS, Int.toNat_natCast, hc, e1, e2, h1, h2, hg, decide_true, Bool.and_self]
    | none =>
      dsimp only
      rw [rightS_none]
      have h1 : (l.facts' q).any (factSays l i) = false := by
        rw [List.any_eq_false]; exact List.find?_eq_none.1 hf
      have h2 : ((l.rules' q).any fun z => givesS l i z && !(barredS l (firstF l q k) z)) = false := by
        rw [List.any_eq_false]
        intro z hz
        have ht := List.find?_eq_none.1 hr z hz
        obtain ⟨j, c, rfl, hc⟩ := mem_rules' hz
        obtain ⟨_, _, hn, hb, _⟩ := clause_bounds (clause_ok hl hc)
        simp only [givesS, barredS, takes, Int.toNat_natCast, hc] at ht ⊢
        by_cases hg : c.gives = i
        · have e1 : (c.needs.any fun k' => finds (firstF l q k) k' false) = (c.needs.any fun k' => !(soS l q k')) := by
            rw [Bool.eq_iff_iff]; simp only [List.any_eq_true]
            constructor
            · rintro ⟨n, h3, h4⟩; refine ⟨n, h3, ?_⟩; rw [finds_first hl hk (hn n h3).1 (by have := (hn n h3).2; omega)] at h4; simpa using h4
            · rintro ⟨n, h3, h4⟩; refine ⟨n, h3, ?_⟩; rw [finds_first hl hk (hn n h3).1 (by have := (hn n h3).2; omega)]; simpa using h4
          have e2 : (c.bars.any fun k' => finds (firstF l q k) k' true) = c.bars.any (soS l q) := by
            rw [Bool.eq_iff_iff]; simp only [List.any_eq_true]
            constructor
            · rintro ⟨n, h3, h4⟩; refine ⟨n, h3, ?_⟩; rw [finds_first hl hk (hb n h3).1 (by have := (hb n h3).2; omega)] at h4; simpa using h4
            · rintro ⟨n, h3, h4⟩; refine ⟨n, h3, ?_⟩; rw [finds_first hl hk (hb n h3).1 (by have := (hb n h3).2; omega)]; simpa using h4
          rw [e1, e2]
          simp only [hg, decide_true, Bool.true_and] at ht ⊢
          cases h3 : (c.needs.any fun k' => !(soS l q k')) <;> cases h4 : c.bars.any (soS l q) <;> simp [h3, h4] at ht ⊢
        · simp [hg]
      rw [h1, h2]; rfl
theorem proves_first {l : Law} (hl : l.ok = true) {q : Query} {n : Nat} (hn : n < 20) : provesS l q n (soS l q n) (firstF l q (n + 1)) = true := by
  have hlen : (firstF l q (n + 1)).length = n + 1 := firstF_length
  have hbef : ∀ i, i ≤ n + 1 → beforeF (firstF l q (n + 1)) i = (i : Int) - 1 := by
    intro i hi
    unfold beforeF
    by_cases h0 : i = 0
    · subst h0; rfl
    · rw [if_neg h0, firstF_get (by omega)]
      dsimp only
      rw [fndS_says]
      omega
  unfold provesS lastSays
  rw [hlen, hbef (n + 1) (by omega)]
  have hall : (List.range (n + 1)).all (okAt l q (firstF l q (n + 1))) = true := by
    rw [List.all_eq_true]
    intro i hi
    have hi := List.mem_range.1 hi
    unfold okAt
    rw [firstF_get hi]
    dsimp only
    rw [hbef i (by omega), fndS_says, right_first hl (by omega) hi]
    simp only [inB, Bool.and_true, Bool.and_eq_true, decide_eq_true_eq]
    omega
  rw [hall, Nat.add_sub_cancel, firstF_get (by omega)]
  simp only [soS_eq hl q (n := (n : Int)) (by omega) (by omega)]
  have : ((n + 1 : Nat) : Int) - 1 = n := by omega
  rw [this]
  simp
/-- What statutes decide, and a proof of it. -/
theorem sdecide_ok (hX : NoX X) {l : Law} {v1 v2 v3 : Value} (hl : LawV m l v1 v2 v3) (q : Query) (hlo : l.ok = true) (hqo : q.ok = true) :
    ∃ w lst m', C X (.func 31) [.agg #[v1, v2, v3], q.v] m m.n (.tuple #[.bool (soS l q q.says), w, .int .i64 0]) m' ∧ Sl m' lst w ∧ provesS l q q.says (soS l q q.says) lst = true ∧ lst.length ≤ 20 ∧ lst ≠ [] ∧ KC m m' := by
  have hqs : 0 ≤ q.says ∧ q.says ≤ 19 := by
    simp only [Query.ok, inB, Bool.and_eq_true, decide_eq_true_eq] at hqo; exact hqo.2.1
  obtain ⟨N, hN⟩ : ∃ N : Nat, q.says = N := ⟨q.says.toNat, by omega⟩
  have key := Cl.heap (E := Tab.env) (X := X) (f := 31) (args := [.agg #[v1, v2, v3], q.v]) (m := m) (R := fun v m' b => ∃ w lst, v = .tuple #[.bool (soS l q q.says), w, .int .i64 0] ∧ b = m.n ∧ Sl m' lst w ∧ provesS l q q.says (soS l q q.says) lst = true ∧ lst.length ≤ 20 ∧ lst ≠ [] ∧ KC m m') (hX.no 31 rfl) fn_31 rfl ?_
  · obtain ⟨v, m', b, hc, w, lst, rfl, rfl, h3⟩ := key
    exact ⟨w, lst, m', hc, h3⟩
  · rw [F31]
    refine onM_push fun m1 hn1 hg1 hk1 => ?_
    refine onM_push fun m2 hn2 hg2 hk2 => ?_
    have hg1' := (hk2 m.n (by omega)).trans hg1
    simp only [cells_agg] at hg1' hg2
    have he2 : Ext m m2 := ⟨by omega, fun b hb => by rw [hk2 b (by omega), hk1 b hb]⟩
    simp only [onS_some, on2_some, onFn_func, ifV_bool, ifB_true, ifB_false, bin_leq, bin_lss, bin_geq, bin_gtr, bin_eql, bin_neq, un_not, ptrTo, nilck_ptr, nilck_func, Nat.zero_add, Nat.reduceAdd, List.getElem?_cons_zero, List.getElem?_cons_succ, List.drop_zero, List.drop_succ_cons, List.take_succ_cons, List.take_zero, Option.map_some, cells_agg, cells_int, cells_bool, cells_slice, cells_ptr, cells_map, cells_func, fieldAddr_154_3, fieldAddr_55_1, len_47, load_152, load_3, load_38, load_55]
    rw [loadCells_of hg1' (by simp)]
    simp only [onS_some, on2_some, onFn_func, ifV_bool, ifB_true, ifB_false, bin_leq, bin_lss, bin_geq, bin_gtr, bin_eql, bin_neq, un_not, ptrTo, nilck_ptr, nilck_func, Nat.zero_add, Nat.reduceAdd, List.getElem?_cons_zero, List.getElem?_cons_succ, List.drop_zero, List.drop_succ_cons, List.take_succ_cons, List.take_zero, Option.map_some, cells_agg, cells_int, cells_bool, cells_slice, cells_ptr, cells_map, cells_func]
    rw [loadCells_of hg2 (by simp)]
    simp only [onS_some, on2_some, onFn_func, ifV_bool, ifB_true, ifB_false, bin_leq, bin_lss, bin_geq, bin_gtr, bin_eql, bin_neq, un_not, ptrTo, nilck_ptr, nilck_func, Nat.zero_add, Nat.reduceAdd, List.getElem?_cons_zero, List.getElem?_cons_succ, List.drop_zero, List.drop_succ_cons, List.take_succ_cons, List.take_zero, Option.map_some, cells_agg, cells_int, cells_bool, cells_slice, cells_ptr, cells_map, cells_func]
    obtain ⟨bj, bm, w1, w2, m6, hc6, hJ6, he6, hbj, hbm⟩ := open_ok hX (hl.keepE he2) q hlo hqo
    refine onC_of hc6 ?_
    simp only [extr_tuple, onS_some, on2_some, onFn_func, ifV_bool, ifB_true, ifB_false, bin_leq, bin_lss, bin_geq, bin_gtr, bin_eql, bin_neq, un_not, ptrTo, nilck_ptr, nilck_func, Nat.zero_add, Nat.reduceAdd, List.getElem?_cons_zero, List.getElem?_cons_succ, List.drop_zero, List.drop_succ_cons, List.take_succ_cons, List.take_zero, Option.map_some, cells_agg, cells_int, cells_bool, cells_slice, cells_ptr, cells_map, cells_func, decide_true, Bool.not_true, ptrTo, cellAt_of (he6.cells hg2), bin_add]
    rw [hN, wrap64 (by omega) (by omega)]
    have hn6 := he6.n
    have hso : ∀ k : Nat, k < 20 → SoC X l q bj bm v1 v2 v3 w1 w2 k := so_ok hX hlo
    have hlt6 := hJ6.lt
    -- the findings
    refine Lp.intro (γ := Nat) (fun i => N + 1 - i) (fun i vs mm lo => ∃ v, vs = [v, .int .i64 i] ∧ i ≤ N + 1 ∧ Ow m6.n mm (firstF l q i) v ∧ KC m6 mm ∧ MapOK l q mm bm ∧ m.n ≤ lo) 0 ⟨_, rfl, Nat.zero_le _, .nil, .refl, hJ6.map, by omega⟩ ?_
    rintro i vs mm lo ⟨v, rfl, hi, hOw, hkc, hmm, hlo1⟩
    have hJm := hJ6.keep hkc hmm
    have hmn := hkc.n
    simp only [un_cons, bin_lss, onS_some, ifV_bool]
    refine ifB_intro (fun hlt => ?_) (fun hge => ?_)
    · have hlt : i < N + 1 := by simp at hlt; omega
      obtain ⟨m3, b3, hc3, hk3, hm3, hkn3, hb3⟩ := hso i (by omega) mm hJm
      refine onC_of hc3 ?_
      have hJ3 := hJm.keep hk3 hm3
      obtain ⟨es, clock, hmap, hMI⟩ := hm3
      have hlk : lookup? Tab.env m3 152 (.map (some bm)) (.int .i64 (i : Int)) false = some (.agg (fndS l q i).c.toArray) := by
        rcases lookup_found (ok := false) (n := (i : Int)) hmap hMI with ⟨hno, _⟩ | ⟨_, h⟩
        · obtain ⟨es', clock', hmap', e, he, hke⟩ := hkn3
          rw [hmap] at hmap'; cases hmap'
          exact absurd hke (hno e he)
        · exact h
      simp only [nilck_ptr, onS_some, fieldAddr_154_3, load_152, cellAt_of hJ3.row, Nat.zero_add, List.getElem?_cons_zero, List.getElem?_cons_succ, hlk]
      rw [buildSlice_f1, on2_some]
      have he4 : Ext m3 (m3.push (.cells (fndS l q i).c 150 none)) := Ext.refl.push
      have hn3 := hk3.n
      obtain ⟨v', m5, e5, hOw5, hFr5, hlow5, _⟩ := Ow.append (m := m3.push (.cells (fndS l q i).c 150 none)) (n1 := m6.n) apt_finding (by simp [Rep.tys]) ((hOw.keep fun b c t g hb _ => hk3.get _ _ _ _ hb).keepE he4)
        (ys := [fndS l q i]) (y := .slice (some ⟨m3.n, 0, none⟩) 1 1) (.inr ⟨m3.n, 0, 1, _, none, rfl, M.get_push_new, by simp [Rep.sz], fun j z hj => by
          cases j with
          | zero => simp at hj; subst hj; rfl
          | succ j => simp at hj⟩) (by rw [M.push_n]; omega) (by rw [firstF_length]; simp; omega)
      rw [e5, on2_some]
      simp only [bin_add, onS_some]
      have hFr : Fr' m6.n m3 m5 := (he4.fr (by omega)).trans hFr5
      refine ⟨i + 1, by omega, v', ?_, by omega, by rw [firstF_succ]; exact hOw5, (hkc.trans hk3).fr hFr, MapOK.fr ⟨es, clock, hmap, hMI⟩ hFr hlt6, by omega⟩
      rw [wrap64 (by omega) (by omega)]; rfl
    · have hge : i = N + 1 := by simp at hge; omega
      subst hge
      have hq := hkc.get _ _ _ _ (he6.cells hg2)
      simp only [cellAt_of hq, onS_some, on2_some, onFn_func, ifV_bool, ifB_true, ifB_false, bin_leq, bin_lss, bin_geq, bin_gtr, bin_eql, bin_neq, un_not, ptrTo, nilck_ptr, nilck_func, Nat.zero_add, Nat.reduceAdd, List.getElem?_cons_zero, List.getElem?_cons_succ, List.drop_zero, List.drop_succ_cons, List.take_succ_cons, List.take_zero, Option.map_some, cells_agg, cells_int, cells_bool, cells_slice, cells_ptr, cells_map, cells_func]
      rw [hN]
      obtain ⟨m3, b3, hc3, hk3, hm3, hkn3, hb3⟩ := hso N (by omega) mm hJm
      refine onC_of hc3 ?_
      have hJ3 := hJm.keep hk3 hm3
      have hSl3 : Sl m3 (firstF l q (N + 1)) v := hk3.sl hOw.sl
      rw [hSl3.len slt_finding, on2_some]
      simp only [bin_sub, onS_some, firstF_length]
      rw [wrap64 (by omega) (by omega)]
      have hKC3 : KC m6 m3 := hkc.trans hk3
      have hn3 := hKC3.n
      have hq3 := hKC3.get _ _ _ _ (he6.cells hg2)
      have hEall : KC m m3 := (KC.of_ext (he2.trans he6)).trans hKC3
      -- fewer findings
      refine Lp.intro (γ := Nat) (fun g => g) (fun g vs mm lo => ∃ w lst, vs = [w, .int .i64 ((g : Int) - 1)] ∧ g + 1 ≤ lst.length ∧ lst.length ≤ 20 ∧ Sl mm lst w ∧ provesS l q N (soS l q N) lst = true ∧ Ext m3 mm ∧ m.n ≤ lo) N ⟨v, _, by rw [show ((N + 1 : Nat) : Int) - 2 = (N : Int) - 1 by omega], by rw [firstF_length]; omega, by rw [firstF_length]; omega, hSl3, proves_first hlo (by omega), .refl, by omega⟩ ?_
      rintro g vs mk lo2 ⟨w, lst, rfl, hg, hl20, hSl, hprov, hemk, hlo2⟩
      have hmk := hemk.n
      have hJk := hJ3.ext hemk
      simp only [un_cons, bin_geq, onS_some, ifV_bool]
      refine ifB_intro (fun hpos => ?_) (fun hneg => ?_)
      · have hpos : 1 ≤ g := by simp at hpos; omega
        have hne : lst ≠ [] := fun e => by subst e; simp at hg
        obtain ⟨w3, m4, hc4, hOw4, he4⟩ := clone_ok hX hSl hne (by omega)
        refine onC_of hc4 ?_
        have e1 : ((g : Int) - 1) = ((g - 1 : Nat) : Int) := by omega
        simp only [bin_add, onS_some]
        rw [wrap64 (by omega) (by omega), e1, show (((g - 1 : Nat) : Int) + 1) = ((g - 1 + 1 : Nat) : Int) by omega]
        obtain ⟨w5, m5, b5, hc5, hSl5, hFr5, hb5⟩ := delete_ok hX hOw4 (k := g - 1) (by omega) (by omega)
        refine onC_of hc5 ?_
        have hn4 := he4.n
        have he5 : Ext mk m5 := ⟨by have := hFr5.n; omega, fun c hc => by rw [hFr5.get c hc, he4.get c hc]⟩
        have hq5 := (hemk.trans he5).cells hq3
        simp only [cellAt_of hq5, onS_some, on2_some, onFn_func, ifV_bool, ifB_true, ifB_false, bin_leq, bin_lss, bin_geq, bin_gtr, bin_eql, bin_neq, un_not, ptrTo, nilck_ptr, nilck_func, Nat.zero_add, Nat.reduceAdd, List.getElem?_cons_zero, List.getElem?_cons_succ, List.drop_zero, List.drop_succ_cons, List.take_succ_cons, List.take_zero, Option.map_some, cells_agg, cells_int, cells_bool, cells_slice, cells_ptr, cells_map, cells_func]
        rw [hN]
        have hel : (lst.eraseIdx (g - 1)).length = lst.length - 1 := List.length_eraseIdx_of_lt (by omega)
        refine onC_of (proves_ok hX hlo (hJk.ext he5) hSl5 (by omega) N (soS l q N)) ?_
        simp only [bin_sub, onS_some, ifV_bool]
        rw [wrap64 (by omega) (by omega)]
        refine ifB_intro (fun hp => ?_) (fun _ => ?_)
        · exact ⟨g - 1, by omega, w5, lst.eraseIdx (g - 1), rfl, by omega, by omega, hSl5, hp, hemk.trans he5, by have := he5.n; omega⟩
        · exact ⟨g - 1, by omega, w, lst, rfl, by omega, by omega, hSl.keepE he5, hprov, hemk.trans he5, by have := he5.n; omega⟩
      · have hne : lst ≠ [] := fun e => by subst e; simp at hg
        have hfl : flat2 (mkres [.bool (soS l q N), w, .int .i64 0]) = false := by
          rcases hSl with ⟨_, rfl⟩ | ⟨b, o, c, bc, gg, rfl, _⟩
          · exact absurd rfl hne
          · rfl
        refine ⟨.inl hfl, w, lst, ?_, by omega, hSl, ?_, hl20, hne, ?_⟩
        · rw [← hN]; rfl
        · exact hprov
        · exact hEall.trans (.of_ext hemk)
end Go.Proofs.YtbpmlholiohkpaaGreatDoor

/- Contracts: what permits decide. -/
namespace Go.Proofs.YtbpmlholiohkpaaGreatDoor
open Go Go.D
variable {X : CallFn} {m : M}
theorem KC.reg {m' : M} (h : KC m m') {r : Registry} {v1 v2 v3 v4 v5 : Value} (hr : RegV m r v1 v2 v3 v4 v5) : RegV m' r v1 v2 v3 v4 v5 := ⟨h.law hr.law, h.sl hr.deeds, h.sl hr.grants⟩
def neededS (r : Registry) (w : Wish) : Bool := soS r.law w.query w.query.says
def deedS (r : Registry) (w : Wish) : Int := idx (deedB w) r.deeds
def grantS (r : Registry) (w : Wish) : Int := idx (grantB w) r.grants
def allowedS (r : Registry) (w : Wish) : Bool := allowsB (neededS r w) (deedS r w) (grantS r w)
theorem query_valid {w : Wish} (h : w.ok = true) : w.query.ok = true := by
  simp only [Wish.ok, inB, Bool.and_eq_true, decide_eq_true_eq] at h
  have e : w.query.ok = (inB w.unit 0 99 && (inB (10 + w.kind) 0 19 && (inB w.day 0 799999 && inB w.known 0 799999))) := rfl
  rw [e]
  simp only [inB, Bool.and_eq_true, decide_eq_true_eq]
  omega
/-- A decision's value. -/
abbrev decV (a n : Bool) (pv : Value) (d g : Int) : Value := .agg #[.bool a, .bool n, pv, .int .i64 d, .int .i64 g]
theorem pdecide_ok (hX : NoX X) {r : Registry} {v1 v2 v3 v4 v5 : Value} (hr : RegV m r v1 v2 v3 v4 v5) (hs : r.Sized) (hro : r.ok = true) (w : Wish) (hwo : w.ok = true) :
    ∃ pv lst m', C X (.func 11) [.agg #[v1, v2, v3, v4, v5], w.v] m m.n (.tuple #[decV (allowedS r w) (neededS r w) pv (deedS r w) (grantS r w), .int .i64 0]) m' ∧ Sl m' lst pv ∧
      provesS r.law w.query w.query.says (neededS r w) lst = true ∧ lst.length ≤ 20 ∧ KC m m' := by
  have hwo' := hwo
  simp only [Wish.ok, inB, Bool.and_eq_true, decide_eq_true_eq] at hwo'
  have hro' := hro
  simp only [Registry.ok, Bool.and_eq_true] at hro'
  have hqo := query_valid hwo
  have key := Cl.heap (E := Tab.env) (X := X) (f := 11) (args := [.agg #[v1, v2, v3, v4, v5], w.v]) (m := m) (R := fun v m' b => ∃ pv lst, v = .tuple #[decV (allowedS r w) (neededS r w) pv (deedS r w) (grantS r w), .int .i64 0] ∧ b = m.n ∧ Sl m' lst pv ∧
      provesS r.law w.query w.query.says (neededS r w) lst = true ∧ lst.length ≤ 20 ∧ KC m m') (hX.no 11 rfl) fn_11 rfl ?_
  · obtain ⟨v, m', b, hc, pv, lst, rfl, rfl, h3⟩ := key
    exact ⟨pv, lst, m', hc, h3⟩
  · rw [F11]
    refine onM_push fun m1 hn1 hg1 hk1 => ?_
    refine onM_push fun m2 hn2 hg2 hk2 => ?_
    refine onM_push fun m3 hn3 hg3 hk3 => ?_
    have hb1 := (hk3 m.n (by omega)).trans ((hk2 m.n (by omega)).trans hg1)
    have hb2 := (hk3 m1.n (by omega)).trans hg2
    simp only [cells_agg] at hb1 hb2
    have he3 : Ext m m3 := ⟨by omega, fun b hb => by rw [hk3 b (by omega), hk2 b (by omega), hk1 b hb]⟩
    have hr3 := hr.keepE he3
    clear hg1 hg2 hk1 hk2 hk3
    simp only [ptrTo, load_42, load_45, load_38, fieldAddr_42_0]
    rw [loadCells_of hb1 (by simp)]
    simp only [onS_some, on2_some, onFn_func, ifV_bool, ifB_true, ifB_false, bin_leq, bin_lss, bin_geq, bin_gtr, bin_eql, bin_neq, un_not, ptrTo, nilck_ptr, nilck_func, Nat.zero_add, Nat.reduceAdd, List.getElem?_cons_zero, List.getElem?_cons_succ, List.drop_zero, List.drop_succ_cons, List.take_succ_cons, List.take_zero, Option.map_some, cells_agg, cells_int, cells_bool, cells_slice, cells_ptr, cells_map, cells_func, build_49_, build_49_1_2_3_4, fieldAddr_42_0, fieldAddr_42_1, fieldAddr_42_2, fieldAddr_49_0, fieldAddr_49_1, fieldAddr_49_3, fieldAddr_49_4, load_3, load_38, load_39, load_4, load_40, load_42, load_45, load_49, ty_4, ty_49]
    refine onC_of (validReg_ok hX hr3 hs) ?_
    simp only [hro, Bool.not_true, onS_some, on2_some, onFn_func, ifV_bool, ifB_true, ifB_false, bin_leq, bin_lss, bin_geq, bin_gtr, bin_eql, bin_neq, un_not, ptrTo, nilck_ptr, nilck_func, Nat.zero_add, Nat.reduceAdd, List.getElem?_cons_zero, List.getElem?_cons_succ, List.drop_zero, List.drop_succ_cons, List.take_succ_cons, List.take_zero, Option.map_some, cells_agg, cells_int, cells_bool, cells_slice, cells_ptr, cells_map, cells_func, build_49_, build_49_1_2_3_4, fieldAddr_42_0, fieldAddr_42_1, fieldAddr_42_2, fieldAddr_49_0, fieldAddr_49_1, fieldAddr_49_3, fieldAddr_49_4, load_3, load_38, load_39, load_4, load_40, load_42, load_45, load_49, ty_4, ty_49]
    rw [loadCells_of hb2 (by simp)]
    simp only [onS_some, on2_some, onFn_func, ifV_bool, ifB_true, ifB_false, bin_leq, bin_lss, bin_geq, bin_gtr, bin_eql, bin_neq, un_not, ptrTo, nilck_ptr, nilck_func, Nat.zero_add, Nat.reduceAdd, List.getElem?_cons_zero, List.getElem?_cons_succ, List.drop_zero, List.drop_succ_cons, List.take_succ_cons, List.take_zero, Option.map_some, cells_agg, cells_int, cells_bool, cells_slice, cells_ptr, cells_map, cells_func, build_49_, build_49_1_2_3_4, fieldAddr_42_0, fieldAddr_42_1, fieldAddr_42_2, fieldAddr_49_0, fieldAddr_49_1, fieldAddr_49_3, fieldAddr_49_4, load_3, load_38, load_39, load_4, load_40, load_42, load_45, load_49, ty_4, ty_49]
    refine onC_of (asks_ok hX w) ?_
    simp only [hwo, Bool.not_true, onS_some, on2_some, onFn_func, ifV_bool, ifB_true, ifB_false, bin_leq, bin_lss, bin_geq, bin_gtr, bin_eql, bin_neq, un_not, ptrTo, nilck_ptr, nilck_func, Nat.zero_add, Nat.reduceAdd, List.getElem?_cons_zero, List.getElem?_cons_succ, List.drop_zero, List.drop_succ_cons, List.take_succ_cons, List.take_zero, Option.map_some, cells_agg, cells_int, cells_bool, cells_slice, cells_ptr, cells_map, cells_func, build_49_, build_49_1_2_3_4, fieldAddr_42_0, fieldAddr_42_1, fieldAddr_42_2, fieldAddr_49_0, fieldAddr_49_1, fieldAddr_49_3, fieldAddr_49_4, load_3, load_38, load_39, load_4, load_40, load_42, load_45, load_49, ty_4, ty_49]
    rw [loadCells_of hb1 (by simp)]
    simp only [onS_some, on2_some, onFn_func, ifV_bool, ifB_true, ifB_false, bin_leq, bin_lss, bin_geq, bin_gtr, bin_eql, bin_neq, un_not, ptrTo, nilck_ptr, nilck_func, Nat.zero_add, Nat.reduceAdd, List.getElem?_cons_zero, List.getElem?_cons_succ, List.drop_zero, List.drop_succ_cons, List.take_succ_cons, List.take_zero, Option.map_some, cells_agg, cells_int, cells_bool, cells_slice, cells_ptr, cells_map, cells_func, build_49_, build_49_1_2_3_4, fieldAddr_42_0, fieldAddr_42_1, fieldAddr_42_2, fieldAddr_49_0, fieldAddr_49_1, fieldAddr_49_3, fieldAddr_49_4, load_3, load_38, load_39, load_4, load_40, load_42, load_45, load_49, ty_4, ty_49]
    rw [loadCells_of hb2 (by simp)]
    simp only [onS_some, on2_some, onFn_func, ifV_bool, ifB_true, ifB_false, bin_leq, bin_lss, bin_geq, bin_gtr, bin_eql, bin_neq, un_not, ptrTo, nilck_ptr, nilck_func, Nat.zero_add, Nat.reduceAdd, List.getElem?_cons_zero, List.getElem?_cons_succ, List.drop_zero, List.drop_succ_cons, List.take_succ_cons, List.take_zero, Option.map_some, cells_agg, cells_int, cells_bool, cells_slice, cells_ptr, cells_map, cells_func, build_49_, build_49_1_2_3_4, fieldAddr_42_0, fieldAddr_42_1, fieldAddr_42_2, fieldAddr_49_0, fieldAddr_49_1, fieldAddr_49_3, fieldAddr_49_4, load_3, load_38, load_39, load_4, load_40, load_42, load_45, load_49, ty_4, ty_49]
    obtain ⟨m4, hc4, he4⟩ := query_ok hX (m := m3) w (by omega)
    refine onC_of hc4 ?_
    refine ⟨Nat.le_refl _, ?_⟩
    have hr4 := hr3.keepE he4
    obtain ⟨pv, lst, m5, hc5, hSl5, hprov, hlen, hne, hk5⟩ := sdecide_ok hX hr4.law w.query hro'.1 hqo
    refine onC_of hc5 ?_
    have hkc : KC m m5 := ((KC.of_ext he3).trans (.of_ext he4)).trans hk5
    have hr5 := hkc.reg hr
    have hk35 : KC m3 m5 := (KC.of_ext he4).trans hk5
    have hb1' := hk35.get _ _ _ _ hb1
    have hb2' := hk35.get _ _ _ _ hb2
    have hg3' := hk35.get _ _ _ _ hg3
    simp only [extr_tuple, onS_some, on2_some, onFn_func, ifV_bool, ifB_true, ifB_false, bin_leq, bin_lss, bin_geq, bin_gtr, bin_eql, bin_neq, un_not, ptrTo, nilck_ptr, nilck_func, Nat.zero_add, Nat.reduceAdd, List.getElem?_cons_zero, List.getElem?_cons_succ, List.drop_zero, List.drop_succ_cons, List.take_succ_cons, List.take_zero, Option.map_some, cells_agg, cells_int, cells_bool, cells_slice, cells_ptr, cells_map, cells_func, build_49_, build_49_1_2_3_4, fieldAddr_42_0, fieldAddr_42_1, fieldAddr_42_2, fieldAddr_49_0, fieldAddr_49_1, fieldAddr_49_3, fieldAddr_49_4, load_3, load_38, load_39, load_4, load_40, load_42, load_45, load_49, ty_4, ty_49, decide_true, Bool.not_true, fieldAddr_42_1, fieldAddr_42_2, load_39, load_40, cellAt_of hb1']
    rw [loadCells_of hb2' (by simp)]
    simp only [onS_some, on2_some, onFn_func, ifV_bool, ifB_true, ifB_false, bin_leq, bin_lss, bin_geq, bin_gtr, bin_eql, bin_neq, un_not, ptrTo, nilck_ptr, nilck_func, Nat.zero_add, Nat.reduceAdd, List.getElem?_cons_zero, List.getElem?_cons_succ, List.drop_zero, List.drop_succ_cons, List.take_succ_cons, List.take_zero, Option.map_some, cells_agg, cells_int, cells_bool, cells_slice, cells_ptr, cells_map, cells_func, build_49_, build_49_1_2_3_4, fieldAddr_42_0, fieldAddr_42_1, fieldAddr_42_2, fieldAddr_49_0, fieldAddr_49_1, fieldAddr_49_3, fieldAddr_49_4, load_3, load_38, load_39, load_4, load_40, load_42, load_45, load_49, ty_4, ty_49]
    obtain ⟨m6, hc6, he6, hw6⟩ := deeds_ok hX (m := m5) w
    refine onC_of hc6 ?_
    refine ⟨Nat.le_refl _, ?_⟩
    refine onC_of (first33_ok hX (deedB w) hs.sd (hr5.deeds.keepE he6) fun d _ cs hd => by cases hd; rw [val_agg rfl]; exact deeds1_ok hX d hw6) ?_
    refine ⟨Nat.le_refl _, ?_⟩
    simp only [cellAt_of (he6.cells hb1'), onS_some, on2_some, onFn_func, ifV_bool, ifB_true, ifB_false, bin_leq, bin_lss, bin_geq, bin_gtr, bin_eql, bin_neq, un_not, ptrTo, nilck_ptr, nilck_func, Nat.zero_add, Nat.reduceAdd, List.getElem?_cons_zero, List.getElem?_cons_succ, List.drop_zero, List.drop_succ_cons, List.take_succ_cons, List.take_zero, Option.map_some, cells_agg, cells_int, cells_bool, cells_slice, cells_ptr, cells_map, cells_func, build_49_, build_49_1_2_3_4, fieldAddr_42_0, fieldAddr_42_1, fieldAddr_42_2, fieldAddr_49_0, fieldAddr_49_1, fieldAddr_49_3, fieldAddr_49_4, load_3, load_38, load_39, load_4, load_40, load_42, load_45, load_49, ty_4, ty_49]
    rw [loadCells_of (he6.cells hb2') (by simp)]
    simp only [onS_some, on2_some, onFn_func, ifV_bool, ifB_true, ifB_false, bin_leq, bin_lss, bin_geq, bin_gtr, bin_eql, bin_neq, un_not, ptrTo, nilck_ptr, nilck_func, Nat.zero_add, Nat.reduceAdd, List.getElem?_cons_zero, List.getElem?_cons_succ, List.drop_zero, List.drop_succ_cons, List.take_succ_cons, List.take_zero, Option.map_some, cells_agg, cells_int, cells_bool, cells_slice, cells_ptr, cells_map, cells_func, build_49_, build_49_1_2_3_4, fieldAddr_42_0, fieldAddr_42_1, fieldAddr_42_2, fieldAddr_49_0, fieldAddr_49_1, fieldAddr_49_3, fieldAddr_49_4, load_3, load_38, load_39, load_4, load_40, load_42, load_45, load_49, ty_4, ty_49]
    obtain ⟨m7, hc7, he7, hw7⟩ := grants_ok hX (m := m6) w
    refine onC_of hc7 ?_
    refine ⟨Nat.le_refl _, ?_⟩
    have he57 : Ext m5 m7 := he6.trans he7
    refine onC_of (first35_ok hX (grantB w) hs.sg (hr5.grants.keepE he57) fun d _ cs hd => by cases hd; rw [val_agg rfl]; exact grants1_ok hX d hw7) ?_
    refine ⟨Nat.le_refl _, ?_⟩
    have hpc := hSl5.cells
    have hp1 := hSl5.one
    rw [build_49_1_2_3_4 rfl (by rw [hpc]; rfl) rfl rfl, onS_some]
    refine onM_push fun m8 hn8 hg8 hk8 => ?_
    simp only [hpc, cells_bool, cells_int, List.cons_append, List.nil_append]
    refine on2_storeV ty_49 hg8 (by rfl) (by rfl) (by simp only [cells_agg, List.all_cons, List.all_nil, hp1]; rfl) fun m9 hn9 hg9 hk9 => ?_
    simp only [cells_agg] at hg9
    have he79 : Ext m7 m9 := ⟨by omega, fun b hb => by rw [hk9 b (by omega), hk8 b hb]⟩
    simp only [fieldAddr_49_0, fieldAddr_49_1, fieldAddr_49_3, fieldAddr_49_4, load_4, load_3, cellAt_of hg9, onS_some, on2_some, onFn_func, ifV_bool, ifB_true, ifB_false, bin_leq, bin_lss, bin_geq, bin_gtr, bin_eql, bin_neq, un_not, ptrTo, nilck_ptr, nilck_func, Nat.zero_add, Nat.reduceAdd, List.getElem?_cons_zero, List.getElem?_cons_succ, List.drop_zero, List.drop_succ_cons, List.take_succ_cons, List.take_zero, Option.map_some, cells_agg, cells_int, cells_bool, cells_slice, cells_ptr, cells_map, cells_func, build_49_, build_49_1_2_3_4, fieldAddr_42_0, fieldAddr_42_1, fieldAddr_42_2, fieldAddr_49_0, fieldAddr_49_1, fieldAddr_49_3, fieldAddr_49_4, load_3, load_38, load_39, load_4, load_40, load_42, load_45, load_49, ty_4, ty_49]
    refine onC_of (allows_ok hX _ _ _) ?_
    refine on2_store ty_4 hg9 (by rfl) (by simp [cells_bool]) rfl fun m10 hn10 hg10 hk10 => ?_
    rw [loadCells_of hg10 (by simp [cells_bool])]
    simp only [Option.map_some, onS_some]
    have hg3'' := (hk10 m2.n (by have := hk35.n; have := he57.n; omega)).trans (he79.cells (he57.cells hg3'))
    refine on2_storeV ty_49 hg3'' (by simp [cells_agg, cells_bool]; rfl) (by simp [cells_agg, cells_bool]) (by simp only [cells_agg, cells_bool, List.take_zero, List.nil_append, List.cons_append, List.drop_zero, List.length_cons, List.length_nil, Nat.zero_add, List.drop_succ_cons, List.take_succ_cons, List.all_cons, List.all_nil, hp1]; rfl) fun m11 hn11 hg11 hk11 => ?_
    rw [loadCells_of hg11 (by simp [cells_agg, cells_bool])]
    simp only [Option.map_some, onS_some]
    have hn35 := hk35.n
    have hn57 := he57.n
    have hn34 := he4.n
    have hn45 := hk5.n
    have hn56 := he6.n
    have hkc11 : KC m m11 := ⟨by have := hkc.n; omega, fun c cs e g hc => by
      have hlt := M.lt_of_get hc
      have hlt5 := hkc.n
      rw [hk11 c (by omega), hk10 c (by omega)]
      exact he79.cells (he57.cells (hkc.get _ _ _ _ hc)), fun c cs hc => by
      have hlt := lt_of_ro hc
      have hlt5 := hkc.n
      rw [hk11 c (by omega), hk10 c (by omega), he79.get c (by omega), he57.get c (by omega)]
      exact hkc.ro _ _ hc⟩
    have hSl11 : Sl m11 lst pv := hSl5.keep fun c cs e g hc ht => by
      have hlt := M.lt_of_get hc
      have hcne : c ≠ m2.n := fun e => by
        subst e
        rw [hg3'] at hc; cases hc
        simp [Rep.ty, Rep.tys] at ht
      rw [hk11 c hcne, hk10 c (by omega)]
      exact he79.cells (he57.cells hc)
    refine ⟨.inl ?_, pv, lst, ?_, by omega, hSl11, hprov, hlen, hkc11⟩
    · rcases hSl5 with ⟨_, rfl⟩ | ⟨b, o, c, bc, gg, rfl, _⟩
      · exact absurd rfl hne
      · rfl
    · rfl
end Go.Proofs.YtbpmlholiohkpaaGreatDoor
