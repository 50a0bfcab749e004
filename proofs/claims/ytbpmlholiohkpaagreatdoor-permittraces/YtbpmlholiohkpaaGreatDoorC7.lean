/- Maps whose keys are integers, as they lie in the store. Which clauses are used for which units, as Trace keeps it: a map of maps. -/
import Derived.Test.YtbpmlholiohkpaaGreatDoorC3
import Derived.Test.YtbpmlholiohkpaaGreatDoorC6
import Derived.Test.YtbpmlholiohkpaaGreatDoorCz
/- Maps whose keys are integers, as they lie in the store. -/
namespace Go.Proofs.YtbpmlholiohkpaaGreatDoor
open Go Go.D
variable {m : M}
/-- The entries are these, each key once. -/
def IM (es : List MapEntry) (clock : Nat) (kv : List (Int × Value)) : Prop := es.map (fun e => (e.key, e.val)) = kv.map (fun p => (Value.int .i64 p.1, p.2)) ∧ intKeys? clock es = some (kv.map (·.1))
theorem IM.nil {clock : Nat} : IM [] clock [] := ⟨rfl, rfl⟩
theorem IM.cons_inv {e : MapEntry} {es : List MapEntry} {clock : Nat} {p : Int × Value} {kv : List (Int × Value)} (h : IM (e :: es) clock (p :: kv)) :
    e.key = .int .i64 p.1 ∧ e.val = p.2 ∧ IM es clock kv ∧ e.born < clock ∧ p.1 ∉ kv.map (·.1) ∧ (∀ f ∈ es, f.born ≠ e.born) ∧ -9223372036854775808 ≤ p.1 ∧ p.1 ≤ 9223372036854775807 := by
  obtain ⟨h1, h2⟩ := h
  simp only [List.map_cons, List.cons.injEq, Prod.mk.injEq] at h1 h2
  obtain ⟨⟨hk, hv⟩, h1⟩ := h1
  unfold intKeys? at h2
  rw [hk] at h2
  cases hi : intKeys? clock es with
  | none => rw [hi] at h2; cases h2
  | some ks =>
    rw [hi] at h2
    dsimp only at h2
    cases hc : (Nat.blt e.born clock && !(ks.contains p.1) && !(es.any fun f => f.born == e.born) && decide (-9223372036854775808 ≤ p.1) && decide (p.1 ≤ 9223372036854775807)) with
    | false => rw [hc, cond_false] at h2; cases h2
    | true =>
      rw [hc, cond_true] at h2
      cases h2
      simp only [Bool.and_eq_true, Nat.blt_eq, Bool.not_eq_true', decide_eq_true_eq] at hc
      obtain ⟨⟨⟨⟨c1, c2⟩, c3⟩, c4⟩, c5⟩ := hc
      refine ⟨hk, hv, ⟨h1, hi⟩, c1, fun hin => ?_, fun f hf hb => ?_, c4, c5⟩
      · rw [List.contains_iff_mem.2 hin] at c2; cases c2
      · rw [List.any_eq_false] at c3
        exact c3 f hf (by simp [hb])
theorem IM.cons_mk {e : MapEntry} {es : List MapEntry} {clock : Nat} {p : Int × Value} {kv : List (Int × Value)} (hk : e.key = .int .i64 p.1) (hv : e.val = p.2) (h : IM es clock kv) (c1 : e.born < clock) (c2 : p.1 ∉ kv.map (·.1)) (c3 : ∀ f ∈ es, f.born ≠ e.born) (c4 : -9223372036854775808 ≤ p.1 ∧ p.1 ≤ 9223372036854775807) : IM (e :: es) clock (p :: kv) := by
  refine ⟨by simp only [List.map_cons, hk, hv, h.1], ?_⟩
  unfold intKeys?
  rw [hk, h.2]
  dsimp only
  have e1 : Nat.blt e.born clock = true := by rw [Nat.blt_eq]; exact c1
  have e2 : (kv.map (·.1)).contains p.1 = false := by
    cases hc : (kv.map (·.1)).contains p.1 with
    | false => rfl
    | true => exact absurd (List.contains_iff_mem.1 hc) c2
  have e3 : (es.any fun f => f.born == e.born) = false := by
    rw [List.any_eq_false]; intro f hf; simp [c3 f hf]
  rw [e1, e2, e3]
  simp [c4]
theorem IM.len {es : List MapEntry} {clock : Nat} {kv : List (Int × Value)} (h : IM es clock kv) : es.length = kv.length := by
  have := congrArg List.length h.1
  simpa using this
/-- A later clock. -/
theorem IM.later : ∀ {es : List MapEntry} {clock : Nat} {kv : List (Int × Value)}, IM es clock kv → IM es (clock + 1) kv
  | [], _, [], _ => IM.nil
  | [], _, p :: kv, h => by have := h.len; simp at this
  | e :: es, _, [], h => by have := h.len; simp at this
  | e :: es, clock, p :: kv, h => by
    obtain ⟨h1, h2, h3, h4, h5, h6, h7⟩ := h.cons_inv
    exact IM.cons_mk h1 h2 h3.later (by omega) h5 h6 h7
theorem IM.born : ∀ {es : List MapEntry} {clock : Nat} {kv : List (Int × Value)}, IM es clock kv → ∀ f ∈ es, f.born < clock
  | [], _, _, _, f, hf => by cases hf
  | e :: es, _, [], h, _, _ => by have := h.len; simp at this
  | e :: es, clock, p :: kv, h, f, hf => by
    obtain ⟨h1, h2, h3, h4, _⟩ := h.cons_inv
    rcases List.mem_cons.1 hf with rfl | hf
    · exact h4
    · exact h3.born f hf
/-- A new entry behind the others. -/
theorem IM.snoc : ∀ {es : List MapEntry} {clock : Nat} {kv : List (Int × Value)} {n : Int} {v : Value}, IM es clock kv → n ∉ kv.map (·.1) → (-9223372036854775808 ≤ n ∧ n ≤ 9223372036854775807) → IM (es ++ [{ key := .int .i64 n, val := v, born := clock }]) (clock + 1) (kv ++ [(n, v)])
  | [], clock, [], n, v, _, _, hr => IM.cons_mk rfl rfl IM.nil (Nat.lt_succ_self _) (by simp) (fun f hf => by cases hf) hr
  | [], _, p :: kv, _, _, h, _, _ => by have := h.len; simp at this
  | e :: es, _, [], _, _, h, _, _ => by have := h.len; simp at this
  | e :: es, clock, p :: kv, n, v, h, hn, hr => by
    obtain ⟨h1, h2, h3, h4, h5, h6, h7⟩ := h.cons_inv
    simp only [List.map_cons, List.mem_cons, not_or] at hn
    refine IM.cons_mk h1 h2 (h3.snoc hn.2 hr) (by omega) ?_ ?_ h7
    · show p.1 ∉ (kv ++ [(n, v)]).map (·.1)
      rw [List.map_append, List.mem_append, not_or]
      exact ⟨h5, fun hin => hn.1 (List.mem_singleton.1 (show p.1 ∈ [n] from hin)).symm⟩
    · intro f hf
      have hf : f ∈ es ++ [{ key := .int .i64 n, val := v, born := clock }] := hf
      rcases List.mem_append.1 hf with hf | hf
      · exact h6 f hf
      · rw [List.mem_singleton.1 hf]
        show clock ≠ e.born
        omega
theorem eq_int {n k : Int} : eq? Tab.env 3 (.int .i64 n) (.int .i64 k) = some (n == k) := by
  simp only [eq?, show Tab.env.ty.get 3 = some Tab.t3 by kernel_rfl, Tab.t3, if_true]
/-- What is found of a key. -/
theorem IM.find : ∀ {es : List MapEntry} {clock : Nat} {kv : List (Int × Value)} {n : Int} {i : Nat}, IM es clock kv → (n ∉ kv.map (·.1) ∧ findKey Tab.env 3 (.int .i64 n) es i = some none) ∨ (∃ j v, kv[j]? = some (n, v) ∧ findKey Tab.env 3 (.int .i64 n) es i = some (some (i + j, v)))
  | [], _, [], n, i, _ => .inl ⟨by simp, rfl⟩
  | [], _, p :: kv, _, _, h => by have := h.len; simp at this
  | e :: es, _, [], _, _, h => by have := h.len; simp at this
  | e :: es, clock, p :: kv, n, i, h => by
    obtain ⟨h1, h2, h3, _⟩ := h.cons_inv
    unfold findKey
    rw [h1, eq_int]
    by_cases hn : n = p.1
    · subst hn
      simp only [beq_self_eq_true]
      exact .inr ⟨0, e.val, by rw [h2]; rfl, rfl⟩
    · have : (n == p.1) = false := by simpa using hn
      rw [this]
      dsimp only
      rcases h3.find (n := n) (i := i + 1) with ⟨h4, h5⟩ | ⟨j, v, h4, h5⟩
      · exact .inl ⟨by simp only [List.map_cons, List.mem_cons, not_or]; exact ⟨hn, h4⟩, h5⟩
      · exact .inr ⟨j + 1, v, by simpa using h4, by rw [h5]; congr 3; omega⟩
/-- A value that is put where it was. -/
theorem IM.again : ∀ {es : List MapEntry} {clock : Nat} {kv : List (Int × Value)} {n : Int} {v : Value} {j : Nat}, IM es clock kv → kv[j]? = some (n, v) → IM (es.modify j fun e => { e with key := .int .i64 n, val := v }) clock kv
  | [], _, [], _, _, _, _, hj => by simp at hj
  | [], _, p :: kv, _, _, _, h, _ => by have := h.len; simp at this
  | e :: es, _, [], _, _, _, h, _ => by have := h.len; simp at this
  | e :: es, clock, p :: kv, n, v, 0, h, hj => by
    obtain ⟨h1, h2, h3, h4, h5, h6, h7⟩ := h.cons_inv
    simp only [List.getElem?_cons_zero, Option.some.injEq] at hj
    subst hj
    exact IM.cons_mk rfl rfl h3 h4 h5 h6 h7
  | e :: es, clock, p :: kv, n, v, j + 1, h, hj => by
    obtain ⟨h1, h2, h3, h4, h5, h6, h7⟩ := h.cons_inv
    rw [List.getElem?_cons_succ] at hj
    rw [List.modify_succ_cons]
    refine IM.cons_mk h1 h2 (h3.again hj) h4 h5 (fun f hf => ?_) h7
    obtain ⟨i, hi⟩ := List.mem_iff_getElem?.1 hf
    rw [List.getElem?_modify] at hi
    cases hei : es[i]? with
    | none => rw [hei] at hi; simp at hi
    | some e1 =>
      rw [hei] at hi
      have := h6 e1 (List.mem_of_getElem? hei)
      by_cases hij : j = i
      · simp [hij] at hi; subst hi; exact this
      · simp [hij] at hi; subst hi; exact this
end Go.Proofs.YtbpmlholiohkpaaGreatDoor

/- Which clauses are used for which units, as Trace keeps it: a map of maps. -/
namespace Go.Proofs.YtbpmlholiohkpaaGreatDoor
open Go Go.D
variable {X : CallFn} {m : M}
theorem ty142 : Tab.env.ty.get 142 = some Tab.t142 := by kernel_rfl
theorem ty143 : Tab.env.ty.get 143 = some Tab.t143 := by kernel_rfl
theorem zero143 : zero? Tab.env 143 = some (.map none) := by kernel_rfl
theorem bin_eqM {r : Nat} : bin? Tab.env .eql 143 (.map (some r)) (.map none) = some (.bool false) := by
  simp only [bin?, eq?, ty143, Tab.t143, Option.map_some]
theorem bin_eqM' : bin? Tab.env .eql 143 (.map none) (.map none) = some (.bool true) := by
  simp only [bin?, eq?, ty143, Tab.t143, Option.map_some]
  rfl
def IR (n : Int) : Prop := -9223372036854775808 ≤ n ∧ n ≤ 9223372036854775807
/-- The map of maps: for each clause the row of its map, and its units. -/
structure UM (bm n0 : Nat) (L : List (Int × Nat × List Int)) (m : M) : Prop where
  out : ∃ es clock, m.get bm = .map es clock ∧ IM es clock (L.map fun p => (p.1, Value.map (some p.2.1)))
  inn : ∀ (i : Nat) (p : Int × Nat × List Int), L[i]? = some p → n0 ≤ p.2.1 ∧ ∃ es clock, m.get p.2.1 = .map es clock ∧ IM es clock (p.2.2.map fun u => (u, Value.bool true))
  nd : ∀ (i j : Nat) (p q : Int × Nat × List Int), L[i]? = some p → L[j]? = some q → p.2.1 = q.2.1 → i = j
  lt : bm < n0
section
variable {bm n0 : Nat} {L : List (Int × Nat × List Int)}
theorem UM.keep {m' : M} (h : UM bm n0 L m) (hk : ∀ b es c, m.get b = .map es c → m'.get b = .map es c) : UM bm n0 L m' := by
  obtain ⟨es, clock, h1, h2⟩ := h.out
  refine ⟨⟨es, clock, hk _ _ _ h1, h2⟩, fun i p hp => ?_, h.nd, h.lt⟩
  obtain ⟨h0, es, clock, h3, h4⟩ := h.inn i p hp
  exact ⟨h0, es, clock, hk _ _ _ h3, h4⟩
theorem Ext.map {m' : M} (h : Ext m m') {b : Nat} {es : List MapEntry} {c : Nat} (hb : m.get b = .map es c) : m'.get b = .map es c := by rw [h.get b (M.lt_of_map hb), hb]
theorem UM.keepE {m' : M} (h : UM bm n0 L m) (he : Ext m m') : UM bm n0 L m' := h.keep fun _ _ _ hb => Ext.map he hb
theorem UM.ltn (h : UM bm n0 L m) : bm < m.n := by
  obtain ⟨es, clock, h1, _⟩ := h.out
  exact M.lt_of_map h1
/-- What a clause's entry is. -/
theorem UM.look (h : UM bm n0 L m) (z : Int) : (z ∉ L.map (·.1) ∧ lookup? Tab.env m 142 (.map (some bm)) (.int .i64 z) false = some (.map none)) ∨ ∃ (i : Nat) (r : Nat) (us : List Int), L[i]? = some (z, r, us) ∧ lookup? Tab.env m 142 (.map (some bm)) (.int .i64 z) false = some (.map (some r)) := by
  obtain ⟨es, clock, h1, h2⟩ := h.out
  rcases h2.find (n := z) (i := 0) with ⟨h3, h4⟩ | ⟨j, v, h3, h4⟩
  · refine .inl ⟨by simpa using h3, ?_⟩
    simp only [lookup?, ty142, Tab.t142, h1, keyed_int, cond_true, h4, zero143, Option.map_some, cond_false]
  · rw [List.getElem?_map] at h3
    cases hp : L[j]? with
    | none => rw [hp] at h3; cases h3
    | some p =>
      rw [hp] at h3
      obtain ⟨c, r, us⟩ := p
      simp only [Option.map_some, Option.some.injEq, Prod.mk.injEq] at h3
      obtain ⟨rfl, rfl⟩ := h3
      refine .inr ⟨j, r, us, hp, ?_⟩
      simp only [lookup?, ty142, Tab.t142, h1, keyed_int, cond_true, h4, cond_false]
/-- A clause's new map. -/
theorem UM.newMap (h : UM bm n0 L m) (hn : n0 ≤ m.n) {z : Int} (hz : z ∉ L.map (·.1)) (hr : IR z) {P : M → M → Nat → Prop}
    (hP : ∀ m1 m2, m2.n = m.n + 1 → UM bm n0 (L ++ [(z, m.n, [])]) m2 → (∀ c, c < m.n → c ≠ bm → m2.get c = m.get c) → P m1 m2 bm) :
    onM (m.push (.map [] 0)) fun m1 => on2 (mapUpd? Tab.env m1 142 (.map (some bm)) (.int .i64 z) (.map (some m.n))) fun m2 b => P m1 m2 b := by
  obtain ⟨es, clock, h1, h2⟩ := h.out
  have hbm := h.ltn
  refine onM_push fun m1 hn1 hg1 hk1 => ?_
  have h1' : m1.get bm = .map es clock := by rw [hk1 bm hbm, h1]
  rcases h2.find (n := z) (i := 0) with ⟨h3, h4⟩ | ⟨j, v, h3, h4⟩
  · have e : mapUpd? Tab.env m1 142 (.map (some bm)) (.int .i64 z) (.map (some m.n)) = some (m1.set bm (.map (es ++ [{ key := .int .i64 z, val := .map (some m.n), born := clock }]) (clock + 1)), bm) := by
      simp only [mapUpd?, mapUpdate?, ty142, Tab.t142, h1', keyed_int, cond_true, h4]
    rw [e, on2_some]
    have hlt1 : bm < m1.n := by omega
    refine hP _ _ hn1 ⟨⟨_, _, M.get_set_same hlt1, ?_⟩, fun i p hp => ?_, fun i j p q hp hq he => ?_, h.lt⟩ fun c hc hne => by rw [M.get_set_ne hne, hk1 c hc]
    · rw [List.map_append]
      exact h2.snoc h3 hr
    · by_cases hi : i < L.length
      · rw [List.getElem?_append_left hi] at hp
        obtain ⟨h0, es', clock', h5, h6⟩ := h.inn i p hp
        refine ⟨h0, es', clock', ?_, h6⟩
        have := h.lt
        rw [M.get_set_ne (by omega), hk1 _ (M.lt_of_map h5), h5]
      · rw [List.getElem?_append_right (by omega)] at hp
        obtain rfl : p = (z, m.n, []) := by
          cases hk : i - L.length with
          | zero => rw [hk] at hp; simp at hp; exact hp.symm
          | succ k => rw [hk] at hp; simp at hp
        refine ⟨hn, [], 0, ?_, IM.nil⟩
        rw [M.get_set_ne (by show m.n ≠ bm; omega)]
        exact hg1
    · have hold : ∀ (i : Nat) (p : Int × Nat × List Int), L[i]? = some p → p.2.1 < m.n := fun i p hp => by
        obtain ⟨_, es', clock', h5, _⟩ := h.inn i p hp
        exact M.lt_of_map h5
      by_cases hi : i < L.length
      · rw [List.getElem?_append_left hi] at hp
        by_cases hj : j < L.length
        · rw [List.getElem?_append_left hj] at hq
          exact h.nd i j p q hp hq he
        · rw [List.getElem?_append_right (by omega)] at hq
          have hq2 : q = (z, m.n, []) := by
            cases hk : j - L.length with
            | zero => rw [hk] at hq; simp at hq; exact hq.symm
            | succ k => rw [hk] at hq; simp at hq
          have := hold i p hp
          rw [he, hq2] at this
          exact absurd this (Nat.lt_irrefl _)
      · rw [List.getElem?_append_right (by omega)] at hp
        have hp2 : p = (z, m.n, []) ∧ i = L.length := by
          cases hk : i - L.length with
          | zero => rw [hk] at hp; simp at hp; exact ⟨hp.symm, by omega⟩
          | succ k => rw [hk] at hp; simp at hp
        by_cases hj : j < L.length
        · rw [List.getElem?_append_left hj] at hq
          have := hold j q hq
          rw [← he, hp2.1] at this
          exact absurd this (Nat.lt_irrefl _)
        · rw [List.getElem?_append_right (by omega)] at hq
          have hq2 : j = L.length := by
            cases hk : j - L.length with
            | zero => omega
            | succ k => rw [hk] at hq; simp at hq
          omega
  · exact absurd (by have := List.mem_of_getElem? h3; rw [List.mem_map] at this ⊢; obtain ⟨p, hp, he⟩ := this; exact ⟨p, hp, by cases he; rfl⟩) hz
/-- A clause's map gets a unit. -/
theorem UM.unit (h : UM bm n0 L m) {i : Nat} {z u : Int} {r : Nat} {us : List Int} (hi : L[i]? = some (z, r, us)) (hr : IR u) {P : M → Nat → Prop}
    (hP : ∀ us' m2, m2.n = m.n → (∀ w, w ∈ us' ↔ w ∈ us ∨ w = u) → UM bm n0 (L.set i (z, r, us')) m2 → (∀ c, c ≠ r → m2.get c = m.get c) → n0 ≤ r → P m2 r) :
    on2 (mapUpd? Tab.env m 143 (.map (some r)) (.int .i64 u) (.bool true)) P := by
  obtain ⟨h0, es, clock, h1, h2⟩ := h.inn i _ hi
  have hlt := (List.getElem?_eq_some_iff.1 hi).1
  have h0 : n0 ≤ r := h0
  have h1 : m.get r = .map es clock := h1
  have hr0 := h.lt
  have fin : ∀ us' es' clock', IM es' clock' (us'.map fun u => (u, Value.bool true)) → UM bm n0 (L.set i (z, r, us')) (m.set r (.map es' clock')) := by
    intro us' es' clock' hm
    have hrn : r < m.n := M.lt_of_map h1
    refine ⟨?_, fun j p hp => ?_, fun j k p q hp hq he => ?_, h.lt⟩
    · obtain ⟨es1, c1, h3, h4⟩ := h.out
      refine ⟨es1, c1, by rw [M.get_set_ne (by omega), h3], ?_⟩
      have : (L.set i (z, r, us')).map (fun p => (p.1, Value.map (some p.2.1))) = L.map fun p => (p.1, Value.map (some p.2.1)) := by
        apply List.ext_getElem?
        intro j
        rw [List.getElem?_map, List.getElem?_map]
        by_cases hij : i = j
        · subst hij
          rw [List.getElem?_set_self hlt, hi]; rfl
        · rw [List.getElem?_set_ne hij]
      rw [this]; exact h4
    · by_cases hij : i = j
      · subst hij
        rw [List.getElem?_set_self hlt] at hp
        cases hp
        exact ⟨h0, es', clock', M.get_set_same hrn, hm⟩
      · rw [List.getElem?_set_ne hij] at hp
        obtain ⟨g0, es1, c1, g1, g2⟩ := h.inn j p hp
        refine ⟨g0, es1, c1, ?_, g2⟩
        rw [M.get_set_ne fun e => hij (h.nd i j _ p hi hp e.symm), g1]
    · have hof : ∀ (j : Nat) (p : Int × Nat × List Int), (L.set i (z, r, us'))[j]? = some p → ∃ p0, L[j]? = some p0 ∧ p0.2.1 = p.2.1 := fun j p hp => by
        by_cases hij : i = j
        · subst hij
          rw [List.getElem?_set_self hlt] at hp
          cases hp
          exact ⟨_, hi, rfl⟩
        · rw [List.getElem?_set_ne hij] at hp
          exact ⟨p, hp, rfl⟩
      obtain ⟨p0, a1, a2⟩ := hof j p hp
      obtain ⟨q0, b1, b2⟩ := hof k q hq
      exact h.nd j k p0 q0 a1 b1 (by rw [a2, b2, he])
  rcases h2.find (n := u) (i := 0) with ⟨h3, h4⟩ | ⟨j, v, h3, h4⟩
  · have e : mapUpd? Tab.env m 143 (.map (some r)) (.int .i64 u) (.bool true) = some (m.set r (.map (es ++ [{ key := .int .i64 u, val := .bool true, born := clock }]) (clock + 1)), r) := by
      simp only [mapUpd?, mapUpdate?, ty143, Tab.t143, h1, keyed_int, cond_true, h4]
    rw [e, on2_some]
    refine hP (us ++ [u]) _ rfl (fun w => by simp) (fin _ _ _ ?_) (fun c hc => M.get_set_ne hc) h0
    rw [List.map_append]
    exact h2.snoc h3 hr
  · have hv : v = .bool true ∧ u ∈ us := by
      rw [List.getElem?_map] at h3
      cases hp : us[j]? with
      | none => rw [hp] at h3; cases h3
      | some w => rw [hp] at h3; cases h3; exact ⟨rfl, List.mem_of_getElem? hp⟩
    obtain ⟨rfl, hu⟩ := hv
    have e : mapUpd? Tab.env m 143 (.map (some r)) (.int .i64 u) (.bool true) = some (m.set r (.map (es.modify j fun e => { e with key := .int .i64 u, val := .bool true }) clock), r) := by
      simp only [mapUpd?, mapUpdate?, ty143, Tab.t143, h1, keyed_int, cond_true, h4, Nat.zero_add]
    rw [e, on2_some]
    refine hP us _ rfl (fun w => ⟨.inl, fun h => ?_⟩) (fin _ _ _ (h2.again h3)) (fun c hc => M.get_set_ne hc) h0
    rcases h with h | rfl
    · exact h
    · exact hu
/-- Is the clause used for the unit? -/
def usedP (L : List (Int × Nat × List Int)) (c u : Int) : Prop := ∃ p ∈ L, p.1 = c ∧ u ∈ p.2.2
theorem usedP_snoc {z : Int} {r : Nat} {c u : Int} : usedP (L ++ [(z, r, [])]) c u ↔ usedP L c u := by
  unfold usedP
  constructor
  · rintro ⟨p, hp, h1, h2⟩
    rcases List.mem_append.1 hp with hp | hp
    · exact ⟨p, hp, h1, h2⟩
    · rw [List.mem_singleton.1 hp] at h2; cases h2
  · rintro ⟨p, hp, h⟩
    exact ⟨p, List.mem_append_left _ hp, h⟩
theorem usedP_set {i : Nat} {z w : Int} {r : Nat} {us us' : List Int} (hi : L[i]? = some (z, r, us)) (hu : ∀ x, x ∈ us' ↔ x ∈ us ∨ x = w) {c u : Int} : usedP (L.set i (z, r, us')) c u ↔ usedP L c u ∨ (c = z ∧ u = w) := by
  have hlt := (List.getElem?_eq_some_iff.1 hi).1
  unfold usedP
  constructor
  · rintro ⟨p, hp, h1, h2⟩
    obtain ⟨j, hj⟩ := List.mem_iff_getElem?.1 hp
    by_cases hij : i = j
    · subst hij
      rw [List.getElem?_set_self hlt] at hj
      cases hj
      rcases (hu u).1 h2 with h | h
      · exact .inl ⟨_, List.mem_of_getElem? hi, h1, h⟩
      · exact .inr ⟨h1.symm, h⟩
    · rw [List.getElem?_set_ne hij] at hj
      exact .inl ⟨p, List.mem_of_getElem? hj, h1, h2⟩
  · rintro (⟨p, hp, h1, h2⟩ | ⟨rfl, rfl⟩)
    · obtain ⟨j, hj⟩ := List.mem_iff_getElem?.1 hp
      by_cases hij : i = j
      · subst hij
        rw [hi] at hj
        cases hj
        exact ⟨_, List.mem_of_getElem? (List.getElem?_set_self hlt), h1, (hu u).2 (.inl h2)⟩
      · exact ⟨p, List.mem_of_getElem? (by rw [List.getElem?_set_ne hij]; exact hj), h1, h2⟩
    · exact ⟨_, List.mem_of_getElem? (List.getElem?_set_self hlt), rfl, (hu u).2 (.inr rfl)⟩
end
/-- slices.Sorted of maps.Keys is known. -/
def Sorts (X : CallFn) : Prop := ∀ args m r, sortX 48 3 [84, 85] (.func 48) args m = some r → X (.func 48) args m = some r
theorem sorted_ok (h48 : Sorts X) {g B r : Nat} {t : TypeId} {es : List MapEntry} {clock : Nat} {kv : List (Int × Value)} (hg : g = 84 ∨ g = 85) (hB : m.get B = .cells [.map (some r)] t none) (hr : m.get r = .map es clock) (hm : IM es clock kv) (hs : kv.length ≤ 1000) :
    ∃ v m', C X (.func 48) [.func (.func g) #[] #[ptrTo B]] m m.n v m' ∧ Sl m' (isort (kv.map (·.1))) v ∧ Ext m m' := by
  have hkeys := hm.2
  have hlen : Nat.ble es.length 1048576 = true := Nat.ble_eq_true_of_le (by rw [hm.len]; omega)
  have e0 : Nat.beq 48 48 = true := rfl
  have hc : ([84, 85].contains g && (#[] : Array Value).toList.isEmpty) = true := by rcases hg with rfl | rfl <;> rfl
  by_cases hnil : kv = []
  · subst hnil
    refine ⟨.slice none 0 0, m, Cl.known (fun l => h48 _ _ _ ?_) (Nat.le_refl _) ⟨_, rfl⟩, .nil, .refl⟩
    have hB' : (m.wl l).get B = .cells [.map (some r)] t none := hB
    have hr' : (m.wl l).get r = .map es clock := hr
    unfold sortX
    simp only [ptrTo, e0, cond_true, hc, hB', hr', hlen, hkeys, List.map_nil]
  · have hne : kv.map (·.1) ≠ [] := by simpa using hnil
    refine ⟨.slice (some ⟨m.n, 0, none⟩) (kv.map (·.1)).length (kv.map (·.1)).length, m.push (.cells ((isort (kv.map (·.1))).map (.int .i64)) 3 (some 1)), Cl.known (fun l => h48 _ _ _ ?_) (Nat.le_succ _) ⟨_, rfl⟩, ?_, Ext.refl.push⟩
    · have hB' : (m.wl l).get B = .cells [.map (some r)] t none := hB
      have hr' : (m.wl l).get r = .map es clock := hr
      unfold sortX
      simp only [ptrTo, e0, cond_true, hc, hB', hr', hlen, hkeys]
      cases hk : kv.map (·.1) with
      | nil => exact absurd hk hne
      | cons a l => rfl
    · have hil := isort_length (kv.map (·.1))
      refine .inr ⟨m.n, 0, (kv.map (·.1)).length, _, _, by rw [hil], M.get_push_new, by simp [hil, Rep.sz], fun i x hi => ?_⟩
      show ((((isort (kv.map (·.1))).map (Value.int .i64)).drop (0 + i * 1)).take 1) = [.int .i64 x]
      rw [Nat.zero_add, Nat.mul_one]
      have hlt := (List.getElem?_eq_some_iff.1 hi).1
      rw [List.drop_eq_getElem_cons (by simpa using hlt)]
      simp only [List.take_succ_cons, List.take_zero, List.getElem_map]
      rw [(List.getElem?_eq_some_iff.1 hi).2]
theorem fn_49 : Tab.env.fn.get 49 = some Tryz.f49 := by kernel_rfl
theorem fn_50 : Tab.env.fn.get 50 = some Tryz.f50 := by kernel_rfl
theorem keys49_ok (hX : NoX X) {b : Nat} : ∃ m', C X (.func 49) [.map (some b)] m m.n (.func (.func 84) #[] #[ptrTo m.n]) m' ∧ Ext m m' ∧ m'.get m.n = .cells [.map (some b)] 142 none ∧ m'.n = m.n + 1 := by
  have key := Cl.genJ (E := Tab.env) (X := X) (f := 49) (args := [.map (some b)]) (m := m) (R := fun v m' bb => v = .func (.func 84) #[] #[ptrTo m.n] ∧ bb = m.n ∧ Ext m m' ∧ m'.get m.n = .cells [.map (some b)] 142 none ∧ m'.n = m.n + 1) (hX.no 49 rfl) fn_49 rfl ?_
  · obtain ⟨v, m', bb, hc, rfl, rfl, h3⟩ := key
    exact ⟨m', hc, h3⟩
  · rw [FJ49]; dsimp only [plainW]
    refine onM_push fun m1 hn1 hg1 hk1 => ?_
    exact .inr ⟨.inl rfl, rfl, Nat.min_self _, ⟨by omega, hk1⟩, hg1, hn1⟩
theorem keys50_ok (hX : NoX X) {b : Nat} : ∃ m', C X (.func 50) [.map (some b)] m m.n (.func (.func 85) #[] #[ptrTo m.n]) m' ∧ Ext m m' ∧ m'.get m.n = .cells [.map (some b)] 143 none ∧ m'.n = m.n + 1 := by
  have key := Cl.genJ (E := Tab.env) (X := X) (f := 50) (args := [.map (some b)]) (m := m) (R := fun v m' bb => v = .func (.func 85) #[] #[ptrTo m.n] ∧ bb = m.n ∧ Ext m m' ∧ m'.get m.n = .cells [.map (some b)] 143 none ∧ m'.n = m.n + 1) (hX.no 50 rfl) fn_50 rfl ?_
  · obtain ⟨v, m', bb, hc, rfl, rfl, h3⟩ := key
    exact ⟨m', hc, h3⟩
  · rw [FJ50]; dsimp only [plainW]
    refine onM_push fun m1 hn1 hg1 hk1 => ?_
    exact .inr ⟨.inl rfl, rfl, Nat.min_self _, ⟨by omega, hk1⟩, hg1, hn1⟩
end Go.Proofs.YtbpmlholiohkpaaGreatDoor
