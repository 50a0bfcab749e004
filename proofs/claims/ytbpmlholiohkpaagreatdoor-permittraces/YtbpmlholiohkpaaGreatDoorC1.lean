/- The data of the laws and registries, as they lie in the store; what is asked of a run beforehand. Contracts of slices.IndexFunc and slices.ContainsFunc at the types in use (made by idx.py). -/
import Derived.Test.YtbpmlholiohkpaaGreatDoorTy
import Derived.Test.YtbpmlholiohkpaaGreatDoorE3
import Derived.Test.YtbpmlholiohkpaaGreatDoorE1
import Derived.Test.YtbpmlholiohkpaaGreatDoorFa
import Derived.Test.YtbpmlholiohkpaaGreatDoorFb
/- The data of the laws and registries, as they lie in the store; what is asked of a run beforehand. -/
namespace Go.Proofs.YtbpmlholiohkpaaGreatDoor
open Go Go.D

/-- What is known beforehand is known of these functions alone. -/
structure NoX (X : CallFn) : Prop where
  sort : ∀ args m r, sortInX 83 (.func 83) args m = some r → X (.func 83) args m = some r
  no : ∀ f, (f == 8 || f == 48 || f == 83) = false → Xno X f
abbrev C (X : CallFn) := Cl Tab.env X
abbrev iv (n : Int) : Value := .int .i64 n

structure Spell where
  f : Int
  t : Int
abbrev Spell.v (s : Spell) : Value := .agg #[.int .i64 s.f, .int .i64 s.t]
structure Clause where
  pub : Int
  sp : Spell
  needs : List Int
  bars : List Int
  gives : Int
structure Repeal where
  cl : Int
  pub : Int
  from' : Int
structure Fact where
  thing : Int
  says : Int
  sp : Spell
  kn : Spell
structure Deed where
  unit : Int
  owner : Int
  sp : Spell
  kn : Spell
structure Grant where
  unit : Int
  kind : Int
  owner : Int
  sp : Spell
  kn : Spell
structure Finding where
  says : Int
  holds : Bool
  fact : Int
  clause : Int
  deriving DecidableEq
structure Law where
  clauses : List Clause
  repeals : List Repeal
  facts : List Fact
structure Registry where
  law : Law
  deeds : List Deed
  grants : List Grant
structure Wish where
  kind : Int
  unit : Int
  owner : Int
  day : Int
  known : Int
structure Query where
  thing : Int
  says : Int
  day : Int
  known : Int
abbrev Wish.v (w : Wish) : Value := .agg #[.int .i64 w.kind, .int .i64 w.unit, .int .i64 w.owner, .int .i64 w.day, .int .i64 w.known]
abbrev Query.v (q : Query) : Value := .agg #[.int .i64 q.thing, .int .i64 q.says, .int .i64 q.day, .int .i64 q.known]
abbrev Repeal.c (x : Repeal) : List Value := [.int .i64 x.cl, .int .i64 x.pub, .int .i64 x.from']
abbrev Fact.c (x : Fact) : List Value := [.int .i64 x.thing, .int .i64 x.says, .int .i64 x.sp.f, .int .i64 x.sp.t, .int .i64 x.kn.f, .int .i64 x.kn.t]
abbrev Deed.c (x : Deed) : List Value := [.int .i64 x.unit, .int .i64 x.owner, .int .i64 x.sp.f, .int .i64 x.sp.t, .int .i64 x.kn.f, .int .i64 x.kn.t]
abbrev Grant.c (x : Grant) : List Value := [.int .i64 x.unit, .int .i64 x.kind, .int .i64 x.owner, .int .i64 x.sp.f, .int .i64 x.sp.t, .int .i64 x.kn.f, .int .i64 x.kn.t]
abbrev Finding.c (x : Finding) : List Value := [.int .i64 x.says, .bool x.holds, .int .i64 x.fact, .int .i64 x.clause]
instance repInt : Rep Int where
  ty := 3
  sz := 1
  agg := false
  tys := []
  rep := fun _ x cs => cs = [.int .i64 x]
  pos := by decide
  one := fun _ => rfl
  len := by rintro _ _ _ rfl; rfl
  ones := by rintro _ _ _ rfl; rfl
  keep := fun h _ => h
instance repRepeal : Rep Repeal where
  ty := 92
  sz := 3
  agg := true
  tys := []
  rep := fun _ x cs => cs = x.c
  pos := by decide
  one := fun h => by cases h
  len := by rintro _ _ _ rfl; rfl
  ones := by rintro _ _ _ rfl; rfl
  keep := fun h _ => h
instance repFact : Rep Fact where
  ty := 66
  sz := 6
  agg := true
  tys := []
  rep := fun _ x cs => cs = x.c
  pos := by decide
  one := fun h => by cases h
  len := by rintro _ _ _ rfl; rfl
  ones := by rintro _ _ _ rfl; rfl
  keep := fun h _ => h
instance repDeed : Rep Deed where
  ty := 69
  sz := 6
  agg := true
  tys := []
  rep := fun _ x cs => cs = x.c
  pos := by decide
  one := fun h => by cases h
  len := by rintro _ _ _ rfl; rfl
  ones := by rintro _ _ _ rfl; rfl
  keep := fun h _ => h
instance repGrant : Rep Grant where
  ty := 71
  sz := 7
  agg := true
  tys := []
  rep := fun _ x cs => cs = x.c
  pos := by decide
  one := fun h => by cases h
  len := by rintro _ _ _ rfl; rfl
  ones := by rintro _ _ _ rfl; rfl
  keep := fun h _ => h
instance repFinding : Rep Finding where
  ty := 150
  sz := 4
  agg := true
  tys := []
  rep := fun _ x cs => cs = x.c
  pos := by decide
  one := fun h => by cases h
  len := by rintro _ _ _ rfl; rfl
  ones := by rintro _ _ _ rfl; rfl
  keep := fun h _ => h
/-- A clause's cells. -/
def Clause.cs (x : Clause) (vn vb : Value) : List Value := [.int .i64 x.pub, .int .i64 x.sp.f, .int .i64 x.sp.t, vn, vb, .int .i64 x.gives]
instance repClause : Rep Clause where
  ty := 64
  sz := 6
  agg := true
  tys := [3]
  rep := fun m x cs => ∃ vn vb, cs = x.cs vn vb ∧ Sl m x.needs vn ∧ Sl m x.bars vb
  pos := by decide
  one := fun h => by cases h
  len := by rintro _ _ _ ⟨vn, vb, rfl, _⟩; rfl
  ones := by rintro _ _ _ ⟨vn, vb, rfl, h1, h2⟩; simp only [Clause.cs, List.all_cons, List.all_nil, h1.one, h2.one]; rfl
  keep := by
    rintro m m' x cs ⟨vn, vb, rfl, h1, h2⟩ hk
    refine ⟨vn, vb, rfl, h1.keep fun b c t g hb ht => hk b c t g hb ?_, h2.keep fun b c t g hb ht => hk b c t g hb ?_⟩
    · simpa [Rep.ty, Rep.tys] using ht
    · simpa [Rep.ty, Rep.tys] using ht
theorem slt_clause : SlT Tab.env 34 64 Clause := ⟨Tab.t34, Tab.t64, by kernel_rfl, ⟨_, rfl⟩, rfl, by kernel_rfl, rfl, rfl⟩
theorem slt_repeal : SlT Tab.env 35 92 Repeal := ⟨Tab.t35, Tab.t92, by kernel_rfl, ⟨_, rfl⟩, rfl, by kernel_rfl, rfl, rfl⟩
theorem slt_fact : SlT Tab.env 36 66 Fact := ⟨Tab.t36, Tab.t66, by kernel_rfl, ⟨_, rfl⟩, rfl, by kernel_rfl, rfl, rfl⟩
theorem slt_deed : SlT Tab.env 39 69 Deed := ⟨Tab.t39, Tab.t69, by kernel_rfl, ⟨_, rfl⟩, rfl, by kernel_rfl, rfl, rfl⟩
theorem slt_grant : SlT Tab.env 40 71 Grant := ⟨Tab.t40, Tab.t71, by kernel_rfl, ⟨_, rfl⟩, rfl, by kernel_rfl, rfl, rfl⟩
theorem slt_int : SlT Tab.env 26 3 Int := ⟨Tab.t26, Tab.t3, by kernel_rfl, ⟨_, rfl⟩, rfl, by kernel_rfl, rfl, rfl⟩
theorem slt_finding : SlT Tab.env 47 150 Finding := ⟨Tab.t47, Tab.t150, by kernel_rfl, ⟨_, rfl⟩, rfl, by kernel_rfl, rfl, rfl⟩
/-- A law's value. -/
structure LawV (m : M) (x : Law) (v1 v2 v3 : Value) : Prop where
  clauses : Sl m x.clauses v1
  repeals : Sl m x.repeals v2
  facts : Sl m x.facts v3
theorem LawV.keepE {m m' : M} {x : Law} {v1 v2 v3 : Value} (h : LawV m x v1 v2 v3) (he : Ext m m') : LawV m' x v1 v2 v3 := ⟨h.clauses.keepE he, h.repeals.keepE he, h.facts.keepE he⟩
structure RegV (m : M) (x : Registry) (v1 v2 v3 v4 v5 : Value) : Prop where
  law : LawV m x.law v1 v2 v3
  deeds : Sl m x.deeds v4
  grants : Sl m x.grants v5
theorem RegV.keepE {m m' : M} {x : Registry} {v1 v2 v3 v4 v5 : Value} (h : RegV m x v1 v2 v3 v4 v5) (he : Ext m m') : RegV m' x v1 v2 v3 v4 v5 := ⟨h.law.keepE he, h.deeds.keepE he, h.grants.keepE he⟩
theorem val_agg {α : Type} [Rep α] {cs : List Value} (h : Rep.agg α = true) : Rep.val α cs = .agg cs.toArray := by unfold Rep.val; rw [h]; rfl
theorem val_int {x : Int} : Rep.val Int [.int .i64 x] = .int .i64 x := rfl
end Go.Proofs.YtbpmlholiohkpaaGreatDoor

/- Contracts of slices.IndexFunc and slices.ContainsFunc at the types in use (made by idx.py). -/
namespace Go.Proofs.YtbpmlholiohkpaaGreatDoor
open Go Go.D

/-- The index of the first element that is taken; -1: there is none. -/
def idx {α : Type} (p : α → Bool) : List α → Int
  | [] => -1
  | x :: l => if p x then 0 else match idx p l with | .ofNat n => n + 1 | .negSucc _ => -1
theorem idx_cases {α : Type} (p : α → Bool) : ∀ l : List α, (idx p l = -1 ∧ ∀ x ∈ l, p x = false) ∨ (∃ i x, idx p l = (i : Nat) ∧ l[i]? = some x ∧ p x = true ∧ ∀ j y, j < i → l[j]? = some y → p y = false)
  | [] => .inl ⟨rfl, fun _ h => by cases h⟩
  | x :: l => by
    cases hp : p x with
    | true => exact .inr ⟨0, x, by simp [idx, hp], rfl, hp, fun j y hj => by omega⟩
    | false =>
      rcases idx_cases p l with ⟨h1, h2⟩ | ⟨i, y, h1, h2, h3, h4⟩
      · refine .inl ⟨by simp only [idx, hp, h1]; rfl, fun z hz => ?_⟩
        rcases List.mem_cons.1 hz with rfl | hz
        · exact hp
        · exact h2 z hz
      · refine .inr ⟨i + 1, y, by simp only [idx, hp, h1]; rfl, by simpa using h2, h3, fun j z hj hz => ?_⟩
        cases j with
        | zero => simp at hz; subst hz; exact hp
        | succ j => exact h4 j z (by omega) (by simpa using hz)
theorem idx_hit {α : Type} {p : α → Bool} {l : List α} {i : Nat} {x : α} (hx : l[i]? = some x) (hp : p x = true) (h : ∀ j y, j < i → l[j]? = some y → p y = false) : idx p l = i := by
  rcases idx_cases p l with ⟨h1, h2⟩ | ⟨k, y, h1, h2, h3, h4⟩
  · rw [h2 x (List.mem_of_getElem? hx)] at hp; cases hp
  · have : i = k := by
      rcases Nat.lt_trichotomy i k with hlt | he | hlt
      · rw [h4 i x hlt hx] at hp; cases hp
      · exact he
      · rw [h k y hlt h2] at h3; cases h3
    rw [h1, this]
theorem idx_miss {α : Type} {p : α → Bool} {l : List α} (h : ∀ x ∈ l, p x = false) : idx p l = -1 := by
  rcases idx_cases p l with ⟨h1, h2⟩ | ⟨k, y, h1, h2, h3, h4⟩
  · exact h1
  · rw [h y (List.mem_of_getElem? h2)] at h3; cases h3
theorem idx_nonneg {α : Type} {p : α → Bool} {l : List α} : decide (0 ≤ idx p l) = l.any p := by
  rcases idx_cases p l with ⟨h1, h2⟩ | ⟨k, y, h1, h2, h3, h4⟩
  · rw [h1]
    have : l.any p = false := by rw [List.any_eq_false]; intro x hx; rw [h2 x hx]; simp
    rw [this]; rfl
  · have : l.any p = true := List.any_eq_true.2 ⟨y, List.mem_of_getElem? h2, h3⟩
    rw [this, h1]; simp
theorem idx_neg {α : Type} {p : α → Bool} {l : List α} : decide (idx p l < 0) = !(l.any p) := by
  rw [← idx_nonneg]
  by_cases h : 0 ≤ idx p l
  · have : ¬ idx p l < 0 := by omega
    simp [h, this]
  · have : idx p l < 0 := by omega
    simp [h, this]


/-- slices.IndexFunc: the closure has an invariant. -/
theorem indexFunc126_vc {X : CallFn} {m : M} {l : List Clause} {v : Value} {g : Fn} {fi ca : Array Value} {R : List Value → M → Nat → Prop} (J : Nat → M → Nat → Prop) (Hit : Nat → M → Nat → Prop) (p : Nat → Bool) (hb : l.length < 4611686018427387904)
    (hl : ∀ i m lo, J i m lo → Sl m l v)
    (hs : ∀ i x m1 lo1, l[i]? = some x → J i m1 lo1 → ∀ cs, Rep.rep m1 x cs → ∃ b m2, C X g (fi.toList ++ ([Rep.val Clause cs] ++ ca.toList)) m1 b (.bool (p i)) m2 ∧ (p i = true → Hit i m2 (min lo1 b)) ∧ (p i = false → J (i + 1) m2 (min lo1 b)))
    (h0 : J 0 m m.n) (hR1 : ∀ i m2 lo2, i < l.length → p i = true → Hit i m2 lo2 → R [.int .i64 i] m2 lo2) (hR2 : ∀ m2 lo2, J l.length m2 lo2 → R [.int .i64 (-1)] m2 lo2) :
    vcF Tab.env X Tryz.f126 [v, .func g fi ca] m R := by
  rw [F126]
  rw [(hl 0 m m.n h0).len slt_clause, on2_some]
  refine Lp.intro (γ := Nat) (fun i => l.length - i) (fun i vs m lo => ∃ w, vs = [w, .int .i64 i] ∧ i ≤ l.length ∧ J i m lo) 0 ⟨_, rfl, Nat.zero_le _, h0⟩ ?_
  rintro i vs m1 lo1 ⟨w, rfl, hi, hJ⟩
  simp only [un_cons, bin_lss, onS_some, ifV_bool]
  refine ifB_intro (fun h => ?_) (fun h => ?_)
  · have hlt : i < l.length := by simpa using h
    have hx : l[i]? = some l[i] := List.getElem?_eq_getElem hlt
    obtain ⟨a, cs, e1, e2, hr⟩ := (hl i m1 lo1 hJ).index slt_clause (k := .i64) hx
    rw [e1, onS_some, e2, onS_some, onFn_func]
    obtain ⟨b, m2, hc, hh1, hh2⟩ := hs i _ m1 lo1 hx hJ cs hr
    refine onC_of hc ?_
    rw [ifV_bool]
    refine ifB_intro (fun hp => ?_) (fun hp => ?_)
    · exact hR1 i _ _ hlt hp (hh1 hp)
    · simp only [bin_add, onS_some]
      refine ⟨i + 1, by omega, w, ?_, hlt, hh2 hp⟩
      rw [wrap64 (by omega) (by omega)]
      rfl
  · have hge : i = l.length := by
      have : ¬ ((i : Int) < (l.length : Int)) := by simpa using h
      omega
    subst hge
    exact hR2 _ _ hJ
/-- slices.IndexFunc: the closure leaves the store as it is. -/
theorem indexFunc126_ok {X : CallFn} (hX : NoX X) {m : M} {l : List Clause} {v : Value} {g : Fn} {fi ca : Array Value} (p : Clause → Bool) (hb : l.length < 4611686018427387904) (hl : Sl m l v)
    (hs : ∀ x ∈ l, ∀ cs, Rep.rep m x cs → C X g (fi.toList ++ ([Rep.val Clause cs] ++ ca.toList)) m m.n (.bool (p x)) m) :
    C X (.func 126) [v, .func g fi ca] m m.n (.int .i64 (idx p l)) m := by
  refine Cl.flat (hX.no 126 rfl) fn_126 rfl rfl ?_
  refine indexFunc126_vc (l := l) (fun i m1 lo => m1 = m ∧ lo = m.n ∧ ∀ j x, j < i → l[j]? = some x → p x = false) (fun i m1 lo => m1 = m ∧ lo = m.n ∧ (∀ j x, j < i → l[j]? = some x → p x = false)) (fun i => match l[i]? with | some x => p x | none => false) hb ?_ ?_ ⟨rfl, rfl, fun j x hj => by omega⟩ ?_ ?_
  · rintro i m1 lo ⟨rfl, _, _⟩; exact hl
  · rintro i x m1 lo hx ⟨rfl, rfl, hJ⟩ cs hr
    rw [hx]
    refine ⟨_, _, hs x (List.mem_of_getElem? hx) cs hr, fun _ => ⟨rfl, Nat.min_self _, hJ⟩, fun hp => ⟨rfl, Nat.min_self _, fun j y hj hy => ?_⟩⟩
    by_cases e : j = i
    · subst e; rw [hx] at hy; cases hy; exact hp
    · exact hJ j y (by omega) hy
  · rintro i m2 lo2 hlt hp ⟨rfl, rfl, hJ⟩
    have hx : l[i]? = some l[i] := List.getElem?_eq_getElem hlt
    rw [hx] at hp
    exact ⟨by rw [mkres, idx_hit hx hp hJ], Nat.le_refl _⟩
  · rintro m2 lo2 ⟨rfl, rfl, hJ⟩
    exact ⟨by rw [mkres, idx_miss fun x hx => by obtain ⟨j, hj⟩ := List.mem_iff_getElem?.1 hx; exact hJ j x (List.getElem?_eq_some_iff.1 hj).1 hj], Nat.le_refl _⟩


/-- slices.IndexFunc: the closure has an invariant. -/
theorem indexFunc128_vc {X : CallFn} {m : M} {l : List Repeal} {v : Value} {g : Fn} {fi ca : Array Value} {R : List Value → M → Nat → Prop} (J : Nat → M → Nat → Prop) (Hit : Nat → M → Nat → Prop) (p : Nat → Bool) (hb : l.length < 4611686018427387904)
    (hl : ∀ i m lo, J i m lo → Sl m l v)
    (hs : ∀ i x m1 lo1, l[i]? = some x → J i m1 lo1 → ∀ cs, Rep.rep m1 x cs → ∃ b m2, C X g (fi.toList ++ ([Rep.val Repeal cs] ++ ca.toList)) m1 b (.bool (p i)) m2 ∧ (p i = true → Hit i m2 (min lo1 b)) ∧ (p i = false → J (i + 1) m2 (min lo1 b)))
    (h0 : J 0 m m.n) (hR1 : ∀ i m2 lo2, i < l.length → p i = true → Hit i m2 lo2 → R [.int .i64 i] m2 lo2) (hR2 : ∀ m2 lo2, J l.length m2 lo2 → R [.int .i64 (-1)] m2 lo2) :
    vcF Tab.env X Tryz.f128 [v, .func g fi ca] m R := by
  rw [F128]
  rw [(hl 0 m m.n h0).len slt_repeal, on2_some]
  refine Lp.intro (γ := Nat) (fun i => l.length - i) (fun i vs m lo => ∃ w, vs = [w, .int .i64 i] ∧ i ≤ l.length ∧ J i m lo) 0 ⟨_, rfl, Nat.zero_le _, h0⟩ ?_
  rintro i vs m1 lo1 ⟨w, rfl, hi, hJ⟩
  simp only [un_cons, bin_lss, onS_some, ifV_bool]
  refine ifB_intro (fun h => ?_) (fun h => ?_)
  · have hlt : i < l.length := by simpa using h
    have hx : l[i]? = some l[i] := List.getElem?_eq_getElem hlt
    obtain ⟨a, cs, e1, e2, hr⟩ := (hl i m1 lo1 hJ).index slt_repeal (k := .i64) hx
    rw [e1, onS_some, e2, onS_some, onFn_func]
    obtain ⟨b, m2, hc, hh1, hh2⟩ := hs i _ m1 lo1 hx hJ cs hr
    refine onC_of hc ?_
    rw [ifV_bool]
    refine ifB_intro (fun hp => ?_) (fun hp => ?_)
    · exact hR1 i _ _ hlt hp (hh1 hp)
    · simp only [bin_add, onS_some]
      refine ⟨i + 1, by omega, w, ?_, hlt, hh2 hp⟩
      rw [wrap64 (by omega) (by omega)]
      rfl
  · have hge : i = l.length := by
      have : ¬ ((i : Int) < (l.length : Int)) := by simpa using h
      omega
    subst hge
    exact hR2 _ _ hJ
/-- slices.IndexFunc: the closure leaves the store as it is. -/
theorem indexFunc128_ok {X : CallFn} (hX : NoX X) {m : M} {l : List Repeal} {v : Value} {g : Fn} {fi ca : Array Value} (p : Repeal → Bool) (hb : l.length < 4611686018427387904) (hl : Sl m l v)
    (hs : ∀ x ∈ l, ∀ cs, Rep.rep m x cs → C X g (fi.toList ++ ([Rep.val Repeal cs] ++ ca.toList)) m m.n (.bool (p x)) m) :
    C X (.func 128) [v, .func g fi ca] m m.n (.int .i64 (idx p l)) m := by
  refine Cl.flat (hX.no 128 rfl) fn_128 rfl rfl ?_
  refine indexFunc128_vc (l := l) (fun i m1 lo => m1 = m ∧ lo = m.n ∧ ∀ j x, j < i → l[j]? = some x → p x = false) (fun i m1 lo => m1 = m ∧ lo = m.n ∧ (∀ j x, j < i → l[j]? = some x → p x = false)) (fun i => match l[i]? with | some x => p x | none => false) hb ?_ ?_ ⟨rfl, rfl, fun j x hj => by omega⟩ ?_ ?_
  · rintro i m1 lo ⟨rfl, _, _⟩; exact hl
  · rintro i x m1 lo hx ⟨rfl, rfl, hJ⟩ cs hr
    rw [hx]
    refine ⟨_, _, hs x (List.mem_of_getElem? hx) cs hr, fun _ => ⟨rfl, Nat.min_self _, hJ⟩, fun hp => ⟨rfl, Nat.min_self _, fun j y hj hy => ?_⟩⟩
    by_cases e : j = i
    · subst e; rw [hx] at hy; cases hy; exact hp
    · exact hJ j y (by omega) hy
  · rintro i m2 lo2 hlt hp ⟨rfl, rfl, hJ⟩
    have hx : l[i]? = some l[i] := List.getElem?_eq_getElem hlt
    rw [hx] at hp
    exact ⟨by rw [mkres, idx_hit hx hp hJ], Nat.le_refl _⟩
  · rintro m2 lo2 ⟨rfl, rfl, hJ⟩
    exact ⟨by rw [mkres, idx_miss fun x hx => by obtain ⟨j, hj⟩ := List.mem_iff_getElem?.1 hx; exact hJ j x (List.getElem?_eq_some_iff.1 hj).1 hj], Nat.le_refl _⟩


/-- slices.IndexFunc: the closure has an invariant. -/
theorem indexFunc129_vc {X : CallFn} {m : M} {l : List Fact} {v : Value} {g : Fn} {fi ca : Array Value} {R : List Value → M → Nat → Prop} (J : Nat → M → Nat → Prop) (Hit : Nat → M → Nat → Prop) (p : Nat → Bool) (hb : l.length < 4611686018427387904)
    (hl : ∀ i m lo, J i m lo → Sl m l v)
    (hs : ∀ i x m1 lo1, l[i]? = some x → J i m1 lo1 → ∀ cs, Rep.rep m1 x cs → ∃ b m2, C X g (fi.toList ++ ([Rep.val Fact cs] ++ ca.toList)) m1 b (.bool (p i)) m2 ∧ (p i = true → Hit i m2 (min lo1 b)) ∧ (p i = false → J (i + 1) m2 (min lo1 b)))
    (h0 : J 0 m m.n) (hR1 : ∀ i m2 lo2, i < l.length → p i = true → Hit i m2 lo2 → R [.int .i64 i] m2 lo2) (hR2 : ∀ m2 lo2, J l.length m2 lo2 → R [.int .i64 (-1)] m2 lo2) :
    vcF Tab.env X Tryz.f129 [v, .func g fi ca] m R := by
  rw [F129]
  rw [(hl 0 m m.n h0).len slt_fact, on2_some]
  refine Lp.intro (γ := Nat) (fun i => l.length - i) (fun i vs m lo => ∃ w, vs = [w, .int .i64 i] ∧ i ≤ l.length ∧ J i m lo) 0 ⟨_, rfl, Nat.zero_le _, h0⟩ ?_
  rintro i vs m1 lo1 ⟨w, rfl, hi, hJ⟩
  simp only [un_cons, bin_lss, onS_some, ifV_bool]
  refine ifB_intro (fun h => ?_) (fun h => ?_)
  · have hlt : i < l.length := by simpa using h
    have hx : l[i]? = some l[i] := List.getElem?_eq_getElem hlt
    obtain ⟨a, cs, e1, e2, hr⟩ := (hl i m1 lo1 hJ).index slt_fact (k := .i64) hx
    rw [e1, onS_some, e2, onS_some, onFn_func]
    obtain ⟨b, m2, hc, hh1, hh2⟩ := hs i _ m1 lo1 hx hJ cs hr
    refine onC_of hc ?_
    rw [ifV_bool]
    refine ifB_intro (fun hp => ?_) (fun hp => ?_)
    · exact hR1 i _ _ hlt hp (hh1 hp)
    · simp only [bin_add, onS_some]
      refine ⟨i + 1, by omega, w, ?_, hlt, hh2 hp⟩
      rw [wrap64 (by omega) (by omega)]
      rfl
  · have hge : i = l.length := by
      have : ¬ ((i : Int) < (l.length : Int)) := by simpa using h
      omega
    subst hge
    exact hR2 _ _ hJ
/-- slices.IndexFunc: the closure leaves the store as it is. -/
theorem indexFunc129_ok {X : CallFn} (hX : NoX X) {m : M} {l : List Fact} {v : Value} {g : Fn} {fi ca : Array Value} (p : Fact → Bool) (hb : l.length < 4611686018427387904) (hl : Sl m l v)
    (hs : ∀ x ∈ l, ∀ cs, Rep.rep m x cs → C X g (fi.toList ++ ([Rep.val Fact cs] ++ ca.toList)) m m.n (.bool (p x)) m) :
    C X (.func 129) [v, .func g fi ca] m m.n (.int .i64 (idx p l)) m := by
  refine Cl.flat (hX.no 129 rfl) fn_129 rfl rfl ?_
  refine indexFunc129_vc (l := l) (fun i m1 lo => m1 = m ∧ lo = m.n ∧ ∀ j x, j < i → l[j]? = some x → p x = false) (fun i m1 lo => m1 = m ∧ lo = m.n ∧ (∀ j x, j < i → l[j]? = some x → p x = false)) (fun i => match l[i]? with | some x => p x | none => false) hb ?_ ?_ ⟨rfl, rfl, fun j x hj => by omega⟩ ?_ ?_
  · rintro i m1 lo ⟨rfl, _, _⟩; exact hl
  · rintro i x m1 lo hx ⟨rfl, rfl, hJ⟩ cs hr
    rw [hx]
    refine ⟨_, _, hs x (List.mem_of_getElem? hx) cs hr, fun _ => ⟨rfl, Nat.min_self _, hJ⟩, fun hp => ⟨rfl, Nat.min_self _, fun j y hj hy => ?_⟩⟩
    by_cases e : j = i
    · subst e; rw [hx] at hy; cases hy; exact hp
    · exact hJ j y (by omega) hy
  · rintro i m2 lo2 hlt hp ⟨rfl, rfl, hJ⟩
    have hx : l[i]? = some l[i] := List.getElem?_eq_getElem hlt
    rw [hx] at hp
    exact ⟨by rw [mkres, idx_hit hx hp hJ], Nat.le_refl _⟩
  · rintro m2 lo2 ⟨rfl, rfl, hJ⟩
    exact ⟨by rw [mkres, idx_miss fun x hx => by obtain ⟨j, hj⟩ := List.mem_iff_getElem?.1 hx; exact hJ j x (List.getElem?_eq_some_iff.1 hj).1 hj], Nat.le_refl _⟩


/-- slices.IndexFunc: the closure has an invariant. -/
theorem indexFunc154_vc {X : CallFn} {m : M} {l : List Int} {v : Value} {g : Fn} {fi ca : Array Value} {R : List Value → M → Nat → Prop} (J : Nat → M → Nat → Prop) (Hit : Nat → M → Nat → Prop) (p : Nat → Bool) (hb : l.length < 4611686018427387904)
    (hl : ∀ i m lo, J i m lo → Sl m l v)
    (hs : ∀ i x m1 lo1, l[i]? = some x → J i m1 lo1 → ∀ cs, Rep.rep m1 x cs → ∃ b m2, C X g (fi.toList ++ ([Rep.val Int cs] ++ ca.toList)) m1 b (.bool (p i)) m2 ∧ (p i = true → Hit i m2 (min lo1 b)) ∧ (p i = false → J (i + 1) m2 (min lo1 b)))
    (h0 : J 0 m m.n) (hR1 : ∀ i m2 lo2, i < l.length → p i = true → Hit i m2 lo2 → R [.int .i64 i] m2 lo2) (hR2 : ∀ m2 lo2, J l.length m2 lo2 → R [.int .i64 (-1)] m2 lo2) :
    vcF Tab.env X Tryz.f154 [v, .func g fi ca] m R := by
  rw [F154]
  rw [(hl 0 m m.n h0).len slt_int, on2_some]
  refine Lp.intro (γ := Nat) (fun i => l.length - i) (fun i vs m lo => ∃ w, vs = [w, .int .i64 i] ∧ i ≤ l.length ∧ J i m lo) 0 ⟨_, rfl, Nat.zero_le _, h0⟩ ?_
  rintro i vs m1 lo1 ⟨w, rfl, hi, hJ⟩
  simp only [un_cons, bin_lss, onS_some, ifV_bool]
  refine ifB_intro (fun h => ?_) (fun h => ?_)
  · have hlt : i < l.length := by simpa using h
    have hx : l[i]? = some l[i] := List.getElem?_eq_getElem hlt
    obtain ⟨a, cs, e1, e2, hr⟩ := (hl i m1 lo1 hJ).index slt_int (k := .i64) hx
    rw [e1, onS_some, e2, onS_some, onFn_func]
    obtain ⟨b, m2, hc, hh1, hh2⟩ := hs i _ m1 lo1 hx hJ cs hr
    refine onC_of hc ?_
    rw [ifV_bool]
    refine ifB_intro (fun hp => ?_) (fun hp => ?_)
    · exact hR1 i _ _ hlt hp (hh1 hp)
    · simp only [bin_add, onS_some]
      refine ⟨i + 1, by omega, w, ?_, hlt, hh2 hp⟩
      rw [wrap64 (by omega) (by omega)]
      rfl
  · have hge : i = l.length := by
      have : ¬ ((i : Int) < (l.length : Int)) := by simpa using h
      omega
    subst hge
    exact hR2 _ _ hJ
/-- slices.IndexFunc: the closure leaves the store as it is. -/
theorem indexFunc154_ok {X : CallFn} (hX : NoX X) {m : M} {l : List Int} {v : Value} {g : Fn} {fi ca : Array Value} (p : Int → Bool) (hb : l.length < 4611686018427387904) (hl : Sl m l v)
    (hs : ∀ x ∈ l, ∀ cs, Rep.rep m x cs → C X g (fi.toList ++ ([Rep.val Int cs] ++ ca.toList)) m m.n (.bool (p x)) m) :
    C X (.func 154) [v, .func g fi ca] m m.n (.int .i64 (idx p l)) m := by
  refine Cl.flat (hX.no 154 rfl) fn_154 rfl rfl ?_
  refine indexFunc154_vc (l := l) (fun i m1 lo => m1 = m ∧ lo = m.n ∧ ∀ j x, j < i → l[j]? = some x → p x = false) (fun i m1 lo => m1 = m ∧ lo = m.n ∧ (∀ j x, j < i → l[j]? = some x → p x = false)) (fun i => match l[i]? with | some x => p x | none => false) hb ?_ ?_ ⟨rfl, rfl, fun j x hj => by omega⟩ ?_ ?_
  · rintro i m1 lo ⟨rfl, _, _⟩; exact hl
  · rintro i x m1 lo hx ⟨rfl, rfl, hJ⟩ cs hr
    rw [hx]
    refine ⟨_, _, hs x (List.mem_of_getElem? hx) cs hr, fun _ => ⟨rfl, Nat.min_self _, hJ⟩, fun hp => ⟨rfl, Nat.min_self _, fun j y hj hy => ?_⟩⟩
    by_cases e : j = i
    · subst e; rw [hx] at hy; cases hy; exact hp
    · exact hJ j y (by omega) hy
  · rintro i m2 lo2 hlt hp ⟨rfl, rfl, hJ⟩
    have hx : l[i]? = some l[i] := List.getElem?_eq_getElem hlt
    rw [hx] at hp
    exact ⟨by rw [mkres, idx_hit hx hp hJ], Nat.le_refl _⟩
  · rintro m2 lo2 ⟨rfl, rfl, hJ⟩
    exact ⟨by rw [mkres, idx_miss fun x hx => by obtain ⟨j, hj⟩ := List.mem_iff_getElem?.1 hx; exact hJ j x (List.getElem?_eq_some_iff.1 hj).1 hj], Nat.le_refl _⟩


/-- slices.IndexFunc: the closure has an invariant. -/
theorem indexFunc153_vc {X : CallFn} {m : M} {l : List Finding} {v : Value} {g : Fn} {fi ca : Array Value} {R : List Value → M → Nat → Prop} (J : Nat → M → Nat → Prop) (Hit : Nat → M → Nat → Prop) (p : Nat → Bool) (hb : l.length < 4611686018427387904)
    (hl : ∀ i m lo, J i m lo → Sl m l v)
    (hs : ∀ i x m1 lo1, l[i]? = some x → J i m1 lo1 → ∀ cs, Rep.rep m1 x cs → ∃ b m2, C X g (fi.toList ++ ([Rep.val Finding cs] ++ ca.toList)) m1 b (.bool (p i)) m2 ∧ (p i = true → Hit i m2 (min lo1 b)) ∧ (p i = false → J (i + 1) m2 (min lo1 b)))
    (h0 : J 0 m m.n) (hR1 : ∀ i m2 lo2, i < l.length → p i = true → Hit i m2 lo2 → R [.int .i64 i] m2 lo2) (hR2 : ∀ m2 lo2, J l.length m2 lo2 → R [.int .i64 (-1)] m2 lo2) :
    vcF Tab.env X Tryz.f153 [v, .func g fi ca] m R := by
  rw [F153]
  rw [(hl 0 m m.n h0).len slt_finding, on2_some]
  refine Lp.intro (γ := Nat) (fun i => l.length - i) (fun i vs m lo => ∃ w, vs = [w, .int .i64 i] ∧ i ≤ l.length ∧ J i m lo) 0 ⟨_, rfl, Nat.zero_le _, h0⟩ ?_
  rintro i vs m1 lo1 ⟨w, rfl, hi, hJ⟩
  simp only [un_cons, bin_lss, onS_some, ifV_bool]
  refine ifB_intro (fun h => ?_) (fun h => ?_)
  · have hlt : i < l.length := by simpa using h
    have hx : l[i]? = some l[i] := List.getElem?_eq_getElem hlt
    obtain ⟨a, cs, e1, e2, hr⟩ := (hl i m1 lo1 hJ).index slt_finding (k := .i64) hx
    rw [e1, onS_some, e2, onS_some, onFn_func]
    obtain ⟨b, m2, hc, hh1, hh2⟩ := hs i _ m1 lo1 hx hJ cs hr
    refine onC_of hc ?_
    rw [ifV_bool]
    refine ifB_intro (fun hp => ?_) (fun hp => ?_)
    · exact hR1 i _ _ hlt hp (hh1 hp)
    · simp only [bin_add, onS_some]
      refine ⟨i + 1, by omega, w, ?_, hlt, hh2 hp⟩
      rw [wrap64 (by omega) (by omega)]
      rfl
  · have hge : i = l.length := by
      have : ¬ ((i : Int) < (l.length : Int)) := by simpa using h
      omega
    subst hge
    exact hR2 _ _ hJ
/-- slices.IndexFunc: the closure leaves the store as it is. -/
theorem indexFunc153_ok {X : CallFn} (hX : NoX X) {m : M} {l : List Finding} {v : Value} {g : Fn} {fi ca : Array Value} (p : Finding → Bool) (hb : l.length < 4611686018427387904) (hl : Sl m l v)
    (hs : ∀ x ∈ l, ∀ cs, Rep.rep m x cs → C X g (fi.toList ++ ([Rep.val Finding cs] ++ ca.toList)) m m.n (.bool (p x)) m) :
    C X (.func 153) [v, .func g fi ca] m m.n (.int .i64 (idx p l)) m := by
  refine Cl.flat (hX.no 153 rfl) fn_153 rfl rfl ?_
  refine indexFunc153_vc (l := l) (fun i m1 lo => m1 = m ∧ lo = m.n ∧ ∀ j x, j < i → l[j]? = some x → p x = false) (fun i m1 lo => m1 = m ∧ lo = m.n ∧ (∀ j x, j < i → l[j]? = some x → p x = false)) (fun i => match l[i]? with | some x => p x | none => false) hb ?_ ?_ ⟨rfl, rfl, fun j x hj => by omega⟩ ?_ ?_
  · rintro i m1 lo ⟨rfl, _, _⟩; exact hl
  · rintro i x m1 lo hx ⟨rfl, rfl, hJ⟩ cs hr
    rw [hx]
    refine ⟨_, _, hs x (List.mem_of_getElem? hx) cs hr, fun _ => ⟨rfl, Nat.min_self _, hJ⟩, fun hp => ⟨rfl, Nat.min_self _, fun j y hj hy => ?_⟩⟩
    by_cases e : j = i
    · subst e; rw [hx] at hy; cases hy; exact hp
    · exact hJ j y (by omega) hy
  · rintro i m2 lo2 hlt hp ⟨rfl, rfl, hJ⟩
    have hx : l[i]? = some l[i] := List.getElem?_eq_getElem hlt
    rw [hx] at hp
    exact ⟨by rw [mkres, idx_hit hx hp hJ], Nat.le_refl _⟩
  · rintro m2 lo2 ⟨rfl, rfl, hJ⟩
    exact ⟨by rw [mkres, idx_miss fun x hx => by obtain ⟨j, hj⟩ := List.mem_iff_getElem?.1 hx; exact hJ j x (List.getElem?_eq_some_iff.1 hj).1 hj], Nat.le_refl _⟩


/-- slices.IndexFunc: the closure has an invariant. -/
theorem indexFunc64_vc {X : CallFn} {m : M} {l : List Deed} {v : Value} {g : Fn} {fi ca : Array Value} {R : List Value → M → Nat → Prop} (J : Nat → M → Nat → Prop) (Hit : Nat → M → Nat → Prop) (p : Nat → Bool) (hb : l.length < 4611686018427387904)
    (hl : ∀ i m lo, J i m lo → Sl m l v)
    (hs : ∀ i x m1 lo1, l[i]? = some x → J i m1 lo1 → ∀ cs, Rep.rep m1 x cs → ∃ b m2, C X g (fi.toList ++ ([Rep.val Deed cs] ++ ca.toList)) m1 b (.bool (p i)) m2 ∧ (p i = true → Hit i m2 (min lo1 b)) ∧ (p i = false → J (i + 1) m2 (min lo1 b)))
    (h0 : J 0 m m.n) (hR1 : ∀ i m2 lo2, i < l.length → p i = true → Hit i m2 lo2 → R [.int .i64 i] m2 lo2) (hR2 : ∀ m2 lo2, J l.length m2 lo2 → R [.int .i64 (-1)] m2 lo2) :
    vcF Tab.env X Tryz.f64 [v, .func g fi ca] m R := by
  rw [F64]
  rw [(hl 0 m m.n h0).len slt_deed, on2_some]
  refine Lp.intro (γ := Nat) (fun i => l.length - i) (fun i vs m lo => ∃ w, vs = [w, .int .i64 i] ∧ i ≤ l.length ∧ J i m lo) 0 ⟨_, rfl, Nat.zero_le _, h0⟩ ?_
  rintro i vs m1 lo1 ⟨w, rfl, hi, hJ⟩
  simp only [un_cons, bin_lss, onS_some, ifV_bool]
  refine ifB_intro (fun h => ?_) (fun h => ?_)
  · have hlt : i < l.length := by simpa using h
    have hx : l[i]? = some l[i] := List.getElem?_eq_getElem hlt
    obtain ⟨a, cs, e1, e2, hr⟩ := (hl i m1 lo1 hJ).index slt_deed (k := .i64) hx
    rw [e1, onS_some, e2, onS_some, onFn_func]
    obtain ⟨b, m2, hc, hh1, hh2⟩ := hs i _ m1 lo1 hx hJ cs hr
    refine onC_of hc ?_
    rw [ifV_bool]
    refine ifB_intro (fun hp => ?_) (fun hp => ?_)
    · exact hR1 i _ _ hlt hp (hh1 hp)
    · simp only [bin_add, onS_some]
      refine ⟨i + 1, by omega, w, ?_, hlt, hh2 hp⟩
      rw [wrap64 (by omega) (by omega)]
      rfl
  · have hge : i = l.length := by
      have : ¬ ((i : Int) < (l.length : Int)) := by simpa using h
      omega
    subst hge
    exact hR2 _ _ hJ
/-- slices.IndexFunc: the closure leaves the store as it is. -/
theorem indexFunc64_ok {X : CallFn} (hX : NoX X) {m : M} {l : List Deed} {v : Value} {g : Fn} {fi ca : Array Value} (p : Deed → Bool) (hb : l.length < 4611686018427387904) (hl : Sl m l v)
    (hs : ∀ x ∈ l, ∀ cs, Rep.rep m x cs → C X g (fi.toList ++ ([Rep.val Deed cs] ++ ca.toList)) m m.n (.bool (p x)) m) :
    C X (.func 64) [v, .func g fi ca] m m.n (.int .i64 (idx p l)) m := by
  refine Cl.flat (hX.no 64 rfl) fn_64 rfl rfl ?_
  refine indexFunc64_vc (l := l) (fun i m1 lo => m1 = m ∧ lo = m.n ∧ ∀ j x, j < i → l[j]? = some x → p x = false) (fun i m1 lo => m1 = m ∧ lo = m.n ∧ (∀ j x, j < i → l[j]? = some x → p x = false)) (fun i => match l[i]? with | some x => p x | none => false) hb ?_ ?_ ⟨rfl, rfl, fun j x hj => by omega⟩ ?_ ?_
  · rintro i m1 lo ⟨rfl, _, _⟩; exact hl
  · rintro i x m1 lo hx ⟨rfl, rfl, hJ⟩ cs hr
    rw [hx]
    refine ⟨_, _, hs x (List.mem_of_getElem? hx) cs hr, fun _ => ⟨rfl, Nat.min_self _, hJ⟩, fun hp => ⟨rfl, Nat.min_self _, fun j y hj hy => ?_⟩⟩
    by_cases e : j = i
    · subst e; rw [hx] at hy; cases hy; exact hp
    · exact hJ j y (by omega) hy
  · rintro i m2 lo2 hlt hp ⟨rfl, rfl, hJ⟩
    have hx : l[i]? = some l[i] := List.getElem?_eq_getElem hlt
    rw [hx] at hp
    exact ⟨by rw [mkres, idx_hit hx hp hJ], Nat.le_refl _⟩
  · rintro m2 lo2 ⟨rfl, rfl, hJ⟩
    exact ⟨by rw [mkres, idx_miss fun x hx => by obtain ⟨j, hj⟩ := List.mem_iff_getElem?.1 hx; exact hJ j x (List.getElem?_eq_some_iff.1 hj).1 hj], Nat.le_refl _⟩


/-- slices.IndexFunc: the closure has an invariant. -/
theorem indexFunc67_vc {X : CallFn} {m : M} {l : List Grant} {v : Value} {g : Fn} {fi ca : Array Value} {R : List Value → M → Nat → Prop} (J : Nat → M → Nat → Prop) (Hit : Nat → M → Nat → Prop) (p : Nat → Bool) (hb : l.length < 4611686018427387904)
    (hl : ∀ i m lo, J i m lo → Sl m l v)
    (hs : ∀ i x m1 lo1, l[i]? = some x → J i m1 lo1 → ∀ cs, Rep.rep m1 x cs → ∃ b m2, C X g (fi.toList ++ ([Rep.val Grant cs] ++ ca.toList)) m1 b (.bool (p i)) m2 ∧ (p i = true → Hit i m2 (min lo1 b)) ∧ (p i = false → J (i + 1) m2 (min lo1 b)))
    (h0 : J 0 m m.n) (hR1 : ∀ i m2 lo2, i < l.length → p i = true → Hit i m2 lo2 → R [.int .i64 i] m2 lo2) (hR2 : ∀ m2 lo2, J l.length m2 lo2 → R [.int .i64 (-1)] m2 lo2) :
    vcF Tab.env X Tryz.f67 [v, .func g fi ca] m R := by
  rw [F67]
  rw [(hl 0 m m.n h0).len slt_grant, on2_some]
  refine Lp.intro (γ := Nat) (fun i => l.length - i) (fun i vs m lo => ∃ w, vs = [w, .int .i64 i] ∧ i ≤ l.length ∧ J i m lo) 0 ⟨_, rfl, Nat.zero_le _, h0⟩ ?_
  rintro i vs m1 lo1 ⟨w, rfl, hi, hJ⟩
  simp only [un_cons, bin_lss, onS_some, ifV_bool]
  refine ifB_intro (fun h => ?_) (fun h => ?_)
  · have hlt : i < l.length := by simpa using h
    have hx : l[i]? = some l[i] := List.getElem?_eq_getElem hlt
    obtain ⟨a, cs, e1, e2, hr⟩ := (hl i m1 lo1 hJ).index slt_grant (k := .i64) hx
    rw [e1, onS_some, e2, onS_some, onFn_func]
    obtain ⟨b, m2, hc, hh1, hh2⟩ := hs i _ m1 lo1 hx hJ cs hr
    refine onC_of hc ?_
    rw [ifV_bool]
    refine ifB_intro (fun hp => ?_) (fun hp => ?_)
    · exact hR1 i _ _ hlt hp (hh1 hp)
    · simp only [bin_add, onS_some]
      refine ⟨i + 1, by omega, w, ?_, hlt, hh2 hp⟩
      rw [wrap64 (by omega) (by omega)]
      rfl
  · have hge : i = l.length := by
      have : ¬ ((i : Int) < (l.length : Int)) := by simpa using h
      omega
    subst hge
    exact hR2 _ _ hJ
/-- slices.IndexFunc: the closure leaves the store as it is. -/
theorem indexFunc67_ok {X : CallFn} (hX : NoX X) {m : M} {l : List Grant} {v : Value} {g : Fn} {fi ca : Array Value} (p : Grant → Bool) (hb : l.length < 4611686018427387904) (hl : Sl m l v)
    (hs : ∀ x ∈ l, ∀ cs, Rep.rep m x cs → C X g (fi.toList ++ ([Rep.val Grant cs] ++ ca.toList)) m m.n (.bool (p x)) m) :
    C X (.func 67) [v, .func g fi ca] m m.n (.int .i64 (idx p l)) m := by
  refine Cl.flat (hX.no 67 rfl) fn_67 rfl rfl ?_
  refine indexFunc67_vc (l := l) (fun i m1 lo => m1 = m ∧ lo = m.n ∧ ∀ j x, j < i → l[j]? = some x → p x = false) (fun i m1 lo => m1 = m ∧ lo = m.n ∧ (∀ j x, j < i → l[j]? = some x → p x = false)) (fun i => match l[i]? with | some x => p x | none => false) hb ?_ ?_ ⟨rfl, rfl, fun j x hj => by omega⟩ ?_ ?_
  · rintro i m1 lo ⟨rfl, _, _⟩; exact hl
  · rintro i x m1 lo hx ⟨rfl, rfl, hJ⟩ cs hr
    rw [hx]
    refine ⟨_, _, hs x (List.mem_of_getElem? hx) cs hr, fun _ => ⟨rfl, Nat.min_self _, hJ⟩, fun hp => ⟨rfl, Nat.min_self _, fun j y hj hy => ?_⟩⟩
    by_cases e : j = i
    · subst e; rw [hx] at hy; cases hy; exact hp
    · exact hJ j y (by omega) hy
  · rintro i m2 lo2 hlt hp ⟨rfl, rfl, hJ⟩
    have hx : l[i]? = some l[i] := List.getElem?_eq_getElem hlt
    rw [hx] at hp
    exact ⟨by rw [mkres, idx_hit hx hp hJ], Nat.le_refl _⟩
  · rintro m2 lo2 ⟨rfl, rfl, hJ⟩
    exact ⟨by rw [mkres, idx_miss fun x hx => by obtain ⟨j, hj⟩ := List.mem_iff_getElem?.1 hx; exact hJ j x (List.getElem?_eq_some_iff.1 hj).1 hj], Nat.le_refl _⟩


/-- slices.ContainsFunc: the closure leaves the store as it is. -/
theorem containsFunc73_ok {X : CallFn} (hX : NoX X) {m : M} {l : List Clause} {v : Value} {g : Fn} {fi ca : Array Value} (p : Clause → Bool) (hb : l.length < 4611686018427387904) (hl : Sl m l v)
    (hs : ∀ x ∈ l, ∀ cs, Rep.rep m x cs → C X g (fi.toList ++ ([Rep.val Clause cs] ++ ca.toList)) m m.n (.bool (p x)) m) :
    C X (.func 73) [v, .func g fi ca] m m.n (.bool (l.any p)) m := by
  refine Cl.flat (hX.no 73 rfl) fn_73 rfl rfl ?_
  rw [F73]
  refine onC_of (indexFunc126_ok hX p hb hl hs) ?_
  simp only [bin_geq, onS_some, idx_nonneg, mkres]
  exact ⟨trivial, by omega⟩


/-- slices.ContainsFunc: the closure leaves the store as it is. -/
theorem containsFunc78_ok {X : CallFn} (hX : NoX X) {m : M} {l : List Repeal} {v : Value} {g : Fn} {fi ca : Array Value} (p : Repeal → Bool) (hb : l.length < 4611686018427387904) (hl : Sl m l v)
    (hs : ∀ x ∈ l, ∀ cs, Rep.rep m x cs → C X g (fi.toList ++ ([Rep.val Repeal cs] ++ ca.toList)) m m.n (.bool (p x)) m) :
    C X (.func 78) [v, .func g fi ca] m m.n (.bool (l.any p)) m := by
  refine Cl.flat (hX.no 78 rfl) fn_78 rfl rfl ?_
  rw [F78]
  refine onC_of (indexFunc128_ok hX p hb hl hs) ?_
  simp only [bin_geq, onS_some, idx_nonneg, mkres]
  exact ⟨trivial, by omega⟩


/-- slices.ContainsFunc: the closure leaves the store as it is. -/
theorem containsFunc80_ok {X : CallFn} (hX : NoX X) {m : M} {l : List Fact} {v : Value} {g : Fn} {fi ca : Array Value} (p : Fact → Bool) (hb : l.length < 4611686018427387904) (hl : Sl m l v)
    (hs : ∀ x ∈ l, ∀ cs, Rep.rep m x cs → C X g (fi.toList ++ ([Rep.val Fact cs] ++ ca.toList)) m m.n (.bool (p x)) m) :
    C X (.func 80) [v, .func g fi ca] m m.n (.bool (l.any p)) m := by
  refine Cl.flat (hX.no 80 rfl) fn_80 rfl rfl ?_
  rw [F80]
  refine onC_of (indexFunc129_ok hX p hb hl hs) ?_
  simp only [bin_geq, onS_some, idx_nonneg, mkres]
  exact ⟨trivial, by omega⟩


/-- slices.ContainsFunc: the closure leaves the store as it is. -/
theorem containsFunc118_ok {X : CallFn} (hX : NoX X) {m : M} {l : List Int} {v : Value} {g : Fn} {fi ca : Array Value} (p : Int → Bool) (hb : l.length < 4611686018427387904) (hl : Sl m l v)
    (hs : ∀ x ∈ l, ∀ cs, Rep.rep m x cs → C X g (fi.toList ++ ([Rep.val Int cs] ++ ca.toList)) m m.n (.bool (p x)) m) :
    C X (.func 118) [v, .func g fi ca] m m.n (.bool (l.any p)) m := by
  refine Cl.flat (hX.no 118 rfl) fn_118 rfl rfl ?_
  rw [F118]
  refine onC_of (indexFunc154_ok hX p hb hl hs) ?_
  simp only [bin_geq, onS_some, idx_nonneg, mkres]
  exact ⟨trivial, by omega⟩


/-- slices.ContainsFunc: the closure leaves the store as it is. -/
theorem containsFunc115_ok {X : CallFn} (hX : NoX X) {m : M} {l : List Finding} {v : Value} {g : Fn} {fi ca : Array Value} (p : Finding → Bool) (hb : l.length < 4611686018427387904) (hl : Sl m l v)
    (hs : ∀ x ∈ l, ∀ cs, Rep.rep m x cs → C X g (fi.toList ++ ([Rep.val Finding cs] ++ ca.toList)) m m.n (.bool (p x)) m) :
    C X (.func 115) [v, .func g fi ca] m m.n (.bool (l.any p)) m := by
  refine Cl.flat (hX.no 115 rfl) fn_115 rfl rfl ?_
  rw [F115]
  refine onC_of (indexFunc153_ok hX p hb hl hs) ?_
  simp only [bin_geq, onS_some, idx_nonneg, mkres]
  exact ⟨trivial, by omega⟩


/-- permit.first. -/
theorem first33_ok {X : CallFn} (hX : NoX X) {m : M} {l : List Deed} {v : Value} {g : Fn} {fi ca : Array Value} (p : Deed → Bool) (hb : l.length < 4611686018427387904) (hl : Sl m l v)
    (hs : ∀ x ∈ l, ∀ cs, Rep.rep m x cs → C X g (fi.toList ++ ([Rep.val Deed cs] ++ ca.toList)) m m.n (.bool (p x)) m) :
    C X (.func 33) [v, .func g fi ca] m m.n (.int .i64 (idx p l)) m := by
  refine Cl.flat (hX.no 33 rfl) fn_33 rfl rfl ?_
  rw [F33]
  refine onC_of (indexFunc64_ok hX p hb hl hs) ?_
  exact ⟨rfl, by omega⟩


/-- permit.first. -/
theorem first35_ok {X : CallFn} (hX : NoX X) {m : M} {l : List Grant} {v : Value} {g : Fn} {fi ca : Array Value} (p : Grant → Bool) (hb : l.length < 4611686018427387904) (hl : Sl m l v)
    (hs : ∀ x ∈ l, ∀ cs, Rep.rep m x cs → C X g (fi.toList ++ ([Rep.val Grant cs] ++ ca.toList)) m m.n (.bool (p x)) m) :
    C X (.func 35) [v, .func g fi ca] m m.n (.int .i64 (idx p l)) m := by
  refine Cl.flat (hX.no 35 rfl) fn_35 rfl rfl ?_
  rw [F35]
  refine onC_of (indexFunc67_ok hX p hb hl hs) ?_
  exact ⟨rfl, by omega⟩

end Go.Proofs.YtbpmlholiohkpaaGreatDoor
