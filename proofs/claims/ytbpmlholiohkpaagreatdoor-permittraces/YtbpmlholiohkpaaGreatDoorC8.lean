/- Contracts: Trace. Tables of truth values: a slice of arrays of three. -/
import Derived.Test.YtbpmlholiohkpaaGreatDoorC7
import Derived.Test.YtbpmlholiohkpaaGreatDoorC3
import Derived.Test.YtbpmlholiohkpaaGreatDoorC5
/- Contracts: Trace. -/
namespace Go.Proofs.YtbpmlholiohkpaaGreatDoor
open Go Go.D
variable {X : CallFn} {m : M}
structure Ruling where
  task : Int
  kind : Int
  unit : Int
  a : Bool
  n : Bool
  lst : List Finding
  d : Int
  g : Int
structure Trail where
  cl : Int
  us : List Int
instance repRuling : Rep Ruling where
  ty := 81
  sz := 8
  agg := true
  tys := [150]
  rep := fun m x cs => ∃ pv, cs = [.int .i64 x.task, .int .i64 x.kind, .int .i64 x.unit, .bool x.a, .bool x.n, pv, .int .i64 x.d, .int .i64 x.g] ∧ Sl m x.lst pv
  pos := by decide
  one := fun h => by cases h
  len := by rintro _ _ _ ⟨pv, rfl, _⟩; rfl
  ones := by rintro _ _ _ ⟨pv, rfl, h1⟩; simp only [List.all_cons, List.all_nil, h1.one]; rfl
  keep := by
    rintro m m' x cs ⟨pv, rfl, h1⟩ hk
    exact ⟨pv, rfl, h1.keep fun b c t g hb ht => hk b c t g hb (by simpa [Rep.ty, Rep.tys] using ht)⟩
instance repTrail : Rep Trail where
  ty := 87
  sz := 2
  agg := true
  tys := [3]
  rep := fun m x cs => ∃ vu, cs = [.int .i64 x.cl, vu] ∧ Sl m x.us vu
  pos := by decide
  one := fun h => by cases h
  len := by rintro _ _ _ ⟨vu, rfl, _⟩; rfl
  ones := by rintro _ _ _ ⟨vu, rfl, h1⟩; simp only [List.all_cons, List.all_nil, h1.one]; rfl
  keep := by
    rintro m m' x cs ⟨vu, rfl, h1⟩ hk
    exact ⟨vu, rfl, h1.keep fun b c t g hb ht => hk b c t g hb (by simpa [Rep.ty, Rep.tys] using ht)⟩
theorem slt_ruling : SlT Tab.env 78 81 Ruling := ⟨Tab.t78, Tab.t81, by kernel_rfl, ⟨_, rfl⟩, rfl, by kernel_rfl, rfl, rfl⟩
theorem slt_trail : SlT Tab.env 82 87 Trail := ⟨Tab.t82, Tab.t87, by kernel_rfl, ⟨_, rfl⟩, rfl, by kernel_rfl, rfl, rfl⟩
theorem apt_trail : ApT Tab.env 82 Trail := ⟨Tab.t82, Tab.t87, by kernel_rfl, rfl, rfl, by kernel_rfl, by decide, rfl⟩
theorem apt_ruling : ApT Tab.env 78 Ruling := ⟨Tab.t78, Tab.t81, by kernel_rfl, rfl, rfl, by kernel_rfl, by decide, rfl⟩
theorem buildSlice_t {a b : Value} : buildSlice? Tab.env m 82 1 [(0, .agg #[a, b])] = some (.slice (some ⟨m.n, 0, none⟩) 1 1, m.push (.cells [a, b] 87 none)) := by
  simp only [buildSlice?, show Tab.env.ty.get 82 = some Tab.t82 by kernel_rfl, Tab.t82, show zero? Tab.env 87 = some (.agg #[.int .i64 0, .slice none 0 0]) by kernel_rfl, cells_agg]
  rfl
/-- The query of a ruling. -/
def Ruling.query (x : Ruling) (n k : Int) : Query := ⟨x.unit, 10 + x.kind, n, k⟩
/-- Does a ruling lean on a clause? -/
def leansP (l : Law) (n k : Int) (x : Ruling) (c : Int) : Prop := ∃ y ∈ x.lst, usesB l (x.query n k) y c = true
structure Ruling.Fit (r : Registry) (n k : Int) (x : Ruling) : Prop where
  unit : 0 ≤ x.unit ∧ x.unit ≤ 2
  kind : 1 ≤ x.kind ∧ x.kind ≤ 9
  len : x.lst.length ≤ 20
  pr : provesS r.law (x.query n k) (x.query n k).says x.n x.lst = true
theorem isort_strict {l : List Int} (h : l.Nodup) : (isort l).Pairwise (fun a b => a < b) := by
  have h1 := isort_sorted l
  have h2 : (isort l).Nodup := (isort_perm l).nodup_iff.2 h
  have := h1.and h2
  exact this.imp fun ⟨a, b⟩ => by omega
theorem IM.nodup : ∀ {es : List MapEntry} {clock : Nat} {kv : List (Int × Value)}, IM es clock kv → (kv.map (·.1)).Nodup
  | [], _, [], _ => by simp
  | [], _, p :: kv, h => by have := h.len; simp at this
  | e :: es, _, [], h => by simp
  | e :: es, clock, p :: kv, h => by
    obtain ⟨h1, h2, h3, h4, h5, _⟩ := h.cons_inv
    rw [List.map_cons, List.nodup_cons]
    exact ⟨h5, h3.nodup⟩
theorem strict_len {N : Int} : ∀ {l : List Int} {a : Int}, l.Pairwise (fun x y => x < y) → (∀ z ∈ l, a ≤ z ∧ z < N) → (l.length : Int) ≤ max 0 (N - a)
  | [], a, _, _ => by simp; omega
  | x :: l, a, h, hb => by
    rw [List.pairwise_cons] at h
    have hx := hb x List.mem_cons_self
    have := strict_len (l := l) (a := x + 1) h.2 fun z hz => ⟨by have := h.1 z hz; omega, (hb z (List.mem_cons_of_mem _ hz)).2⟩
    rw [List.length_cons]
    omega
theorem nodup_len {N : Nat} {l : List Int} (h : l.Nodup) (hb : ∀ z ∈ l, 0 ≤ z ∧ z < N) : l.length ≤ N := by
  have := strict_len (N := N) (a := 0) (isort_strict h) fun z hz => hb z ((isort_perm l).mem_iff.1 hz)
  rw [isort_length] at this
  omega
/-- What Trace hands back. -/
structure Traced (r : Registry) (n k : Int) (rl : List Ruling) (tl : List Trail) : Prop where
  asc : (tl.map (·.cl)).Pairwise (fun a b => a < b)
  us : ∀ t ∈ tl, t.us ≠ [] ∧ t.us.Nodup ∧ ∀ u, u ∈ t.us ↔ ∃ x ∈ rl, x.unit = u ∧ leansP r.law n k x t.cl
  all : ∀ x ∈ rl, ∀ c, leansP r.law n k x c → ∃ t ∈ tl, t.cl = c
theorem trace_ok (hX : NoX X) (h48 : Sorts X) {r : Registry} {v1 v2 v3 v4 v5 : Value} (hr : RegV m r v1 v2 v3 v4 v5) (hs : r.Sized) (hro : r.ok = true) {n k : Int} (hn : 0 ≤ n ∧ n ≤ 99) (hk : 0 ≤ k ∧ k ≤ 99) {rl : List Ruling} {vr : Value} (hl : Sl m rl vr) (hlen : rl.length ≤ 6) (hfit : ∀ x ∈ rl, x.Fit r n k) :
    ∃ vt tl m', C X (.func 20) [.agg #[v1, v2, v3, v4, v5], vr, .int .i64 n, .int .i64 k] m m.n (.tuple #[vt, .int .i64 0]) m' ∧ Sl m' tl vt ∧ Traced r n k rl tl ∧ tl.length ≤ 20 ∧ Ext m m' := by
  have key := Cl.genJ (E := Tab.env) (X := X) (f := 20) (args := [.agg #[v1, v2, v3, v4, v5], vr, .int .i64 n, .int .i64 k]) (m := m) (R := fun v m' b => ∃ vt tl, v = .tuple #[vt, .int .i64 0] ∧ b = m.n ∧ Sl m' tl vt ∧ Traced r n k rl tl ∧ tl.length ≤ 20 ∧ Ext m m') (hX.no 20 rfl) fn_20 rfl ?_
  · obtain ⟨v, m', b, hc, vt, tl, rfl, rfl, h⟩ := key
    exact ⟨vt, tl, m', hc, h⟩
  have hro' := hro
  simp only [Registry.ok, Bool.and_eq_true] at hro'
  have hlz := law_sizes hro'.1
  rw [FJ20]; dsimp only [plainW]
  refine onM_push fun m1 hn1 hg1 hk1 => ?_
  simp only [cells_agg] at hg1
  have he1 : Ext m m1 := ⟨by omega, hk1⟩
  have hr1 := hr.keepE he1
  have hl1 := hl.keepE he1
  simp only [ptrTo]
  refine jn_of (fun vs m' lo' => vs = [.bool false] ∧ m1 = m' ∧ m.n ≤ lo') (fun R hR => ?_) ?_
  · rw [load_42, loadCells_of hg1 (by simp), Option.map_some, onS_some]
    refine onC_of (show C X (.func 17) [Value.agg (List.take 5 (List.drop 0 [v1, v2, v3, v4, v5])).toArray] m1 m1.n _ m1 from validReg_ok hX hr1 hs) ?_
    rw [hro]
    simp only [Bool.not_true, hl1.len slt_ruling, onS_some, on2_some, ifV_bool, ifB_true, ifB_false, bin_leq, bin_lss, bin_geq, bin_gtr, bin_eql, bin_neq, un_not, ptrTo, nilck_ptr, Nat.zero_add, Nat.reduceAdd, List.getElem?_cons_zero, List.getElem?_cons_succ, List.drop_zero, List.drop_succ_cons, List.take_succ_cons, List.take_zero, Option.map_some, cells_agg, cells_int, cells_bool]
    refine hR _ _ _ ⟨?_, rfl, by omega⟩
    have : decide ((40 : Int) < (rl.length : Int)) = false := by simp; omega
    rw [this]
  rintro _ _ lo4 ⟨rfl, rfl, hlo4⟩
  simp only [un_cons, ifV_bool, ifB_false]
  refine onM_push fun m16 hn16 hg16 hk16 => ?_
  have he16 : Ext m1 m16 := ⟨by omega, hk16⟩
  have hE16 := he1.trans he16
  rw [(hl1.keepE he16).len slt_ruling, on2_some]
  have hU0 : UM m1.n m16.n [] m16 := ⟨⟨[], 0, hg16, IM.nil⟩, fun i p hp => by simp at hp, fun i j p q hp => by simp at hp, by omega⟩
  refine Lp.intro (γ := Nat) (fun i => rl.length - i) (fun i vs mm lo => ∃ (u1 u2 : Value) (L : List (Int × Nat × List Int)), vs = [u1, u2, .int .i64 i] ∧ i ≤ rl.length ∧ (∀ c, c < m1.n → mm.get c = m1.get c) ∧ m16.n ≤ mm.n ∧ m.n ≤ lo ∧ UM m1.n m16.n L mm ∧ (∀ p ∈ L, p.2.2 ≠ [] ∧ 0 ≤ p.1 ∧ p.1 < r.law.clauses.length) ∧ (∀ c u, usedP L c u ↔ ∃ x ∈ rl.take i, x.unit = u ∧ leansP r.law n k x c)) 0
    ⟨_, _, [], rfl, Nat.zero_le _, hk16, Nat.le_refl _, hlo4, hU0, fun p hp => (by cases hp), fun c u => by simp [usedP]⟩ ?_
  rintro i vs mm lo ⟨u1, u2, L, rfl, hi, hkm, hmm, hlo, hU, hLb, hused⟩
  have hE : Ext m mm := ⟨by omega, fun c hc => by rw [hkm c (by omega), hk1 c hc]⟩
  have hE1 : Ext m1 mm := ⟨by omega, hkm⟩
  have hlm := hl.keepE hE
  have hrm := hr.keepE hE
  have hgm := hE1.cells hg1
  simp only [un_cons, onS_some, on2_some, ifV_bool, ifB_true, ifB_false, bin_leq, bin_lss, bin_geq, bin_gtr, bin_eql, bin_neq, un_not, ptrTo, nilck_ptr, Nat.zero_add, Nat.reduceAdd, List.getElem?_cons_zero, List.getElem?_cons_succ, List.drop_zero, List.drop_succ_cons, List.take_succ_cons, List.take_zero, Option.map_some, cells_agg, cells_int, cells_bool]
  refine ifB_intro (fun hc => ?_) (fun hc => ?_)
  · have hlt : i < rl.length := by simpa using hc
    have hx : rl[i]? = some rl[i] := List.getElem?_eq_getElem hlt
    have hxf := hfit _ (List.getElem_mem hlt)
    have htk : ∀ (Q : Ruling → Prop), (∃ y ∈ rl.take (i + 1), Q y) ↔ (∃ y ∈ rl.take i, Q y) ∨ Q rl[i] := fun Q => by
      rw [List.take_add_one, hx]
      simp only [Option.toList_some, List.mem_append, List.mem_singleton]
      constructor
      · rintro ⟨y, hy | rfl, h⟩
        · exact .inl ⟨y, hy, h⟩
        · exact .inr h
      · rintro (⟨y, hy, h⟩ | h)
        · exact ⟨y, .inl hy, h⟩
        · exact ⟨_, .inr rfl, h⟩
    generalize rl[i] = x at hx hxf htk
    obtain ⟨hxu, hxk, hxl, hxp⟩ := hxf
    obtain ⟨p, cs, e1, e2, pv, rfl, hpv⟩ := hlm.index slt_ruling (k := .i64) hx
    rw [e1, onS_some, e2, onS_some, val_agg rfl]
    have hpo := hpv.one
    refine onM_push fun m32 hn32 hg32 hk32 => ?_
    refine on2_storeV ty_81 hg32 (by rfl) (by rfl) (by simp only [cells_agg, List.all_cons, List.all_nil, hpo]; rfl) fun m33 hn33 hg33 hk33 => ?_
    simp only [cells_agg] at hg33
    have he33 : Ext mm m33 := ⟨by omega, fun b hb => by rw [hk33 b (by omega), hk32 b hb]⟩
    have hgm33 := he33.cells hgm
    simp only [fieldAddr_42_0, fieldAddr_81_1, fieldAddr_81_2, load_3, cellAt_of hg33, onS_some, on2_some, ifV_bool, ifB_true, ifB_false, bin_leq, bin_lss, bin_geq, bin_gtr, bin_eql, bin_neq, un_not, ptrTo, nilck_ptr, Nat.zero_add, Nat.reduceAdd, List.getElem?_cons_zero, List.getElem?_cons_succ, List.drop_zero, List.drop_succ_cons, List.take_succ_cons, List.take_zero, Option.map_some, cells_agg, cells_int, cells_bool]
    rw [load_38, loadCells_of hgm33 (by simp), Option.map_some, onS_some, build_45_0_1_3_4 rfl rfl rfl rfl, onS_some]
    simp only [cells_int, List.cons_append, List.nil_append]
    obtain ⟨m43, hc43, he43⟩ := query_ok hX (m := m33) ⟨x.kind, x.unit, 0, n, k⟩ (by show -1000 ≤ x.kind ∧ x.kind ≤ 1000; omega)
    refine onC_of hc43 ?_
    refine ⟨Nat.le_refl _, ?_⟩
    have hg43 := he43.cells hg33
    simp only [fieldAddr_81_3, fieldAddr_49_2, load_47, cellAt_of hg43, onS_some, on2_some, ifV_bool, ifB_true, ifB_false, bin_leq, bin_lss, bin_geq, bin_gtr, bin_eql, bin_neq, un_not, ptrTo, nilck_ptr, Nat.zero_add, Nat.reduceAdd, List.getElem?_cons_zero, List.getElem?_cons_succ, List.drop_zero, List.drop_succ_cons, List.take_succ_cons, List.take_zero, Option.map_some, cells_agg, cells_int, cells_bool]
    have hE43 := (he33.trans he43)
    have hqo : (x.query n k).ok = true := by
      show (inB x.unit 0 99 && (inB (10 + x.kind) 0 19 && (inB n 0 799999 && inB k 0 799999))) = true
      simp only [inB, Bool.and_eq_true, decide_eq_true_eq]
      omega
    obtain ⟨vf, vc, cl, m49, hc49, hS49, hmem, hbd, hcl, he49⟩ := uses_ok hX (hrm.keepE hE43).law (x.query n k) hro'.1 hqo (hpv.keepE hE43) hxl hxp
    refine onC_of (show C X (.func 21) [Value.agg (List.take 3 (List.drop 0 [v1, v2, v3, v4, v5])).toArray, _, _] m43 m43.n _ m49 from hc49) ?_
    simp only [extr_tuple, onS_some, on2_some, ifV_bool, ifB_true, ifB_false, bin_leq, bin_lss, bin_geq, bin_gtr, bin_eql, bin_neq, un_not, ptrTo, nilck_ptr, Nat.zero_add, Nat.reduceAdd, List.getElem?_cons_zero, List.getElem?_cons_succ, List.drop_zero, List.drop_succ_cons, List.take_succ_cons, List.take_zero, Option.map_some, cells_agg, cells_int, cells_bool]
    refine ifB_intro (fun h => by simp at h) (fun _ => ?_)
    rw [hS49.len slt_int, on2_some]
    have hE49 := hE43.trans he49
    have hg49 := he49.cells hg43
    have hn33 := he33.n
    have hn43 := he43.n
    have hn49 := he49.n
    have hU49 := hU.keepE hE49
    have hlow : m.n ≤ mm.n ∧ m.n ≤ m33.n ∧ m.n ≤ m43.n := by omega
    refine Lp.intro (γ := Nat) (fun j => cl.length - j) (fun j vs mk lo => ∃ (L' : List (Int × Nat × List Int)), vs = [.int .i64 j] ∧ j ≤ cl.length ∧ (∀ c, c < m1.n → mk.get c = m1.get c) ∧ m49.n ≤ mk.n ∧ (∀ b c t g, m49.get b = .cells c t g → mk.get b = .cells c t g) ∧ m.n ≤ lo ∧ UM m1.n m16.n L' mk ∧ (∀ p ∈ L', p.2.2 ≠ [] ∧ 0 ≤ p.1 ∧ p.1 < r.law.clauses.length) ∧ (∀ c u, usedP L' c u ↔ usedP L c u ∨ (u = x.unit ∧ c ∈ cl.take j))) 0
      ⟨L, rfl, Nat.zero_le _, fun c hc => by rw [hE49.get c (by omega), hkm c hc], Nat.le_refl _, fun _ _ _ _ h => h, by simp only [Nat.le_min, hlo, hlow, and_self], hU49, hLb, fun c u => by simp⟩ ?_
    rintro j vs mk lo2 ⟨L', rfl, hj, hkk, hmk, hck, hlo2, hU', hLb', hused'⟩
    have hSk : Sl mk cl vc := hS49.keep fun b c t g hb _ => hck b c t g hb
    have hgk := hck _ _ _ _ hg49
    simp only [un_cons, onS_some, on2_some, ifV_bool, ifB_true, ifB_false, bin_leq, bin_lss, bin_geq, bin_gtr, bin_eql, bin_neq, un_not, ptrTo, nilck_ptr, Nat.zero_add, Nat.reduceAdd, List.getElem?_cons_zero, List.getElem?_cons_succ, List.drop_zero, List.drop_succ_cons, List.take_succ_cons, List.take_zero, Option.map_some, cells_agg, cells_int, cells_bool]
    refine ifB_intro (fun hc2 => ?_) (fun hc2 => ?_)
    · have hlt2 : j < cl.length := by simpa using hc2
      have hz : cl[j]? = some cl[j] := List.getElem?_eq_getElem hlt2
      have hzb := hbd _ (List.getElem_mem hlt2)
      generalize cl[j] = z at hz hzb
      obtain ⟨p, cs, e3, e4, rfl⟩ := hSk.index slt_int (k := .i64) hz
      rw [e3, onS_some, e4, onS_some, val_int]
      have htk2 : cl.take (j + 1) = cl.take j ++ [z] := by rw [List.take_add_one, hz]; rfl
      have hzr : IR z := by unfold IR; omega
      have hur : IR x.unit := by unfold IR; omega
      -- what is behind the step
      have hfin : ∀ (L2 : List (Int × Nat × List Int)) (i2 : Nat) (rr : Nat) (us us' : List Int) (m5 : M) (lo5 : Nat), L2[i2]? = some (z, rr, us) → (∀ c u, usedP L2 c u ↔ usedP L' c u) → (∀ (j' : Nat) (p : Int × Nat × List Int), j' ≠ i2 → L2[j']? = some p → p ∈ L') → (∀ w, w ∈ us' ↔ w ∈ us ∨ w = x.unit) → UM m1.n m16.n (L2.set i2 (z, rr, us')) m5 → (∀ c, c < m1.n → m5.get c = m1.get c) → m49.n ≤ m5.n → (∀ b c t g, m49.get b = .cells c t g → m5.get b = .cells c t g) → m.n ≤ lo5 →
          (onS (bin? Tab.env .add 3 (.int .i64 (j : Int)) (.int .i64 1)) fun v => ∃ g', cl.length - g' < cl.length - j ∧ ∃ (L' : List (Int × Nat × List Int)), [v] = [.int .i64 (g' : Int)] ∧ g' ≤ cl.length ∧ (∀ c, c < m1.n → m5.get c = m1.get c) ∧ m49.n ≤ m5.n ∧ (∀ b c t g, m49.get b = .cells c t g → m5.get b = .cells c t g) ∧ m.n ≤ lo5 ∧ UM m1.n m16.n L' m5 ∧ (∀ p ∈ L', p.2.2 ≠ [] ∧ 0 ≤ p.1 ∧ p.1 < r.law.clauses.length) ∧ (∀ c u, usedP L' c u ↔ usedP L c u ∨ (u = x.unit ∧ c ∈ cl.take g'))) := by
        intro L2 i2 rr us us' m5 lo5 a1 a2 a3 a4 a5 a6 a7 a8 a9
        simp only [bin_add, onS_some]
        refine ⟨j + 1, by omega, L2.set i2 (z, rr, us'), ?_, by omega, a6, a7, a8, a9, a5, fun p hp => ?_, fun c u => ?_⟩
        · rw [wrap64 (by omega) (by omega)]; rfl
        · obtain ⟨j', hj'⟩ := List.mem_iff_getElem?.1 hp
          by_cases hij : i2 = j'
          · subst hij
            rw [List.getElem?_set_self (List.getElem?_eq_some_iff.1 a1).1] at hj'
            cases hj'
            refine ⟨fun e => ?_, hzb⟩
            have := (a4 x.unit).2 (.inr rfl)
            have e : us' = [] := e
            rw [e] at this; cases this
          · rw [List.getElem?_set_ne hij] at hj'
            exact hLb' _ (a3 j' p (fun e => hij e.symm) hj')
        · rw [usedP_set a1 a4, a2, hused', htk2, List.mem_append, List.mem_singleton]
          constructor
          · rintro ((h | ⟨h, h'⟩) | ⟨rfl, rfl⟩)
            · exact .inl h
            · exact .inr ⟨h, .inl h'⟩
            · exact .inr ⟨rfl, .inr rfl⟩
          · rintro (h | ⟨h, h' | h'⟩)
            · exact .inl (.inl h)
            · exact .inl (.inr ⟨h, h'⟩)
            · exact .inr ⟨h', h⟩
      rcases hU'.look z with ⟨hnew, hlk⟩ | ⟨i2, rr, us, hi2, hlk⟩
      · rw [hlk, onS_some, bin_eqM', onS_some, ifV_bool, ifB_true]
        refine hU'.newMap (by omega) hnew hzr (P := fun _ m69 b70 => _) fun m68 m69 hn69 hU69 hk69 => ?_
        have hbmm := hU'.ltn
        have hi3 : (L' ++ [(z, mk.n, [])])[L'.length]? = some (z, mk.n, ([] : List Int)) := by rw [List.getElem?_append_right (Nat.le_refl _), Nat.sub_self]; rfl
        have hlk2 : lookup? Tab.env m69 142 (.map (some m1.n)) (.int .i64 z) false = some (.map (some mk.n)) := by
          rcases hU69.look z with ⟨hno, _⟩ | ⟨i3, r3, us3, h3, h4⟩
          · exact absurd (by simp) hno
          · rw [h4]
            by_cases hi : i3 < L'.length
            · rw [List.getElem?_append_left hi] at h3
              exact absurd (List.mem_map.2 ⟨_, List.mem_of_getElem? h3, rfl⟩) hnew
            · rw [List.getElem?_append_right (by omega)] at h3
              cases hk3 : i3 - L'.length with
              | zero => rw [hk3] at h3; simp at h3; rw [← h3.1]
              | succ q => rw [hk3] at h3; simp at h3
        have hcell : ∀ b c t g, mk.get b = .cells c t g → m69.get b = .cells c t g := fun b c t g hb => by
          rw [hk69 b (M.lt_of_get hb) fun e => ?_, hb]
          subst e
          obtain ⟨es0, c0, h0, _⟩ := hU'.out
          rw [hb] at h0; cases h0
        rw [hlk2, onS_some]
        simp only [fieldAddr_81_2, load_3, cellAt_of (hcell _ _ _ _ hgk), onS_some, on2_some, ifV_bool, ifB_true, ifB_false, bin_leq, bin_lss, bin_geq, bin_gtr, bin_eql, bin_neq, un_not, ptrTo, nilck_ptr, Nat.zero_add, Nat.reduceAdd, List.getElem?_cons_zero, List.getElem?_cons_succ, List.drop_zero, List.drop_succ_cons, List.take_succ_cons, List.take_zero, Option.map_some, cells_agg, cells_int, cells_bool]
        refine hU69.unit hi3 hur fun us' m80 hn80 hus hU80 hk80 hr0 => ?_
        have hne : ∀ b c t g, m69.get b = .cells c t g → m80.get b = .cells c t g := fun b c t g hb => by
          rw [hk80 b fun e => ?_, hb]
          subst e
          obtain ⟨_, es0, c0, h0, _⟩ := hU69.inn _ _ hi3
          have h0 : m69.get mk.n = .map es0 c0 := h0
          rw [hb] at h0; cases h0
        refine hfin (L' ++ [(z, mk.n, [])]) L'.length mk.n [] us' m80 _ hi3 (fun _ _ => usedP_snoc) (fun j' p hj' hp => ?_) hus hU80 (fun c hc => by rw [hk80 c (by omega), hk69 c (by omega) (by omega), hkk c hc]) (by omega) (fun b c t g hb => hne _ _ _ _ (hcell _ _ _ _ (hck _ _ _ _ hb))) (by omega)
        by_cases hi : j' < L'.length
        · rw [List.getElem?_append_left hi] at hp
          exact List.mem_of_getElem? hp
        · rw [List.getElem?_append_right (by omega)] at hp
          cases hk3 : j' - L'.length with
          | zero => omega
          | succ q => rw [hk3] at hp; simp at hp
      · rw [hlk, onS_some, bin_eqM, onS_some, ifV_bool, ifB_false, onS_some]
        simp only [fieldAddr_81_2, load_3, cellAt_of hgk, onS_some, on2_some, ifV_bool, ifB_true, ifB_false, bin_leq, bin_lss, bin_geq, bin_gtr, bin_eql, bin_neq, un_not, ptrTo, nilck_ptr, Nat.zero_add, Nat.reduceAdd, List.getElem?_cons_zero, List.getElem?_cons_succ, List.drop_zero, List.drop_succ_cons, List.take_succ_cons, List.take_zero, Option.map_some, cells_agg, cells_int, cells_bool]
        refine hU'.unit hi2 hur fun us' m80 hn80 hus hU80 hk80 hr0 => ?_
        have hne : ∀ b c t g, mk.get b = .cells c t g → m80.get b = .cells c t g := fun b c t g hb => by
          rw [hk80 b fun e => ?_, hb]
          subst e
          obtain ⟨_, es0, c0, h0, _⟩ := hU'.inn _ _ hi2
          have h0 : mk.get b = .map es0 c0 := h0
          rw [hb] at h0; cases h0
        exact hfin L' i2 rr us us' m80 _ hi2 (fun _ _ => Iff.rfl) (fun j' p _ hp => List.mem_of_getElem? hp) hus hU80 (fun c hc => by rw [hk80 c (by omega), hkk c hc]) (by omega) (fun b c t g hb => hne _ _ _ _ (hck _ _ _ _ hb)) (by omega)
    · have hge : j = cl.length := by
        have : ¬ ((j : Int) < (cl.length : Int)) := by simpa using hc2
        omega
      subst hge
      rw [List.take_length] at hused'
      simp only [bin_add, onS_some]
      refine ⟨i + 1, by omega, u1, u2, L', ?_, by omega, hkk, by omega, hlo2, hU', hLb', fun c u => ?_⟩
      · rw [wrap64 (by omega) (by omega)]; rfl
      · rw [hused', hused, htk]
        constructor
        · rintro (h | ⟨rfl, h⟩)
          · exact .inl h
          · exact .inr ⟨rfl, (hmem c).1 h⟩
        · rintro (h | ⟨rfl, h⟩)
          · exact .inl h
          · exact .inr ⟨rfl, (hmem c).2 h⟩
  · have hge : i = rl.length := by
      have : ¬ ((i : Int) < (rl.length : Int)) := by simpa using hc
      omega
    subst hge
    rw [List.take_length] at hused
    obtain ⟨es, clock, hes, hIM⟩ := hU.out
    have hkeys : (L.map fun p => (p.1, Value.map (some p.2.1))).map (·.1) = L.map (·.1) := by rw [List.map_map]; rfl
    have hnd : (L.map (·.1)).Nodup := by rw [← hkeys]; exact hIM.nodup
    have hLlen : L.length ≤ 20 := by
      have := nodup_len (N := r.law.clauses.length) hnd fun z hz => by
        obtain ⟨p, hp, rfl⟩ := List.mem_map.1 hz
        exact (hLb p hp).2
      rw [List.length_map] at this
      omega
    have huniq : ∀ p ∈ L, ∀ q ∈ L, p.1 = q.1 → p = q := by
      intro p hp q hq he
      obtain ⟨i, hi⟩ := List.mem_iff_getElem?.1 hp
      obtain ⟨j, hj⟩ := List.mem_iff_getElem?.1 hq
      have : i = j := by
        rcases Nat.lt_trichotomy i j with h | h | h
        · have h1 := List.pairwise_iff_getElem.1 hnd i j (by rw [List.length_map]; exact (List.getElem?_eq_some_iff.1 hi).1) (by rw [List.length_map]; exact (List.getElem?_eq_some_iff.1 hj).1) h
          rw [List.getElem_map, List.getElem_map, (List.getElem?_eq_some_iff.1 hi).2, (List.getElem?_eq_some_iff.1 hj).2] at h1
          exact absurd he h1
        · exact h
        · have h1 := List.pairwise_iff_getElem.1 hnd j i (by rw [List.length_map]; exact (List.getElem?_eq_some_iff.1 hj).1) (by rw [List.length_map]; exact (List.getElem?_eq_some_iff.1 hi).1) h
          rw [List.getElem_map, List.getElem_map, (List.getElem?_eq_some_iff.1 hi).2, (List.getElem?_eq_some_iff.1 hj).2] at h1
          exact absurd he.symm h1
      subst this
      rw [hi] at hj; cases hj; rfl
    obtain ⟨m85, hc85, he85, hg85, hn85⟩ := keys49_ok hX (m := mm) (b := m1.n)
    refine onC_of hc85 ?_
    obtain ⟨v87, m88, hc88, hS88, he88⟩ := sorted_ok h48 (.inl rfl) hg85 (Ext.map he85 hes) hIM (by rw [List.length_map]; omega)
    refine onC_of hc88 ?_
    rw [hkeys] at hS88
    have hks := isort_strict hnd
    have hkl : (isort (L.map (·.1))).length = L.length := by rw [isort_length, List.length_map]
    have hkm' : ∀ c, c ∈ isort (L.map (·.1)) ↔ c ∈ L.map (·.1) := fun c => (isort_perm _).mem_iff
    generalize isort (L.map (·.1)) = ks at hS88 hks hkl hkm'
    rw [hS88.len slt_int, on2_some]
    have hE88 := he85.trans he88
    have hU88 := hU.keepE hE88
    have h88n := hE88.n
    refine Lp.intro (γ := Nat) (fun j => ks.length - j) (fun j vs mk lo => ∃ (tl : List Trail) (vt : Value), vs = [vt, .int .i64 j] ∧ j ≤ ks.length ∧ Ext m88 mk ∧ m.n ≤ lo ∧ Ow m88.n mk tl vt ∧ tl.map (·.cl) = ks.take j ∧ (∀ t ∈ tl, t.us ≠ [] ∧ t.us.Nodup ∧ ∀ u, u ∈ t.us ↔ usedP L t.cl u)) 0
      ⟨[], _, rfl, Nat.zero_le _, .refl, by omega, .nil, rfl, fun t ht => by cases ht⟩ ?_
    rintro j vs mk lo2 ⟨tl, vt, rfl, hj, hEk, hlo2, hOt, htl, hprop⟩
    have hSk := hS88.keepE hEk
    have hUk := hU88.keepE hEk
    have hkn := hEk.n
    have htll : tl.length = j := by
      have := congrArg List.length htl
      rw [List.length_map, List.length_take] at this
      omega
    simp only [un_cons, onS_some, on2_some, ifV_bool, ifB_true, ifB_false, bin_leq, bin_lss, bin_geq, bin_gtr, bin_eql, bin_neq, un_not, ptrTo, nilck_ptr, Nat.zero_add, Nat.reduceAdd, List.getElem?_cons_zero, List.getElem?_cons_succ, List.drop_zero, List.drop_succ_cons, List.take_succ_cons, List.take_zero, Option.map_some, cells_agg, cells_int, cells_bool]
    refine ifB_intro (fun hc2 => ?_) (fun hc2 => ?_)
    · have hlt2 : j < ks.length := by simpa using hc2
      have hz : ks[j]? = some ks[j] := List.getElem?_eq_getElem hlt2
      have hzin := (hkm' _).1 (List.getElem_mem hlt2)
      have htk2 : ks.take (j + 1) = ks.take j ++ [ks[j]] := by rw [List.take_add_one, hz]; rfl
      generalize ks[j] = z at hz hzin htk2
      obtain ⟨p, cs, e3, e4, rfl⟩ := hSk.index slt_int (k := .i64) hz
      rw [e3, onS_some, e4, onS_some, val_int]
      rcases hUk.look z with ⟨hno, _⟩ | ⟨i2, rr, us, hi2, hlk⟩
      · exact absurd hzin hno
      rw [hlk, onS_some]
      obtain ⟨_, es2, cl2, hes2, hIM2⟩ := hUk.inn _ _ hi2
      have hes2 : mk.get rr = .map es2 cl2 := hes2
      have hIM2 : IM es2 cl2 (us.map fun u => (u, Value.bool true)) := hIM2
      have hkeys2 : (us.map fun u => (u, Value.bool true)).map (·.1) = us := by rw [List.map_map]; exact List.map_id _
      have hnd2 : us.Nodup := by have := hIM2.nodup; rwa [hkeys2] at this
      have hin2 := List.mem_of_getElem? hi2
      have hune := (hLb _ hin2).1
      have hus : ∀ u, u ∈ us ↔ usedP L z u := fun u => by
        constructor
        · intro h; exact ⟨_, hin2, rfl, h⟩
        · rintro ⟨q, hq, h1, h2⟩
          have := huniq q hq _ hin2 h1
          subst this
          exact h2
      have husl : us.length ≤ 3 := nodup_len (N := 3) hnd2 fun u hu => by
        obtain ⟨x, hx, rfl, _⟩ := (hused z u).1 ((hus u).1 hu)
        have := (hfit x hx).unit
        omega
      obtain ⟨m105, hc105, he105, hg105, hn105⟩ := keys50_ok hX (m := mk) (b := rr)
      refine onC_of hc105 ?_
      obtain ⟨v107, m108, hc108, hS108, he108⟩ := sorted_ok h48 (.inr rfl) hg105 (Ext.map he105 hes2) hIM2 (by rw [List.length_map]; omega)
      refine onC_of hc108 ?_
      rw [hkeys2] at hS108
      have hvo := hS108.one
      have hvc := hS108.cells
      rw [build_87_0_1 rfl (by rw [hvc]; rfl), onS_some]
      simp only [hvc, cells_int, List.cons_append, List.nil_append]
      rw [buildSlice_t, on2_some]
      have hrep : Rep.rep m108 (⟨z, isort us⟩ : Trail) [.int .i64 z, v107] := ⟨v107, rfl, hS108⟩
      have hE108 := he105.trans he108
      have h108n := hE108.n
      have hsl : Sl (m108.push (.cells [.int .i64 z, v107] 87 none)) [(⟨z, isort us⟩ : Trail)] (.slice (some ⟨m108.n, 0, none⟩) 1 1) := sl_one hrep
      have he112 : Ext m108 (m108.push (.cells [.int .i64 z, v107] 87 none)) := Ext.refl.push
      have hn112 : (m108.push (.cells [.int .i64 z, v107] 87 none)).n = m108.n + 1 := M.push_n
      generalize m108.push (.cells [.int .i64 z, v107] 87 none) = m112 at hsl he112 hn112 ⊢
      obtain ⟨v113, m114, e114, hOw, hFr, hlow, hn114⟩ := Ow.append apt_trail (by simp [Rep.tys, Rep.ty]) (hOt.keepE (hE108.trans he112)) hsl (by omega) (by simp; omega)
      rw [e114, on2_some]
      have hFn := hFr.n
      simp only [bin_add, onS_some]
      have hl3 : m.n ≤ mk.n ∧ m.n ≤ m105.n ∧ m.n ≤ m114.low := by omega
      refine ⟨j + 1, by omega, tl ++ [⟨z, isort us⟩], v113, ?_, by omega, ⟨by omega, fun c hc => by rw [hFr.get c hc, he112.get c (by omega), hE108.get c (by omega), hEk.get c hc]⟩, by simp only [Nat.le_min, hlo2, hl3, and_self], hOw, ?_, fun t ht => ?_⟩
      · rw [wrap64 (by omega) (by omega)]; rfl
      · rw [List.map_append, htl, htk2]; rfl
      · rcases List.mem_append.1 ht with ht | ht
        · exact hprop t ht
        · rw [List.mem_singleton.1 ht]
          refine ⟨fun e => hune ?_, (isort_perm us).nodup_iff.2 hnd2, fun u => ?_⟩
          · have := congrArg List.length e
            rw [isort_length] at this
            exact List.eq_nil_of_length_eq_zero this
          · exact (isort_perm us).mem_iff.trans (hus u)
    · have hge : j = ks.length := by
        have : ¬ ((j : Int) < (ks.length : Int)) := by simpa using hc2
        omega
      subst hge
      rw [List.take_length] at htl
      have htr : Traced r n k rl tl := by
        refine ⟨by rw [htl]; exact hks, fun t ht => ?_, fun x hx c hle => ?_⟩
        · obtain ⟨h1, h2, h3⟩ := hprop t ht
          exact ⟨h1, h2, fun u => (h3 u).trans (hused _ _)⟩
        · obtain ⟨p, hp, h1, _⟩ := (hused c x.unit).2 ⟨x, hx, rfl, hle⟩
          have : c ∈ tl.map (·.cl) := by rw [htl, hkm', ← h1]; exact List.mem_map.2 ⟨p, hp, rfl⟩
          obtain ⟨t, ht, h2⟩ := List.mem_map.1 this
          exact ⟨t, ht, h2⟩
      have hEall : Ext m mk := hE.trans (hE88.trans hEk)
      rcases hOt with ⟨rfl, rfl⟩ | hot
      · exact .inl ⟨rfl, by omega, _, [], rfl, trivial, .nil, htr, Nat.zero_le _, .refl⟩
      · obtain ⟨b0, cs0, h1, _⟩ := id hot
        exact .inr ⟨.inl (by rw [h1]; rfl), _, tl, rfl, by omega, (show Ow m88.n mk tl vt from .inr hot).sl, htr, by omega, hEall⟩
end Go.Proofs.YtbpmlholiohkpaaGreatDoor

/- Tables of truth values: a slice of arrays of three. -/
namespace Go.Proofs.YtbpmlholiohkpaaGreatDoor
open Go Go.D
variable {X : CallFn} {m : M}
/-- A table of N rows. -/
def BT (bt N : Nat) (T : Nat → Nat → Bool) (m : M) : Prop := ∃ cs, m.get bt = .cells cs 88 none ∧ cs.length = N * 3 ∧ ∀ c u, c < N → u < 3 → cs[c * 3 + u]? = some (.bool (T c u))
abbrev tabV (bt N : Nat) : Value := .slice (some ⟨bt, 0, none⟩) N N
theorem zeros3_len : ∀ N : Nat, (zeros [.bool false, .bool false, .bool false] N).length = N * 3
  | 0 => rfl
  | N + 1 => by
    unfold zeros
    rw [List.length_append, zeros3_len N]
    simp
    omega
theorem zeros3_get : ∀ (N c u : Nat), c < N → u < 3 → (zeros [.bool false, .bool false, .bool false] N)[c * 3 + u]? = some (.bool false)
  | 0, c, u, h, _ => by omega
  | N + 1, 0, u, h, hu => by
    unfold zeros
    match u, hu with
    | 0, _ => rfl
    | 1, _ => rfl
    | 2, _ => rfl
  | N + 1, c + 1, u, h, hu => by
    unfold zeros
    rw [List.getElem?_append_right (by simp; omega)]
    have : (c + 1) * 3 + u - [Value.bool false, .bool false, .bool false].length = c * 3 + u := by simp; omega
    rw [this]
    exact zeros3_get N c u (by omega) hu
theorem makeTable {N : Nat} (hN : N ≤ 20) : makeSlice? Tab.env m 85 (.int .i64 N) (.int .i64 N) = some (tabV m.n N, m.push (.cells (zeros [.bool false, .bool false, .bool false] N) 88 none)) := by
  have e1 : Tab.env.ty.get 85 = some Tab.t85 := by kernel_rfl
  have e2 : Tab.t85.d = .slice 88 := rfl
  have e3 : Tab.env.ty.get 88 = some Tab.t88 := by kernel_rfl
  have e4 : Tab.t88.zero = some (.agg #[.bool false, .bool false, .bool false]) := rfl
  have h : (0 : Int) ≤ (N : Int) ∧ (N : Int) ≤ N ∧ (N : Int) ≤ 1048576 ∧ Tab.t88.bytes ≤ 65536 ∧ (cells (Value.agg #[.bool false, .bool false, .bool false])).length = Tab.t88.size := ⟨by omega, by omega, by omega, by decide, rfl⟩
  simp only [makeSlice?, e1, e2, e3, e4]
  rw [if_pos h, Int.toNat_natCast]
  rfl
theorem BT.fresh {N : Nat} {m1 : M} {b : Nat} (h : m1.get b = .cells (zeros [.bool false, .bool false, .bool false] N) 88 none) : BT b N (fun _ _ => false) m1 := ⟨_, h, zeros3_len N, fun c u hc hu => zeros3_get N c u hc hu⟩
theorem tab_idx {bt N c : Nat} (hc : c < N) : indexAddr? Tab.env 85 (tabV bt N) (.int .i64 (c : Int)) = some (.pointer (some ⟨bt, c * 3, none⟩)) := by
  have e1 : Tab.env.ty.get 85 = some Tab.t85 := by kernel_rfl
  have e2 : Tab.t85.d = .slice 88 := rfl
  have e3 : Tab.t85.es = 3 := rfl
  have h : 0 ≤ (c : Int) ∧ (c : Int) < (N : Int) ∧ 0 < Tab.t85.es := ⟨by omega, by omega, by decide⟩
  simp only [indexAddr?, e1, e2]
  rw [if_pos h, addr_add rfl, e3, Nat.zero_add]
  rfl
theorem tab_len {bt N : Nat} : builtin? Tab.env m .len [85] [tabV bt N] = some (.int .i64 N, m) := by
  simp only [builtin?, len?, show Tab.env.ty.get 85 = some Tab.t85 by kernel_rfl, Tab.t85, Option.map_some]
theorem idx88 {b o u : Nat} (hu : u < 3) : indexAddr? Tab.env 88 (.pointer (some ⟨b, o, none⟩)) (.int .i64 (u : Int)) = some (.pointer (some ⟨b, o + u, none⟩)) := by
  match u, hu with
  | 0, _ => rw [show indexAddr? Tab.env 88 (.pointer (some ⟨b, o, none⟩)) (.int .i64 ((0 : Nat) : Int)) = some (.pointer (some (Addr.add ⟨b, o, none⟩ 0))) by kernel_rfl, addr_add rfl]
  | 1, _ => rw [show indexAddr? Tab.env 88 (.pointer (some ⟨b, o, none⟩)) (.int .i64 ((1 : Nat) : Int)) = some (.pointer (some (Addr.add ⟨b, o, none⟩ 1))) by kernel_rfl, addr_add rfl]
  | 2, _ => rw [show indexAddr? Tab.env 88 (.pointer (some ⟨b, o, none⟩)) (.int .i64 ((2 : Nat) : Int)) = some (.pointer (some (Addr.add ⟨b, o, none⟩ 2))) by kernel_rfl, addr_add rfl]
section
variable {bt N : Nat} {T : Nat → Nat → Bool}
theorem BT.keep {m' : M} (h : BT bt N T m) (hk : m'.get bt = m.get bt) : BT bt N T m' := by
  obtain ⟨cs, h1, h2⟩ := h
  exact ⟨cs, by rw [hk, h1], h2⟩
theorem BT.lt (h : BT bt N T m) : bt < m.n := by
  obtain ⟨cs, h1, _⟩ := h
  exact M.lt_of_get h1
theorem BT.keepE {m' : M} (h : BT bt N T m) (he : Ext m m') : BT bt N T m' := h.keep (he.get _ h.lt)
theorem BT.cell (h : BT bt N T m) {c u : Nat} (hc : c < N) (hu : u < 3) : D.cellAt m ⟨bt, c * 3 + u, none⟩ = some (.bool (T c u)) := by
  obtain ⟨cs, h1, h2, h3⟩ := h
  rw [cellAt_of h1, h3 c u hc hu]
theorem BT.row (h : BT bt N T m) {c : Nat} (hc : c < N) : load? Tab.env m 88 (.pointer (some ⟨bt, c * 3, none⟩)) = some (.agg #[.bool (T c 0), .bool (T c 1), .bool (T c 2)]) := by
  obtain ⟨cs, h1, h2, h3⟩ := h
  rw [load_88, loadCells_of h1 (by omega), Option.map_some]
  have e : (cs.drop (c * 3)).take 3 = [.bool (T c 0), .bool (T c 1), .bool (T c 2)] := by
    apply List.ext_getElem?
    intro i
    by_cases hi : i < 3
    · rw [List.getElem?_take_of_lt hi, List.getElem?_drop, h3 c i hc hi]
      match i, hi with
      | 0, _ => rfl
      | 1, _ => rfl
      | 2, _ => rfl
    · rw [List.getElem?_eq_none (by rw [List.length_take]; omega), List.getElem?_eq_none (by simp; omega)]
  rw [e]
theorem BT.mark (h : BT bt N T m) {c u : Nat} (hc : c < N) (hu : u < 3) {P : M → Nat → Prop} (hP : ∀ m1, m1.n = m.n → BT bt N (fun a b => (decide (a = c) && decide (b = u)) || T a b) m1 → (∀ x, x ≠ bt → m1.get x = m.get x) → P m1 bt) :
    on2 (store? Tab.env m 4 (.pointer (some ⟨bt, c * 3 + u, none⟩)) (.bool true)) P := by
  obtain ⟨cs, h1, h2, h3⟩ := h
  refine on2_store ty_4 h1 (by rfl) (by simp only [cells_bool, List.length_cons, List.length_nil]; omega) rfl fun m1 hn hg hk => ?_
  have hset : cs.take (c * 3 + u) ++ (cells (Value.bool true) ++ cs.drop (c * 3 + u + (cells (Value.bool true)).length)) = cs.set (c * 3 + u) (.bool true) := by
    rw [List.set_eq_take_append_cons_drop, if_pos (by omega)]; rfl
  rw [hset] at hg
  refine hP m1 hn ⟨_, hg, by rw [List.length_set]; exact h2, fun a b ha hb => ?_⟩ hk
  by_cases he : a = c ∧ b = u
  · obtain ⟨rfl, rfl⟩ := he
    rw [List.getElem?_set_self (by omega)]
    simp
  · rw [List.getElem?_set_ne (by omega), h3 a b ha hb]
    have : (decide (a = c) && decide (b = u)) = false := by
      rw [Bool.and_eq_false_iff, decide_eq_false_iff_not, decide_eq_false_iff_not]
      by_cases h1 : a = c
      · exact .inr fun h2 => he ⟨h1, h2⟩
      · exact .inl h1
    show some (Value.bool (T a b)) = some (.bool ((decide (a = c) && decide (b = u)) || T a b))
    rw [this, Bool.false_or]
end
theorem bin_neq88 {a b c a' b' c' : Bool} : bin? Tab.env .neq 88 (.agg #[.bool a, .bool b, .bool c]) (.agg #[.bool a', .bool b', .bool c']) = some (.bool (!((a == a') && ((b == b') && ((c == c') && true))))) := by
  simp only [bin?, eq?, show Tab.env.ty.get 88 = some Tab.t88 by kernel_rfl, Tab.t88, eqCells, eqK, Option.map_some]
theorem bin_eql88 {a b c a' b' c' : Bool} : bin? Tab.env .eql 88 (.agg #[.bool a, .bool b, .bool c]) (.agg #[.bool a', .bool b', .bool c']) = some (.bool ((a == a') && ((b == b') && ((c == c') && true)))) := by
  simp only [bin?, eq?, show Tab.env.ty.get 88 = some Tab.t88 by kernel_rfl, Tab.t88, eqCells, eqK, Option.map_some]
theorem build_88_ : build? Tab.env 88 [] = some (.agg #[.bool false, .bool false, .bool false]) := by kernel_rfl
/-- A law with further repeals. -/
def Law.few (l : Law) (rs : List Repeal) : Law := ⟨l.clauses, l.repeals ++ rs, l.facts⟩
theorem few_rules {l : Law} {rs : List Repeal} {q : Query} {i : Nat} : rulesB (l.few rs) q i = (rulesB l q i && !(rs.any (strikes q i))) := by
  unfold rulesB Law.few
  dsimp only
  cases l.clauses[i]? with
  | none => rfl
  | some x =>
    dsimp only
    rw [List.any_append]
    cases decide (x.pub ≤ q.known) <;> cases hasB x.sp q.day <;> cases l.repeals.any (strikes q i) <;> cases rs.any (strikes q i) <;> rfl
theorem few_sub {l : Law} {rs : List Repeal} {q : Query} {z : Int} (h : z ∈ (l.few rs).rules' q) : z ∈ l.rules' q := by
  obtain ⟨k, h1, h2, rfl⟩ := mem_sel.1 h
  rw [few_rules, Bool.and_eq_true] at h2
  exact mem_sel.2 ⟨k, h1, h2.1, rfl⟩
theorem few_mem {l : Law} {rs : List Repeal} {q : Query} {z : Int} (h : z ∈ l.rules' q) (hr : ∀ r ∈ rs, r.cl ≠ z) : z ∈ (l.few rs).rules' q := by
  obtain ⟨k, h1, h2, rfl⟩ := mem_sel.1 h
  refine mem_sel.2 ⟨k, h1, ?_, rfl⟩
  rw [few_rules, h2, Bool.true_and, Bool.not_eq_true', List.any_eq_false]
  intro r hrr hs
  simp only [strikes, Bool.and_eq_true, decide_eq_true_eq] at hs
  exact hr r hrr hs.1
theorem few_right {l : Law} {rs : List Repeal} {q : Query} {lst : List Finding} {x : Finding} (h : rightS l q x lst = true) (hr : ∀ z, usesB l q x z = true → ∀ r ∈ rs, r.cl ≠ z) : rightS (l.few rs) q x lst = true := by
  have hcs := right_cases h
  obtain ⟨says, holds, fact, clause⟩ := x
  cases holds with
  | true =>
    by_cases hc : clause = -1
    · subst hc
      rw [rightS_fact] at h ⊢
      exact h
    · rw [rightS_clause hc] at h ⊢
      simp only [Bool.and_eq_true, decide_eq_true_eq] at h ⊢
      obtain ⟨h1, h2, h3⟩ := h
      refine ⟨h1, List.contains_iff_mem.2 (few_mem (List.contains_iff_mem.1 h2) (hr clause ?_)), h3⟩
      obtain ⟨k, c, rfl, _⟩ := mem_rules' (List.contains_iff_mem.1 h2)
      unfold usesB
      dsimp only
      rw [if_neg (by omega), if_pos (by omega)]
      simp
  | false =>
    rw [rightS_none] at h ⊢
    simp only [Bool.and_eq_true, decide_eq_true_eq, Bool.not_eq_true'] at h ⊢
    refine ⟨h.1, h.2.1, ?_⟩
    rw [List.any_eq_false] at *
    have h2 := h.2.2
    rw [List.any_eq_false] at h2
    exact fun z hz => h2 z (few_sub hz)
theorem few_proves {l : Law} {rs : List Repeal} {q : Query} {n : Int} {b : Bool} {lst : List Finding} (h : provesS l q n b lst = true) (hr : ∀ x ∈ lst, ∀ z, usesB l q x z = true → ∀ r ∈ rs, r.cl ≠ z) : provesS (l.few rs) q n b lst = true := by
  have hat := proves_at h
  unfold provesS at h ⊢
  rw [Bool.and_eq_true] at h ⊢
  refine ⟨?_, h.2⟩
  rw [List.all_eq_true]
  intro i hi
  have hi := List.mem_range.1 hi
  have hx : lst[i]? = some lst[i] := List.getElem?_eq_getElem hi
  obtain ⟨h1, h2⟩ := hat i _ hx
  unfold okAt
  rw [hx]
  dsimp only
  rw [few_right h2 (hr _ (List.getElem_mem hi)), Bool.and_true]
  simp only [inB, Bool.and_eq_true, decide_eq_true_eq]
  exact h1
/-- A ruling leans on clauses that there are. -/
theorem leans_bd {r : Registry} {n k : Int} {x : Ruling} (hx : x.Fit r n k) {c : Int} (h : leansP r.law n k x c) : 0 ≤ c ∧ c < r.law.clauses.length := by
  obtain ⟨y, hy, hu⟩ := h
  obtain ⟨i, hi⟩ := List.mem_iff_getElem?.1 hy
  have hr := (proves_at hx.pr i y hi).2
  unfold usesB at hu
  by_cases h1 : 0 ≤ y.fact
  · rw [if_pos h1] at hu; cases hu
  · rw [if_neg h1] at hu
    by_cases h2 : 0 ≤ y.clause
    · rw [if_pos h2, decide_eq_true_eq] at hu
      subst hu
      rcases right_cases hr with ⟨k', f, e, _⟩ | ⟨_, k', c', e, hc, _⟩ | ⟨_, e⟩
      · omega
      · have := (List.getElem?_eq_some_iff.1 hc).1
        omega
      · omega
    · rw [if_neg h2, Bool.and_eq_true] at hu
      obtain ⟨k', c', e, hc⟩ := mem_rules' (List.contains_iff_mem.1 hu.1)
      have := (List.getElem?_eq_some_iff.1 hc).1
      omega
end Go.Proofs.YtbpmlholiohkpaaGreatDoor
