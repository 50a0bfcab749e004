/- The law PermitAgain. -/
import Derived.Test.YtbpmlholiohkpaaGreatDoorC9
import Derived.Test.YtbpmlholiohkpaaGreatDoorFk4
/- The law PermitAgain. -/
namespace Go.Proofs.YtbpmlholiohkpaaGreatDoor
open Go Go.D
variable {X : CallFn} {m : M}
/-- Papers that are known later. -/
def laterC (k : Int) (x : Clause) : Clause := { x with pub := k + 1 + x.pub }
def laterF (k : Int) (x : Fact) : Fact := { x with kn := lateS k x.kn }
def laterD (k : Int) (x : Deed) : Deed := { x with kn := lateS k x.kn }
def laterG (k : Int) (x : Grant) : Grant := { x with kn := lateS k x.kn }
theorem has_late {k : Int} {s : Spell} (h : 0 ≤ s.f) : hasB (lateS k s) k = false := by
  unfold hasB lateS
  have : decide (k + 1 + s.f ≤ k) = false := by simp; omega
  rw [this, Bool.false_and]
/-- The registry with the later papers of another one. -/
def Registry.later (r s : Registry) (k : Int) : Registry := ⟨⟨r.law.clauses ++ s.law.clauses.map (laterC k), r.law.repeals, r.law.facts ++ s.law.facts.map (laterF k)⟩, r.deeds ++ s.deeds.map (laterD k), r.grants ++ s.grants.map (laterG k)⟩
theorem spell_late {k : Int} {s : Spell} (hk : 0 ≤ k ∧ k ≤ 99) (h : s.ok = true) (ht : s.t ≤ 100) : (lateS k s).ok = true := by
  refine (show spB (k + 1 + s.f) (k + 1 + s.t) = true from ?_)
  simp only [Spell.ok, spB, Bool.and_eq_true, decide_eq_true_eq] at h ⊢
  omega
theorem later_ok {r s : Registry} (hr : r.Good) (hs : s.Good) {k : Int} (hk : 0 ≤ k ∧ k ≤ 99) : (r.later s k).ok = true := by
  have a1 := hr.nc
  have a2 := hr.nr
  have a3 := hr.nf
  have a4 := hr.nd
  have a5 := hr.ng
  have b1 := hs.nc
  have b3 := hs.nf
  have b4 := hs.nd
  have b5 := hs.ng
  have c1 : ∀ x ∈ r.law.clauses ++ s.law.clauses.map (laterC k), x.ok = true := fun x hx => by
    rcases List.mem_append.1 hx with hx | hx
    · exact (hr.cs x hx).ok
    · obtain ⟨y, hy, rfl⟩ := List.mem_map.1 hx
      have h1 := (hs.cs y hy).ok
      have h2 := (hs.cs y hy).pub
      simp only [Clause.ok, Bool.and_eq_true] at h1 ⊢
      have h3 := h1.1
      simp only [inB, Bool.and_eq_true, decide_eq_true_eq] at h3
      exact ⟨show inB (k + 1 + y.pub) 0 799999 = true by simp only [inB, Bool.and_eq_true, decide_eq_true_eq]; omega, h1.2⟩
  have c2 : ∀ x ∈ r.law.repeals, x.ok (r.law.clauses ++ s.law.clauses.map (laterC k)).length = true := fun x hx => by
    have h1 := (hr.rs x hx).ok
    simp only [Repeal.ok, Bool.and_eq_true, inB, decide_eq_true_eq, List.length_append, List.length_map] at h1 ⊢
    omega
  have c3 : ∀ x ∈ r.law.facts ++ s.law.facts.map (laterF k), x.ok = true := fun x hx => by
    rcases List.mem_append.1 hx with hx | hx
    · exact (hr.fs x hx).ok
    · obtain ⟨y, hy, rfl⟩ := List.mem_map.1 hx
      have h1 := (hs.fs y hy).ok
      simp only [Fact.ok, Bool.and_eq_true] at h1 ⊢
      exact ⟨h1.1, h1.2.1, h1.2.2.1, spell_late hk h1.2.2.2 (hs.fs y hy).k⟩
  have c4 : ∀ x ∈ r.deeds ++ s.deeds.map (laterD k), x.ok = true := fun x hx => by
    rcases List.mem_append.1 hx with hx | hx
    · exact (hr.ds x hx).ok
    · obtain ⟨y, hy, rfl⟩ := List.mem_map.1 hx
      have h1 := (hs.ds y hy).ok
      simp only [Deed.ok, paperB, Bool.and_eq_true] at h1 ⊢
      exact ⟨h1.1, h1.2.1, h1.2.2.1, spell_late hk h1.2.2.2 (hs.ds y hy).k⟩
  have c5 : ∀ x ∈ r.grants ++ s.grants.map (laterG k), x.ok = true := fun x hx => by
    rcases List.mem_append.1 hx with hx | hx
    · exact (hr.gs x hx).ok
    · obtain ⟨y, hy, rfl⟩ := List.mem_map.1 hx
      have h1 := (hs.gs y hy).ok
      simp only [Grant.ok, paperB, Bool.and_eq_true] at h1 ⊢
      exact ⟨⟨h1.1.1, h1.1.2.1, h1.1.2.2.1, spell_late hk h1.1.2.2.2 (hs.gs y hy).k⟩, h1.2⟩
  dsimp only [Registry.ok, Law.ok, Registry.later]
  rw [any_not_false c1, any_not_false c2, any_not_false c3, any_not_false c4, any_not_false c5]
  simp only [Bool.not_false, Bool.and_self, Bool.and_true, Bool.and_eq_true, decide_eq_true_eq, List.length_append, List.length_map]
  omega
theorem later_sized {r s : Registry} (hr : r.Good) (hs : s.Good) {k : Int} : (r.later s k).Sized := by
  have a1 := hr.nc
  have a2 := hr.nr
  have a3 := hr.nf
  have a4 := hr.nd
  have a5 := hr.ng
  have b1 := hs.nc
  have b3 := hs.nf
  have b4 := hs.nd
  have b5 := hs.ng
  refine ⟨?_, ?_, ?_, ?_, ?_⟩ <;> simp only [Registry.later, List.length_append, List.length_map] <;> omega
theorem later_eq {r s : Registry} (hs : s.Good) (w : Wish) : SameL r.law (r.later s w.known).law w.query ∧ neededS (r.later s w.known) w = neededS r w ∧ deedS (r.later s w.known) w = deedS r w ∧ grantS (r.later s w.known) w = grantS r w := by
  refine later_same (fun x hx => ?_) (fun x hx => ?_) (fun x hx => ?_) (fun x hx => ?_)
  · obtain ⟨y, hy, rfl⟩ := List.mem_map.1 hx
    have h1 := (hs.cs y hy).ok
    simp only [Clause.ok, Bool.and_eq_true, inB, decide_eq_true_eq] at h1
    show w.known < w.known + 1 + y.pub
    omega
  · obtain ⟨y, hy, rfl⟩ := List.mem_map.1 hx
    have h1 := (hs.fs y hy).ok
    simp only [Fact.ok, Spell.ok, spB, Bool.and_eq_true, decide_eq_true_eq] at h1
    exact has_late h1.2.2.2.1
  · obtain ⟨y, hy, rfl⟩ := List.mem_map.1 hx
    have h1 := (hs.ds y hy).ok
    simp only [Deed.ok, paperB, Spell.ok, spB, Bool.and_eq_true, decide_eq_true_eq] at h1
    exact has_late h1.2.2.2.1
  · obtain ⟨y, hy, rfl⟩ := List.mem_map.1 hx
    have h1 := (hs.gs y hy).ok
    simp only [Grant.ok, paperB, Spell.ok, spB, Bool.and_eq_true, decide_eq_true_eq] at h1
    exact has_late h1.1.2.2.2.1
theorem good_bounds {s : Registry} (hs : s.Good) : (∀ x ∈ s.law.clauses, 0 ≤ x.pub ∧ x.pub ≤ 99) ∧ (∀ x ∈ s.law.facts, (0 ≤ x.kn.f ∧ x.kn.f ≤ 1000000) ∧ (0 ≤ x.kn.t ∧ x.kn.t ≤ 1000000)) ∧
    (∀ x ∈ s.deeds, (0 ≤ x.kn.f ∧ x.kn.f ≤ 1000000) ∧ (0 ≤ x.kn.t ∧ x.kn.t ≤ 1000000)) ∧ (∀ x ∈ s.grants, (0 ≤ x.kn.f ∧ x.kn.f ≤ 1000000) ∧ (0 ≤ x.kn.t ∧ x.kn.t ≤ 1000000)) := by
  refine ⟨fun x hx => ?_, fun x hx => ?_, fun x hx => ?_, fun x hx => ?_⟩
  · have h1 := (hs.cs x hx).ok
    have h2 := (hs.cs x hx).pub
    simp only [Clause.ok, Bool.and_eq_true, inB, decide_eq_true_eq] at h1
    omega
  · have h1 := (hs.fs x hx).ok
    have h2 := (hs.fs x hx).k
    simp only [Fact.ok, Spell.ok, spB, Bool.and_eq_true, decide_eq_true_eq] at h1
    omega
  · have h1 := (hs.ds x hx).ok
    have h2 := (hs.ds x hx).k
    simp only [Deed.ok, paperB, Spell.ok, spB, Bool.and_eq_true, decide_eq_true_eq] at h1
    omega
  · have h1 := (hs.gs x hx).ok
    have h2 := (hs.gs x hx).k
    simp only [Grant.ok, paperB, Spell.ok, spB, Bool.and_eq_true, decide_eq_true_eq] at h1
    omega
theorem map_take_succ {α β : Type} {f : α → β} {l : List α} {i : Nat} {x : α} (hx : l[i]? = some x) : (l.take (i + 1)).map f = (l.take i).map f ++ [f x] := by
  rw [List.take_add_one, hx, List.map_append]; rfl
theorem permitAgain_ok (hX : NoX X) (h8 : ∀ m : M, 0 < m.n → X (.func 8) [] m = some (.bool true, m)) (hm : 0 < m.n) {x y : Value} (n1 : NumV m x) (n3 : NumV m y) {a b c d e : Int} (r0 : InR a) (r1 : InR b) (r2 : InR c) (r3 : InR d) (r4 : InR e) :
    C X (.func 4) [x, .agg #[.int .i64 a, .int .i64 b, .int .i64 c, .int .i64 d, .int .i64 e], y] m m.n (.bool true) m := by
  obtain ⟨s1, s2, s3, s4, s5, s6, rfl⟩ := n1.form
  obtain ⟨t1, t2, t3, t4, t5, t6, rfl⟩ := n3.form
  refine Cl.flatJ (hX.no 4 rfl) fn_4 rfl rfl ?_
  rw [FJ4]
  refine onM_push fun m1 hn1 hg1 hk1 => ?_
  refine onM_push fun m2 hn2 hg2 hk2 => ?_
  refine onM_push fun m3 hn3 hg3 hk3 => ?_
  have hb1 := (hk3 m.n (by omega)).trans ((hk2 m.n (by omega)).trans hg1)
  have hb2 := (hk3 m1.n (by omega)).trans hg2
  have hb3 := hg3
  simp only [cells_agg] at hb1 hb2 hb3
  have he3 : Ext m m3 := ⟨by omega, fun b hb => by rw [hk3 b (by omega), hk2 b (by omega), hk1 b hb]⟩
  clear hg1 hg2 hg3 hk1 hk2 hk3
  refine onC_of (Cl.known (fun l => h8 (m3.wl l) (by show 0 < m3.n; omega)) (Nat.le_refl _) ⟨_, rfl⟩) ?_
  simp only [ptrTo, onS_some, on2_some, onFn_func, ifV_bool, ifB_true, ifB_false, bin_leq, bin_lss, bin_geq, bin_gtr, bin_eql, bin_neq, un_not, ptrTo, nilck_ptr, nilck_func, Nat.zero_add, Nat.reduceAdd, List.getElem?_cons_zero, List.getElem?_cons_succ, List.drop_zero, List.drop_succ_cons, List.take_succ_cons, List.take_zero, Option.map_some, cells_agg, cells_int, cells_bool, cells_slice, cells_ptr, cells_map, cells_func]
  rw [load_29, loadCells_of hb1 (by simp)]
  simp only [Option.map_some, onS_some]
  obtain ⟨r, v1, v2, v3, v4, v5, m10, hc10, hr10, hgd, he10⟩ := (n1.keepE he3).made hX
  refine onC_of (show C X (.func 9) [Value.agg (List.take 6 (List.drop 0 [s1, s2, s3, s4, s5, s6])).toArray] m3 m3.n _ m10 from hc10) ?_
  obtain ⟨o1, o2, o3, o4, o5⟩ := hr10.ones
  refine onM_push fun m12 hn12 hg12 hk12 => ?_
  refine on2_storeV ty_42 hg12 (by rfl) (by rfl) (by simp [cells_agg, o1, o2, o3, o4, o5]) fun m13 hn13 hg13 hk13 => ?_
  simp only [cells_agg] at hg13
  have he13 : Ext m10 m13 := ⟨by omega, fun b hb => by rw [hk13 b (by omega), hk12 b hb]⟩
  have hr13 := hr10.keepE he13
  have hb2' := (he10.trans he13).cells hb2
  have hn10 := he10.n
  rw [load_42, loadCells_of hg13 (by simp), Option.map_some, onS_some, load_30, loadCells_of hb2' (by simp), Option.map_some, onS_some]
  refine onC_of (show C X (.func 10) [Value.agg (List.take 5 (List.drop 0 [v1, v2, v3, v4, v5])).toArray, Value.agg (List.take 5 (List.drop 0 [Value.int .i64 a, .int .i64 b, .int .i64 c, .int .i64 d, .int .i64 e])).toArray] m13 m13.n _ m13 from wish_ok hX hr13 hgd.cs (by have := hgd.nc; omega) r0 r1 r2 r3 r4) ?_
  have hwo := wishS_ok hgd.cs a b c d e
  have hwk : 0 ≤ (wishS r.law.clauses a b c d e).known ∧ (wishS r.law.clauses a b c d e).known ≤ 99 := by
    have p := pickS_bounds (c := e) (n := 100) (by omega)
    show 0 ≤ pickS e 100 ∧ pickS e 100 ≤ 99
    omega
  generalize wishS r.law.clauses a b c d e = w at hwo hwk
  refine onM_push fun m20 hn20 hg20 hk20 => ?_
  refine on2_storeV ty_45 hg20 (by rfl) (by rfl) rfl fun m21 hn21 hg21 hk21 => ?_
  simp only [cells_agg] at hg21
  have he21 : Ext m13 m21 := ⟨by omega, fun b hb => by rw [hk21 b (by omega), hk20 b hb]⟩
  have hr21 := hr13.keepE he21
  have hE21 : Ext m3 m21 := (he10.trans he13).trans he21
  rw [load_29, loadCells_of (hE21.cells hb3) (by simp), Option.map_some, onS_some]
  obtain ⟨s, u1, u2, u3, u4, u5, m25, hc25, hr25, hgs, he25⟩ := (n3.keepE (he3.trans hE21)).made hX
  refine onC_of (show C X (.func 9) [Value.agg (List.take 6 (List.drop 0 [t1, t2, t3, t4, t5, t6])).toArray] m21 m21.n _ m25 from hc25) ?_
  obtain ⟨p1, p2, p3, p4, p5⟩ := hr25.ones
  have hn25 := he25.n
  refine onM_push fun m27 hn27 hg27 hk27 => ?_
  refine on2_storeV ty_42 hg27 (by rfl) (by rfl) (by simp [cells_agg, p1, p2, p3, p4, p5]) fun m28 hn28 hg28 hk28 => ?_
  simp only [cells_agg] at hg28
  have he28 : Ext m25 m28 := ⟨by omega, fun b hb => by rw [hk28 b (by omega), hk27 b hb]⟩
  have hE28 := he25.trans he28
  have hbr := (he21.trans hE28).cells hg13
  have hbw := hE28.cells hg21
  have hr28 := hr21.keepE hE28
  have hs28 := hr25.keepE he28
  have hnm : m.n ≤ m3.n ∧ m.n ≤ m10.n ∧ m.n ≤ m13.n ∧ m.n ≤ m21.n ∧ m.n ≤ m25.n ∧ m.n ≤ m28.n := by have := hE21.n; have := hE28.n; omega
  simp only [fieldAddr_42_0, Nat.add_zero, onS_some]
  rw [load_38, loadCells_of hbr (by simp), Option.map_some, onS_some]
  obtain ⟨w1, w2, w3, m33, hc33, hL33, hOc33, hOf33, he33⟩ := copy_ok hX hr28.law hgd.lok
  refine onC_of (show C X (.func 15) [Value.agg (List.take 3 (List.drop 0 [v1, v2, v3, v4, v5])).toArray] m28 m28.n _ m33 from hc33) ?_
  rw [build_42_0 rfl, onS_some]
  have q1 := hL33.clauses.one
  have q2 := hL33.repeals.one
  have q3 := hL33.facts.one
  refine onM_push fun m36 hn36 hg36 hk36 => ?_
  refine on2_storeV ty_42 hg36 (by rfl) (by rfl) (by simp [cells_agg, q1, q2, q3]; rfl) fun m37 hn37 hg37 hk37 => ?_
  simp only [cells_agg, List.cons_append, List.nil_append] at hg37
  have he37 : Ext m33 m37 := ⟨by omega, fun b hb => by rw [hk37 b (by omega), hk36 b hb]⟩
  have h33n := he33.n
  have hE37 := he33.trans he37
  have hO37 : OwR m28.n m33.n ⟨r.law, [], []⟩ w1 w2 w3 (.slice none 0 0) (.slice none 0 0) m37 := ⟨hg37, .inl (hOc33.keepE he37), hL33.repeals.keepE he37, hOf33.keepE he37, .inl .nil, .inl .nil⟩
  have hbr37 := hE37.cells hbr
  simp only [fieldAddr_42_1, fieldAddr_42_2, load_39, load_40, cellAt_of hg37, cellAt_of hbr37, onS_some, on2_some, onFn_func, ifV_bool, ifB_true, ifB_false, bin_leq, bin_lss, bin_geq, bin_gtr, bin_eql, bin_neq, un_not, ptrTo, nilck_ptr, nilck_func, Nat.zero_add, Nat.reduceAdd, List.getElem?_cons_zero, List.getElem?_cons_succ, List.drop_zero, List.drop_succ_cons, List.take_succ_cons, List.take_zero, Option.map_some, cells_agg, cells_int, cells_bool, cells_slice, cells_ptr, cells_map, cells_func]
  have a4 := hgd.nd
  have a5 := hgd.ng
  refine hO37.deed (hr28.deeds.keepE hE37) (by omega) (by simp; omega) (by omega) fun v43 m44 m46 hn46 hn44 hk46 hO46 hl44 => ?_
  have hE46 : Ext m28 m46 := ⟨by omega, fun c hc => by rw [hk46 c hc, hE37.get c hc]⟩
  have hbr46 := hE46.cells hbr
  have hg46 := hO46.box
  simp only [load_40, cellAt_of hg46, cellAt_of hbr46, onS_some, on2_some, onFn_func, ifV_bool, ifB_true, ifB_false, bin_leq, bin_lss, bin_geq, bin_gtr, bin_eql, bin_neq, un_not, ptrTo, nilck_ptr, nilck_func, Nat.zero_add, Nat.reduceAdd, List.getElem?_cons_zero, List.getElem?_cons_succ, List.drop_zero, List.drop_succ_cons, List.take_succ_cons, List.take_zero, Option.map_some, cells_agg, cells_int, cells_bool, cells_slice, cells_ptr, cells_map, cells_func]
  refine hO46.grant (hr28.grants.keepE hE46) (by omega) (by simp; omega) (by omega) fun v52 m53 m55 hn55 hn53 hk55 hO55 hl53 => ?_
  have hE55 : Ext m28 m55 := ⟨by omega, fun c hc => by rw [hk55 c hc, hE46.get c hc]⟩
  simp only [List.nil_append] at hO55
  have hlo0 : m.n ≤ min (min (min (min (min (min (min (min (min (min (min (min (min m.n m3.n) m3.n) m10.n) m13.n) m13.n) m21.n) m25.n) m28.n) m33.n) m44.low) m33.n) m53.low) m33.n := by
    have : m.n ≤ m33.n ∧ m.n ≤ m44.low ∧ m.n ≤ m53.low := by omega
    simp only [Nat.le_min, hnm, this, Nat.le_refl, and_self]
  have hgb := good_bounds hgs
  have hn2833 : m28.n ≤ m33.n := h33n
  have hlen := hgs.nc
  have hlenf := hgs.nf
  have hlend := hgs.nd
  have hleng := hgs.ng
  have hrn := hgd.nc
  have hrf := hgd.nf
  -- the clauses
  refine Lp.intro (γ := Nat) (fun i => s.law.clauses.length - i) (fun i vs mm lo => vs = [.int .i64 i] ∧ i ≤ s.law.clauses.length ∧ Ext m28 mm ∧ m33.n < mm.n ∧ m.n ≤ lo ∧ ∃ vc, OwR m28.n m33.n ⟨⟨r.law.clauses ++ (s.law.clauses.take i).map (laterC w.known), r.law.repeals, r.law.facts⟩, r.deeds, r.grants⟩ vc w2 w3 v43 v52 mm) 0
    ⟨rfl, Nat.zero_le _, hE55, by omega, hlo0, w1, by rw [List.take_zero, List.map_nil, List.append_nil]; exact hO55⟩ ?_
  rintro i vs mm lo ⟨rfl, hi, hE, hnm33, hlo, vc, hO⟩
  have hbs := hE.cells hg28
  have hsm := hs28.keepE hE
  have hmn := hE.n
  simp only [un_cons, fieldAddr_42_0, fieldAddr_38_0, load_34, cellAt_of hbs, hsm.law.clauses.len slt_clause, onS_some, on2_some, onFn_func, ifV_bool, ifB_true, ifB_false, bin_leq, bin_lss, bin_geq, bin_gtr, bin_eql, bin_neq, un_not, ptrTo, nilck_ptr, nilck_func, Nat.zero_add, Nat.reduceAdd, List.getElem?_cons_zero, List.getElem?_cons_succ, List.drop_zero, List.drop_succ_cons, List.take_succ_cons, List.take_zero, Option.map_some, cells_agg, cells_int, cells_bool, cells_slice, cells_ptr, cells_map, cells_func]
  refine ifB_intro (fun hc => ?_) (fun hc => ?_)
  · have hlt : i < s.law.clauses.length := by simpa using hc
    have hx : s.law.clauses[i]? = some s.law.clauses[i] := List.getElem?_eq_getElem hlt
    have hxb := hgb.1 _ (List.getElem_mem hlt)
    generalize s.law.clauses[i] = x at hx hxb
    obtain ⟨p, cs, e1, e2, vn, vb, rfl, hvn, hvb⟩ := hsm.law.clauses.index slt_clause (k := .i64) hx
    rw [e1, onS_some, e2, onS_some, val_agg rfl]
    have x1 := hvn.one
    have x2 := hvb.one
    refine onM_push fun m74 hn74 hg74 hk74 => ?_
    refine on2_storeV ty_64 hg74 (by rfl) (by rfl) (by simp only [cells_agg, Clause.cs, List.all_cons, List.all_nil, x1, x2]; rfl) fun m75 hn75 hg75 hk75 => ?_
    simp only [cells_agg, Clause.cs] at hg75
    have he75 : Ext mm m75 := ⟨by omega, fun b hb => by rw [hk75 b (by omega), hk74 b hb]⟩
    have hbw75 := (hE.trans he75).cells hbw
    simp only [fieldAddr_45_4, fieldAddr_64_0, load_3, cellAt_of hbw75, cellAt_of hg75, bin_add, onS_some, on2_some, onFn_func, ifV_bool, ifB_true, ifB_false, bin_leq, bin_lss, bin_geq, bin_gtr, bin_eql, bin_neq, un_not, ptrTo, nilck_ptr, nilck_func, Nat.zero_add, Nat.reduceAdd, List.getElem?_cons_zero, List.getElem?_cons_succ, List.drop_zero, List.drop_succ_cons, List.take_succ_cons, List.take_zero, Option.map_some, cells_agg, cells_int, cells_bool, cells_slice, cells_ptr, cells_map, cells_func]
    rw [wrap64 (x := w.known + 1) (by omega) (by omega), wrap64 (x := w.known + 1 + x.pub) (by omega) (by omega)]
    refine on2_store ty_3 hg75 (by rfl) (by simp [cells_int]) rfl fun m84 hn84 hg84 hk84 => ?_
    have hg84' : m84.get mm.n = .cells ((laterC w.known x).cs vn vb) 64 none := hg84
    have he84 : Ext mm m84 := ⟨by omega, fun b hb => by rw [hk84 b (by omega), he75.get b hb]⟩
    have hbox84 := he84.cells hO.box
    simp only [cellAt_of hbox84, onS_some, on2_some, onFn_func, ifV_bool, ifB_true, ifB_false, bin_leq, bin_lss, bin_geq, bin_gtr, bin_eql, bin_neq, un_not, ptrTo, nilck_ptr, nilck_func, Nat.zero_add, Nat.reduceAdd, List.getElem?_cons_zero, List.getElem?_cons_succ, List.drop_zero, List.drop_succ_cons, List.take_succ_cons, List.take_zero, Option.map_some, cells_agg, cells_int, cells_bool, cells_slice, cells_ptr, cells_map, cells_func]
    rw [load_64, loadCells_of hg84' (by simp [Clause.cs]), Option.map_some, onS_some]
    simp only [Clause.cs, List.drop_zero, List.take_succ_cons, List.take_zero]
    rw [buildSlice_c, on2_some]
    have hrep : Rep.rep m84 (laterC w.known x) ((laterC w.known x).cs vn vb) := ⟨vn, vb, rfl, hvn.keepE he84, hvb.keepE he84⟩
    have hsl := sl_one (m := m84) hrep
    have he91 : Ext m84 (m84.push (.cells ((laterC w.known x).cs vn vb) 64 none)) := Ext.refl.push
    have hn91 : (m84.push (.cells ((laterC w.known x).cs vn vb) 64 none)).n = m84.n + 1 := M.push_n
    change Sl (m84.push (.cells ((laterC w.known x).cs vn vb) 64 none)) [laterC w.known x] _ at hsl
    simp only [Clause.cs] at hsl he91 hn91
    generalize m84.push (.cells [.int .i64 (laterC w.known x).pub, .int .i64 (laterC w.known x).sp.f, .int .i64 (laterC w.known x).sp.t, vn, vb, .int .i64 (laterC w.known x).gives] 64 none) = m91 at hsl he91 hn91 ⊢
    have hE91 := he84.trans he91
    refine (hO.keepE hE91).clause hsl (by omega) (by simp; omega) (by omega) fun v92 m93 m96 hn96 hn93 hk96 hO96 hl93 => ?_
    refine ⟨i + 1, by omega, ?_, by omega, ⟨by omega, fun c hc => by rw [hk96 c hc, hE91.get c (by omega), hE.get c hc]⟩, by omega, ?_, v92, ?_⟩
    · rw [wrap64 (by omega) (by omega)]; rfl
    · have : m.n ≤ mm.n ∧ m.n ≤ m93.low ∧ m.n ≤ m33.n := by omega
      simp only [Nat.le_min, hlo, this, and_self]
    · rw [map_take_succ hx, ← List.append_assoc]
      exact hO96
  have hge : i = s.law.clauses.length := by
    have : ¬ ((i : Int) < (s.law.clauses.length : Int)) := by simpa using hc
    omega
  subst hge
  clear hc
  rw [List.take_length] at hO
  -- the facts
  refine Lp.intro (γ := Nat) (fun i => s.law.facts.length - i) (fun i vs mm lo => vs = [.int .i64 i] ∧ i ≤ s.law.facts.length ∧ Ext m28 mm ∧ m33.n < mm.n ∧ m.n ≤ lo ∧ ∃ vfact, OwR m28.n m33.n ⟨⟨r.law.clauses ++ s.law.clauses.map (laterC w.known), r.law.repeals, r.law.facts ++ (s.law.facts.take i).map (laterF w.known)⟩, r.deeds, r.grants⟩ vc w2 vfact v43 v52 mm) 0
    ⟨rfl, Nat.zero_le _, hE, by omega, hlo, w3, by rw [List.take_zero, List.map_nil, List.append_nil]; exact hO⟩ ?_
  clear hE hO hlo hbs hsm hmn hi hnm33
  rintro i vs mm lo ⟨rfl, hi, hE, hnm33, hlo, vfact, hO⟩
  have hbs := hE.cells hg28
  have hsm := hs28.keepE hE
  have hmn := hE.n
  simp only [un_cons, fieldAddr_42_0, fieldAddr_38_2, load_36, cellAt_of hbs, hsm.law.facts.len slt_fact, onS_some, on2_some, onFn_func, ifV_bool, ifB_true, ifB_false, bin_leq, bin_lss, bin_geq, bin_gtr, bin_eql, bin_neq, un_not, ptrTo, nilck_ptr, nilck_func, Nat.zero_add, Nat.reduceAdd, List.getElem?_cons_zero, List.getElem?_cons_succ, List.drop_zero, List.drop_succ_cons, List.take_succ_cons, List.take_zero, Option.map_some, cells_agg, cells_int, cells_bool, cells_slice, cells_ptr, cells_map, cells_func]
  refine ifB_intro (fun hc => ?_) (fun hc => ?_)
  · have hlt : i < s.law.facts.length := by simpa using hc
    have hx : s.law.facts[i]? = some s.law.facts[i] := List.getElem?_eq_getElem hlt
    have hxb := hgb.2.1 _ (List.getElem_mem hlt)
    generalize s.law.facts[i] = x at hx hxb
    obtain ⟨p, cs, e1, e2, rfl⟩ := hsm.law.facts.index slt_fact (k := .i64) hx
    rw [e1, onS_some, e2, onS_some, val_agg rfl]
    refine onM_push fun m74 hn74 hg74 hk74 => ?_
    refine on2_storeV ty_66 hg74 (by rfl) (by rfl) rfl fun m75 hn75 hg75 hk75 => ?_
    simp only [cells_agg] at hg75
    have he75 : Ext mm m75 := ⟨by omega, fun b hb => by rw [hk75 b (by omega), hk74 b hb]⟩
    have hbw75 := (hE.trans he75).cells hbw
    rw [load_45, loadCells_of hbw75 (by simp), Option.map_some, onS_some, fieldAddr_66_3, onS_some, load_62, loadCells_of hg75 (by simp), Option.map_some, onS_some]
    refine onC_of (show C X (.func 16) [Value.agg (List.take 5 (List.drop 0 w.c)).toArray, x.kn.v] m75 m75.n _ m75 from late_ok hX w x.kn (by omega) hxb.1 hxb.2) ?_
    rw [onS_some]
    refine on2_store ty_62 hg75 (by rfl) (by simp [cells_agg]) rfl fun m84 hn84 hg84 hk84 => ?_
    have hg84' : m84.get mm.n = .cells (laterF w.known x).c 66 none := hg84
    have he84 : Ext mm m84 := ⟨by omega, fun b hb => by rw [hk84 b (by omega), he75.get b hb]⟩
    have hbox84 := he84.cells hO.box
    simp only [fieldAddr_42_0, fieldAddr_38_2, load_36, cellAt_of hbox84, onS_some, on2_some, onFn_func, ifV_bool, ifB_true, ifB_false, bin_leq, bin_lss, bin_geq, bin_gtr, bin_eql, bin_neq, un_not, ptrTo, nilck_ptr, nilck_func, Nat.zero_add, Nat.reduceAdd, List.getElem?_cons_zero, List.getElem?_cons_succ, List.drop_zero, List.drop_succ_cons, List.take_succ_cons, List.take_zero, Option.map_some, cells_agg, cells_int, cells_bool, cells_slice, cells_ptr, cells_map, cells_func]
    rw [load_66, loadCells_of hg84' (by simp), Option.map_some, onS_some]
    simp only [List.drop_zero, List.take_succ_cons, List.take_zero]
    rw [buildSlice_f, on2_some]
    have hsl := sl_one (m := m84) (x := laterF w.known x) (cs := (laterF w.known x).c) rfl
    have he91 : Ext m84 (m84.push (.cells (laterF w.known x).c 66 none)) := Ext.refl.push
    have hn91 : (m84.push (.cells (laterF w.known x).c 66 none)).n = m84.n + 1 := M.push_n
    change Sl (m84.push (.cells (laterF w.known x).c 66 none)) [laterF w.known x] _ at hsl
    generalize m84.push (.cells (laterF w.known x).c 66 none) = m91 at hsl he91 hn91 ⊢
    have hE91 := he84.trans he91
    refine (hO.keepE hE91).fact hsl (by omega) (by simp; omega) (by omega) fun v92 m93 m96 hn96 hn93 hk96 hO96 hl93 => ?_
    refine ⟨i + 1, by omega, ?_, by omega, ⟨by omega, fun c hc => by rw [hk96 c hc, hE91.get c (by omega), hE.get c hc]⟩, by omega, ?_, v92, ?_⟩
    · rw [wrap64 (by omega) (by omega)]; rfl
    · have : m.n ≤ mm.n ∧ m.n ≤ m75.n ∧ m.n ≤ m93.low ∧ m.n ≤ m33.n := by omega
      simp only [Nat.le_min, hlo, this, and_self]
    · rw [map_take_succ hx, ← List.append_assoc]
      exact hO96
  have hge : i = s.law.facts.length := by
    have : ¬ ((i : Int) < (s.law.facts.length : Int)) := by simpa using hc
    omega
  subst hge
  clear hc
  rw [List.take_length] at hO
  -- the deeds
  refine Lp.intro (γ := Nat) (fun i => s.deeds.length - i) (fun i vs mm lo => vs = [.int .i64 i] ∧ i ≤ s.deeds.length ∧ Ext m28 mm ∧ m33.n < mm.n ∧ m.n ≤ lo ∧ ∃ vdeed, OwR m28.n m33.n ⟨⟨r.law.clauses ++ s.law.clauses.map (laterC w.known), r.law.repeals, r.law.facts ++ s.law.facts.map (laterF w.known)⟩, r.deeds ++ (s.deeds.take i).map (laterD w.known), r.grants⟩ vc w2 vfact vdeed v52 mm) 0
    ⟨rfl, Nat.zero_le _, hE, by omega, hlo, v43, by rw [List.take_zero, List.map_nil, List.append_nil]; exact hO⟩ ?_
  clear hE hO hlo hbs hsm hmn hi hnm33
  rintro i vs mm lo ⟨rfl, hi, hE, hnm33, hlo, vdeed, hO⟩
  have hbs := hE.cells hg28
  have hsm := hs28.keepE hE
  have hmn := hE.n
  simp only [un_cons, fieldAddr_42_1, load_39, cellAt_of hbs, hsm.deeds.len slt_deed, onS_some, on2_some, onFn_func, ifV_bool, ifB_true, ifB_false, bin_leq, bin_lss, bin_geq, bin_gtr, bin_eql, bin_neq, un_not, ptrTo, nilck_ptr, nilck_func, Nat.zero_add, Nat.reduceAdd, List.getElem?_cons_zero, List.getElem?_cons_succ, List.drop_zero, List.drop_succ_cons, List.take_succ_cons, List.take_zero, Option.map_some, cells_agg, cells_int, cells_bool, cells_slice, cells_ptr, cells_map, cells_func]
  refine ifB_intro (fun hc => ?_) (fun hc => ?_)
  · have hlt : i < s.deeds.length := by simpa using hc
    have hx : s.deeds[i]? = some s.deeds[i] := List.getElem?_eq_getElem hlt
    have hxb := hgb.2.2.1 _ (List.getElem_mem hlt)
    generalize s.deeds[i] = x at hx hxb
    obtain ⟨p, cs, e1, e2, rfl⟩ := hsm.deeds.index slt_deed (k := .i64) hx
    rw [e1, onS_some, e2, onS_some, val_agg rfl]
    refine onM_push fun m74 hn74 hg74 hk74 => ?_
    refine on2_storeV ty_69 hg74 (by rfl) (by rfl) rfl fun m75 hn75 hg75 hk75 => ?_
    simp only [cells_agg] at hg75
    have he75 : Ext mm m75 := ⟨by omega, fun b hb => by rw [hk75 b (by omega), hk74 b hb]⟩
    have hbw75 := (hE.trans he75).cells hbw
    rw [load_45, loadCells_of hbw75 (by simp), Option.map_some, onS_some, fieldAddr_69_3, onS_some, load_62, loadCells_of hg75 (by simp), Option.map_some, onS_some]
    refine onC_of (show C X (.func 16) [Value.agg (List.take 5 (List.drop 0 w.c)).toArray, x.kn.v] m75 m75.n _ m75 from late_ok hX w x.kn (by omega) hxb.1 hxb.2) ?_
    rw [onS_some]
    refine on2_store ty_62 hg75 (by rfl) (by simp [cells_agg]) rfl fun m84 hn84 hg84 hk84 => ?_
    have hg84' : m84.get mm.n = .cells (laterD w.known x).c 69 none := hg84
    have he84 : Ext mm m84 := ⟨by omega, fun b hb => by rw [hk84 b (by omega), he75.get b hb]⟩
    have hbox84 := he84.cells hO.box
    simp only [fieldAddr_42_1, load_39, cellAt_of hbox84, onS_some, on2_some, onFn_func, ifV_bool, ifB_true, ifB_false, bin_leq, bin_lss, bin_geq, bin_gtr, bin_eql, bin_neq, un_not, ptrTo, nilck_ptr, nilck_func, Nat.zero_add, Nat.reduceAdd, List.getElem?_cons_zero, List.getElem?_cons_succ, List.drop_zero, List.drop_succ_cons, List.take_succ_cons, List.take_zero, Option.map_some, cells_agg, cells_int, cells_bool, cells_slice, cells_ptr, cells_map, cells_func]
    rw [load_69, loadCells_of hg84' (by simp), Option.map_some, onS_some]
    simp only [List.drop_zero, List.take_succ_cons, List.take_zero]
    rw [buildSlice_d, on2_some]
    have hsl := sl_one (m := m84) (x := laterD w.known x) (cs := (laterD w.known x).c) rfl
    have he91 : Ext m84 (m84.push (.cells (laterD w.known x).c 69 none)) := Ext.refl.push
    have hn91 : (m84.push (.cells (laterD w.known x).c 69 none)).n = m84.n + 1 := M.push_n
    change Sl (m84.push (.cells (laterD w.known x).c 69 none)) [laterD w.known x] _ at hsl
    generalize m84.push (.cells (laterD w.known x).c 69 none) = m91 at hsl he91 hn91 ⊢
    have hE91 := he84.trans he91
    refine (hO.keepE hE91).deed hsl (by omega) (by simp; omega) (by omega) fun v92 m93 m96 hn96 hn93 hk96 hO96 hl93 => ?_
    refine ⟨i + 1, by omega, ?_, by omega, ⟨by omega, fun c hc => by rw [hk96 c hc, hE91.get c (by omega), hE.get c hc]⟩, by omega, ?_, v92, ?_⟩
    · rw [wrap64 (by omega) (by omega)]; rfl
    · have : m.n ≤ mm.n ∧ m.n ≤ m75.n ∧ m.n ≤ m93.low ∧ m.n ≤ m33.n := by omega
      simp only [Nat.le_min, hlo, this, and_self]
    · rw [map_take_succ hx, ← List.append_assoc]
      exact hO96
  have hge : i = s.deeds.length := by
    have : ¬ ((i : Int) < (s.deeds.length : Int)) := by simpa using hc
    omega
  subst hge
  clear hc
  rw [List.take_length] at hO
  -- the grants
  refine Lp.intro (γ := Nat) (fun i => s.grants.length - i) (fun i vs mm lo => vs = [.int .i64 i] ∧ i ≤ s.grants.length ∧ Ext m28 mm ∧ m33.n < mm.n ∧ m.n ≤ lo ∧ ∃ vgrant, OwR m28.n m33.n ⟨⟨r.law.clauses ++ s.law.clauses.map (laterC w.known), r.law.repeals, r.law.facts ++ s.law.facts.map (laterF w.known)⟩, r.deeds ++ s.deeds.map (laterD w.known), r.grants ++ (s.grants.take i).map (laterG w.known)⟩ vc w2 vfact vdeed vgrant mm) 0
    ⟨rfl, Nat.zero_le _, hE, by omega, hlo, v52, by rw [List.take_zero, List.map_nil, List.append_nil]; exact hO⟩ ?_
  clear hE hO hlo hbs hsm hmn hi hnm33
  rintro i vs mm lo ⟨rfl, hi, hE, hnm33, hlo, vgrant, hO⟩
  have hbs := hE.cells hg28
  have hsm := hs28.keepE hE
  have hmn := hE.n
  simp only [un_cons, fieldAddr_42_2, load_40, cellAt_of hbs, hsm.grants.len slt_grant, onS_some, on2_some, onFn_func, ifV_bool, ifB_true, ifB_false, bin_leq, bin_lss, bin_geq, bin_gtr, bin_eql, bin_neq, un_not, ptrTo, nilck_ptr, nilck_func, Nat.zero_add, Nat.reduceAdd, List.getElem?_cons_zero, List.getElem?_cons_succ, List.drop_zero, List.drop_succ_cons, List.take_succ_cons, List.take_zero, Option.map_some, cells_agg, cells_int, cells_bool, cells_slice, cells_ptr, cells_map, cells_func]
  refine ifB_intro (fun hc => ?_) (fun hc => ?_)
  · have hlt : i < s.grants.length := by simpa using hc
    have hx : s.grants[i]? = some s.grants[i] := List.getElem?_eq_getElem hlt
    have hxb := hgb.2.2.2 _ (List.getElem_mem hlt)
    generalize s.grants[i] = x at hx hxb
    obtain ⟨p, cs, e1, e2, rfl⟩ := hsm.grants.index slt_grant (k := .i64) hx
    rw [e1, onS_some, e2, onS_some, val_agg rfl]
    refine onM_push fun m74 hn74 hg74 hk74 => ?_
    refine on2_storeV ty_71 hg74 (by rfl) (by rfl) rfl fun m75 hn75 hg75 hk75 => ?_
    simp only [cells_agg] at hg75
    have he75 : Ext mm m75 := ⟨by omega, fun b hb => by rw [hk75 b (by omega), hk74 b hb]⟩
    have hbw75 := (hE.trans he75).cells hbw
    rw [load_45, loadCells_of hbw75 (by simp), Option.map_some, onS_some, fieldAddr_71_4, onS_some, load_62, loadCells_of hg75 (by simp), Option.map_some, onS_some]
    refine onC_of (show C X (.func 16) [Value.agg (List.take 5 (List.drop 0 w.c)).toArray, x.kn.v] m75 m75.n _ m75 from late_ok hX w x.kn (by omega) hxb.1 hxb.2) ?_
    rw [onS_some]
    refine on2_store ty_62 hg75 (by rfl) (by simp [cells_agg]) rfl fun m84 hn84 hg84 hk84 => ?_
    have hg84' : m84.get mm.n = .cells (laterG w.known x).c 71 none := hg84
    have he84 : Ext mm m84 := ⟨by omega, fun b hb => by rw [hk84 b (by omega), he75.get b hb]⟩
    have hbox84 := he84.cells hO.box
    simp only [fieldAddr_42_2, load_40, cellAt_of hbox84, onS_some, on2_some, onFn_func, ifV_bool, ifB_true, ifB_false, bin_leq, bin_lss, bin_geq, bin_gtr, bin_eql, bin_neq, un_not, ptrTo, nilck_ptr, nilck_func, Nat.zero_add, Nat.reduceAdd, List.getElem?_cons_zero, List.getElem?_cons_succ, List.drop_zero, List.drop_succ_cons, List.take_succ_cons, List.take_zero, Option.map_some, cells_agg, cells_int, cells_bool, cells_slice, cells_ptr, cells_map, cells_func]
    rw [load_71, loadCells_of hg84' (by simp), Option.map_some, onS_some]
    simp only [List.drop_zero, List.take_succ_cons, List.take_zero]
    rw [buildSlice_g, on2_some]
    have hsl := sl_one (m := m84) (x := laterG w.known x) (cs := (laterG w.known x).c) rfl
    have he91 : Ext m84 (m84.push (.cells (laterG w.known x).c 71 none)) := Ext.refl.push
    have hn91 : (m84.push (.cells (laterG w.known x).c 71 none)).n = m84.n + 1 := M.push_n
    change Sl (m84.push (.cells (laterG w.known x).c 71 none)) [laterG w.known x] _ at hsl
    generalize m84.push (.cells (laterG w.known x).c 71 none) = m91 at hsl he91 hn91 ⊢
    have hE91 := he84.trans he91
    refine (hO.keepE hE91).grant hsl (by omega) (by simp; omega) (by omega) fun v92 m93 m96 hn96 hn93 hk96 hO96 hl93 => ?_
    refine ⟨i + 1, by omega, ?_, by omega, ⟨by omega, fun c hc => by rw [hk96 c hc, hE91.get c (by omega), hE.get c hc]⟩, by omega, ?_, v92, ?_⟩
    · rw [wrap64 (by omega) (by omega)]; rfl
    · have : m.n ≤ mm.n ∧ m.n ≤ m75.n ∧ m.n ≤ m93.low ∧ m.n ≤ m33.n := by omega
      simp only [Nat.le_min, hlo, this, and_self]
    · rw [map_take_succ hx, ← List.append_assoc]
      exact hO96
  have hge : i = s.grants.length := by
    have : ¬ ((i : Int) < (s.grants.length : Int)) := by simpa using hc
    omega
  subst hge
  clear hc
  rw [List.take_length] at hO
  change OwR m28.n m33.n (r.later s w.known) vc w2 vfact vdeed vgrant mm at hO
  have hrm := hr28.keepE hE
  have hbrm := hE.cells hbr
  have hbwm := hE.cells hbw
  have hbl := hO.box
  have hlr := hO.reg
  clear hO hbs hsm
  obtain ⟨hsame, hne, hde, hgr⟩ := later_eq hgs (r := r) w
  have hLo := later_ok hgd hgs hwk
  have hLs := later_sized hgd hgs (k := w.known)
  generalize r.later s w.known = L at hlr hsame hne hde hgr hLo hLs
  have hal : allowedS L w = allowedS r w := by unfold allowedS; rw [hne, hde, hgr]
  rw [load_42, loadCells_of hbrm (by simp), Option.map_some, onS_some, load_45, loadCells_of hbwm (by simp), Option.map_some, onS_some]
  obtain ⟨pv, lst, m220, hc220, hS220, hpr, hll, hK220⟩ := pdecide_ok hX hrm hgd.sized hgd.ok w hwo
  refine onC_of (show C X (.func 11) [Value.agg (List.take 5 (List.drop 0 [v1, v2, v3, v4, v5])).toArray, Value.agg (List.take 5 (List.drop 0 w.c)).toArray] mm mm.n _ m220 from hc220) ?_
  simp only [extr_tuple, onS_some, on2_some, onFn_func, ifV_bool, ifB_true, ifB_false, bin_leq, bin_lss, bin_geq, bin_gtr, bin_eql, bin_neq, un_not, ptrTo, nilck_ptr, nilck_func, Nat.zero_add, Nat.reduceAdd, List.getElem?_cons_zero, List.getElem?_cons_succ, List.drop_zero, List.drop_succ_cons, List.take_succ_cons, List.take_zero, Option.map_some, cells_agg, cells_int, cells_bool, cells_slice, cells_ptr, cells_map, cells_func]
  refine onM_push fun m224 hn224 hg224 hk224 => ?_
  refine on2_storeV ty_49 hg224 (by rfl) (by rfl) (by simp [cells_agg, hS220.one]; exact ⟨rfl, rfl, rfl, rfl⟩) fun m225 hn225 hg225 hk225 => ?_
  simp only [cells_agg] at hg225
  have he225 : Ext m220 m225 := ⟨by omega, fun b hb => by rw [hk225 b (by omega), hk224 b hb]⟩
  have hK225 := hK220.trans (KC.of_ext he225)
  have hbl225 := hK225.get _ _ _ _ hbl
  have hbw225 := hK225.get _ _ _ _ hbwm
  have hl225 := hK225.reg hlr
  rw [load_42, loadCells_of hbl225 (by simp), Option.map_some, onS_some, load_45, loadCells_of hbw225 (by simp), Option.map_some, onS_some]
  obtain ⟨pv2, lst2, m230, hc230, hS230, hpr2, hll2, hK230⟩ := pdecide_ok hX hl225 hLs hLo w hwo
  refine onC_of (show C X (.func 11) [Value.agg (List.take 5 (List.drop 0 [vc, w2, vfact, vdeed, vgrant])).toArray, Value.agg (List.take 5 (List.drop 0 w.c)).toArray] m225 m225.n _ m230 from hc230) ?_
  simp only [extr_tuple, onS_some, on2_some, onFn_func, ifV_bool, ifB_true, ifB_false, bin_leq, bin_lss, bin_geq, bin_gtr, bin_eql, bin_neq, un_not, ptrTo, nilck_ptr, nilck_func, Nat.zero_add, Nat.reduceAdd, List.getElem?_cons_zero, List.getElem?_cons_succ, List.drop_zero, List.drop_succ_cons, List.take_succ_cons, List.take_zero, Option.map_some, cells_agg, cells_int, cells_bool, cells_slice, cells_ptr, cells_map, cells_func]
  refine onM_push fun m234 hn234 hg234 hk234 => ?_
  refine on2_storeV ty_49 hg234 (by rfl) (by rfl) (by simp [cells_agg, hS230.one]; exact ⟨rfl, rfl, rfl, rfl⟩) fun m235 hn235 hg235 hk235 => ?_
  simp only [cells_agg] at hg235
  have he235 : Ext m230 m235 := ⟨by omega, fun b hb => by rw [hk235 b (by omega), hk234 b hb]⟩
  have hK235 := hK230.trans (KC.of_ext he235)
  have hbl235 := hK235.get _ _ _ _ hbl225
  have hbw235 := hK235.get _ _ _ _ hbw225
  have hd235 := hK235.get _ _ _ _ hg225
  have hl235 := hK235.reg hl225
  have hS1 : Sl m235 lst pv := hK235.sl (hS220.keepE he225)
  have hS2 := hS230.keepE he235
  have hnn : m.n ≤ mm.n ∧ m.n ≤ m220.n ∧ m.n ≤ m225.n ∧ m.n ≤ m230.n ∧ m.n ≤ m235.n := by have := hK220.n; have := hK230.n; omega
  refine jn_of (fun vs m' lo' => vs = [.bool true] ∧ m.n ≤ lo') (fun R hR => ?_) ?_
  · refine ifB_intro (fun _ => ?_) (fun h => by simp at h)
    refine ifB_intro (fun _ => ?_) (fun h => by simp at h)
    rw [load_42, loadCells_of hbl235 (by simp), Option.map_some, onS_some]
    refine onC_of (show C X (.func 17) [Value.agg (List.take 5 (List.drop 0 [vc, w2, vfact, vdeed, vgrant])).toArray] m235 m235.n _ m235 from validReg_ok hX hl235 hLs) ?_
    rw [hLo, ifV_bool, ifB_true, load_49, loadCells_of hd235 (by simp), Option.map_some, onS_some, load_49, loadCells_of hg235 (by simp), Option.map_some, onS_some]
    refine onC_of (show C X (.func 18) [Value.agg (List.take 5 (List.drop 0 [Value.bool (allowedS r w), .bool (neededS r w), pv, .int .i64 (deedS r w), .int .i64 (grantS r w)])).toArray, Value.agg (List.take 5 (List.drop 0 [Value.bool (allowedS L w), .bool (neededS L w), pv2, .int .i64 (deedS L w), .int .i64 (grantS L w)])).toArray] m235 m235.n _ m235 from like_ok hX) ?_
    rw [hal, hne, hde, hgr]
    simp only [beq_self_eq_true, decide_true, Bool.and_self, ifV_bool, ifB_true]
    rw [load_42, loadCells_of hbl235 (by simp), Option.map_some, onS_some, load_45, loadCells_of hbw235 (by simp), Option.map_some, onS_some, load_49, loadCells_of hd235 (by simp), Option.map_some, onS_some]
    refine onC_of (show C X (.func 12) [Value.agg (List.take 5 (List.drop 0 [vc, w2, vfact, vdeed, vgrant])).toArray, Value.agg (List.take 5 (List.drop 0 w.c)).toArray, Value.agg (List.take 5 (List.drop 0 [Value.bool (allowedS r w), .bool (neededS r w), pv, .int .i64 (deedS r w), .int .i64 (grantS r w)])).toArray] m235 m235.n _ m235 from pcheck_ok hX hl235 hLs hLo w hwo hS1 (by omega)) ?_
    have hck : checkS L w (allowedS r w) (neededS r w) (deedS r w) (grantS r w) lst = true := by
      rw [← hal, ← hne, ← hde, ← hgr]
      refine check_own ?_
      rw [hsame.proves, hne]
      exact hpr
    rw [hck, ifV_bool, ifB_true, load_42, loadCells_of hbl235 (by simp), Option.map_some, onS_some, load_45, loadCells_of hbw235 (by simp), Option.map_some, onS_some, load_49, loadCells_of hg235 (by simp), Option.map_some, onS_some]
    refine onC_of (show C X (.func 12) [Value.agg (List.take 5 (List.drop 0 [vc, w2, vfact, vdeed, vgrant])).toArray, Value.agg (List.take 5 (List.drop 0 w.c)).toArray, Value.agg (List.take 5 (List.drop 0 [Value.bool (allowedS L w), .bool (neededS L w), pv2, .int .i64 (deedS L w), .int .i64 (grantS L w)])).toArray] m235 m235.n _ m235 from pcheck_ok hX hl235 hLs hLo w hwo hS2 (by omega)) ?_
    rw [check_own hpr2]
    exact hR _ _ _ ⟨rfl, by simp only [Nat.le_min, hlo, hnn, and_self]⟩
  · rintro _ m' lo' ⟨rfl, hlo'⟩
    rw [un_cons]
    exact ⟨rfl, hlo'⟩
end Go.Proofs.YtbpmlholiohkpaaGreatDoor
