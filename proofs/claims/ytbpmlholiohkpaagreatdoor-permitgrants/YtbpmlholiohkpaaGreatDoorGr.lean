/- The law PermitGrants. -/
import Derived.Test.YtbpmlholiohkpaaGreatDoorC5
import Derived.Test.YtbpmlholiohkpaaGreatDoorFk5
/- The law PermitGrants. -/
namespace Go.Proofs.YtbpmlholiohkpaaGreatDoor
open Go Go.D
variable {X : CallFn} {m : M}
theorem pick19_ok (hX : NoX X) {c n : Int} (hc : InR c) (hn : 0 < n) : C X (.func 19) [.int .i64 c, .int .i64 n] m m.n (.int .i64 (pickS c n)) m := by
  refine Cl.flatJ (hX.no 19 rfl) fn_19 rfl rfl ?_
  rw [FJ19]
  unfold InR at hc
  simp only [bin_lss, onS_some, ifV_bool]
  refine ifB_intro (fun h => ?_) (fun h => ?_)
  · have h : c < 0 := by simpa using h
    simp only [bin_add, un_neg, onS_some]
    rw [wrap64 (x := c + 1) (by omega) (by omega), wrap64 (by omega) (by omega), bin_rem (by omega), onS_some]
    exact ⟨by rw [mkres, pickS, if_pos h], Nat.le_refl _⟩
  · have h : ¬ c < 0 := by simpa using h
    rw [bin_rem (by omega), onS_some]
    exact ⟨by rw [mkres, pickS, if_neg h], Nat.le_refl _⟩
/-- Without any law nothing is so. -/
theorem soT_nil {q : Query} : ∀ {k : Nat} {n : Int}, soT ⟨[], [], []⟩ q k n = false
  | 0, _ => rfl
  | k + 1, n => by
    unfold soT
    split
    · rfl
    · exact soT_nil
theorem take_any_succ {α : Type} {p : α → Bool} {l : List α} {i : Nat} {x : α} (hx : l[i]? = some x) : (l.take (i + 1)).any p = ((l.take i).any p || p x) := by
  rw [List.take_add_one, hx, List.any_append]
  simp
theorem bin_neqB {a b : Bool} : bin? Tab.env .neq 4 (.bool a) (.bool b) = some (.bool (!(a == b))) := by
  simp only [bin?, eq?, show Tab.env.ty.get 4 = some Tab.t4 by kernel_rfl, Tab.t4, Option.map_some]
theorem free_reg {r : Registry} {v1 v2 v3 v4 v5 : Value} (h : RegV m r v1 v2 v3 v4 v5) : RegV m ⟨⟨[], [], []⟩, r.deeds, r.grants⟩ (.slice none 0 0) (.slice none 0 0) (.slice none 0 0) v4 v5 := ⟨⟨.nil, .nil, .nil⟩, h.deeds, h.grants⟩
theorem free_good {r : Registry} (h : r.Good) : Registry.Good ⟨⟨[], [], []⟩, r.deeds, r.grants⟩ :=
  ⟨fun x hx => (by cases hx), fun x hx => (by cases hx), fun x hx => (by cases hx), h.ds, h.gs, Nat.zero_le _, Nat.zero_le _, Nat.zero_le _, h.nd, h.ng⟩
theorem free_sized {r : Registry} (h : r.Good) : Registry.Sized ⟨⟨[], [], []⟩, r.deeds, r.grants⟩ := (free_good h).sized
theorem free_ok {r : Registry} (h : r.Good) : Registry.ok ⟨⟨[], [], []⟩, r.deeds, r.grants⟩ = true := (free_good h).ok
theorem free_allowed {r : Registry} {w : Wish} : allowedS ⟨⟨[], [], []⟩, r.deeds, r.grants⟩ w = r.deeds.any (deedB w) := by
  have h : neededS ⟨⟨[], [], []⟩, r.deeds, r.grants⟩ w = false := soT_nil
  unfold allowedS allowsB deedS
  rw [h, idx_nonneg]
  simp
/-- A grant that is the only one. -/
theorem one_good {r : Registry} (h : r.Good) {g : Grant} (hg : g.Good) : Registry.Good ⟨r.law, r.deeds, [g]⟩ :=
  ⟨h.cs, h.rs, h.fs, h.ds, fun x hx => by rw [List.mem_singleton.1 hx]; exact hg, h.nc, h.nr, h.nf, h.nd, by simp⟩
theorem one_grant {r : Registry} {g : Grant} {w : Wish} : grantS ⟨r.law, r.deeds, [g]⟩ w = if grantB w g then 0 else -1 := by
  rfl
theorem one_mid {g : Grant} {d k : Int} (h1 : g.sp.f ≤ d) (h2 : d < g.sp.t) : grantB ⟨g.kind, g.unit, g.owner, d, k⟩ g = hasB g.kn k := by
  simp [grantB, hasB, h1, h2]
theorem one_end {g : Grant} {k : Int} : grantB ⟨g.kind, g.unit, g.owner, g.sp.t, k⟩ g = false := by
  simp [grantB, hasB]
set_option maxRecDepth 100000 in
theorem permitGrants_ok (hX : NoX X) (h8 : ∀ m : M, 0 < m.n → X (.func 8) [] m = some (.bool true, m)) (hm : 0 < m.n) {x : Value} (n1 : NumV m x) {a b c d e which known : Int} (r0 : InR a) (r1 : InR b) (r2 : InR c) (r3 : InR d) (r4 : InR e) (r5 : InR which) (r6 : InR known) :
    C X (.func 5) [x, .agg #[.int .i64 a, .int .i64 b, .int .i64 c, .int .i64 d, .int .i64 e], .int .i64 which, .int .i64 known] m m.n (.bool true) m := by
  obtain ⟨s1, s2, s3, s4, s5, s6, rfl⟩ := n1.form
  refine Cl.flatJ (hX.no 5 rfl) fn_5 rfl rfl ?_
  rw [FJ5]
  refine onM_push fun m1 hn1 hg1 hk1 => ?_
  refine onM_push fun m2 hn2 hg2 hk2 => ?_
  have hb1 := (hk2 m.n (by omega)).trans hg1
  have hb2 := hg2
  simp only [cells_agg] at hb1 hb2
  have he2 : Ext m m2 := ⟨by omega, fun b hb => by rw [hk2 b (by omega), hk1 b hb]⟩
  clear hg1 hg2 hk1 hk2
  refine onC_of (Cl.known (fun l => h8 (m2.wl l) (by show 0 < m2.n; omega)) (Nat.le_refl _) ⟨_, rfl⟩) ?_
  simp only [ptrTo, onS_some, on2_some, onFn_func, ifV_bool, ifB_true, ifB_false, bin_leq, bin_lss, bin_geq, bin_gtr, bin_eql, bin_neq, un_not, ptrTo, nilck_ptr, nilck_func, Nat.zero_add, Nat.reduceAdd, List.getElem?_cons_zero, List.getElem?_cons_succ, List.drop_zero, List.drop_succ_cons, List.take_succ_cons, List.take_zero, Option.map_some, cells_agg, cells_int, cells_bool, cells_slice, cells_ptr, cells_map, cells_func]
  rw [load_29, loadCells_of hb1 (by simp)]
  simp only [Option.map_some, onS_some]
  obtain ⟨r, v1, v2, v3, v4, v5, m9, hc9, hr9, hgd, he9⟩ := (n1.keepE he2).made hX
  refine onC_of (show C X (.func 9) [Value.agg (List.take 6 (List.drop 0 [s1, s2, s3, s4, s5, s6])).toArray] m2 m2.n _ m9 from hc9) ?_
  obtain ⟨o1, o2, o3, o4, o5⟩ := hr9.ones
  refine onM_push fun m11 hn11 hg11 hk11 => ?_
  refine on2_storeV ty_42 hg11 (by rfl) (by rfl) (by simp [cells_agg, o1, o2, o3, o4, o5]) fun m12 hn12 hg12 hk12 => ?_
  simp only [cells_agg] at hg12
  have he12 : Ext m9 m12 := ⟨by omega, fun b hb => by rw [hk12 b (by omega), hk11 b hb]⟩
  have hr12 := hr9.keepE he12
  have hb2' := (he9.trans he12).cells hb2
  have hn9 := he9.n
  rw [load_42, loadCells_of hg12 (by simp), Option.map_some, onS_some, load_30, loadCells_of hb2' (by simp), Option.map_some, onS_some]
  refine onC_of (show C X (.func 10) [Value.agg (List.take 5 (List.drop 0 [v1, v2, v3, v4, v5])).toArray, Value.agg (List.take 5 (List.drop 0 [Value.int .i64 a, .int .i64 b, .int .i64 c, .int .i64 d, .int .i64 e])).toArray] m12 m12.n _ m12 from wish_ok hX hr12 hgd.cs (by have := hgd.nc; omega) r0 r1 r2 r3 r4) ?_
  have hwo := wishS_ok hgd.cs a b c d e
  generalize wishS r.law.clauses a b c d e = w at hwo
  refine onM_push fun m19 hn19 hg19 hk19 => ?_
  refine on2_storeV ty_45 hg19 (by rfl) (by rfl) rfl fun m20 hn20 hg20 hk20 => ?_
  simp only [cells_agg] at hg20
  refine onC_of (pick19_ok hX r6 (by omega)) ?_
  have pk := pickS_bounds (c := known) (n := 120) (by omega)
  generalize pickS known 120 = kn at pk ⊢
  simp only [fieldAddr_45_4, onS_some]
  refine on2_store ty_3 hg20 (by rfl) (by simp [cells_int]) rfl fun m26 hn26 hg26 hk26 => ?_
  have hg26' : m26.get m12.n = .cells (Wish.c { w with known := kn }) 45 none := hg26
  have he26 : Ext m12 m26 := ⟨by omega, fun b hb => by rw [hk26 b (by omega), hk20 b (by omega), hk19 b hb]⟩
  have hr26 := hr12.keepE he26
  have hbr26 := he26.cells hg12
  have hn12 : m9.n < m12.n := by omega
  have hwk : ({ w with known := kn } : Wish).ok = true := by
    simp only [Wish.ok, inB, Bool.and_eq_true, decide_eq_true_eq] at hwo ⊢
    omega
  have a1 := hgd.nd
  have a2 := hgd.ng
  generalize ({ w with known := kn } : Wish) = wk at hg26' hwk
  simp only [fieldAddr_42_1, fieldAddr_42_2, load_39, load_40, cellAt_of hbr26, onS_some, on2_some, onFn_func, ifV_bool, ifB_true, ifB_false, bin_leq, bin_lss, bin_geq, bin_gtr, bin_eql, bin_neq, un_not, ptrTo, nilck_ptr, nilck_func, Nat.zero_add, Nat.reduceAdd, List.getElem?_cons_zero, List.getElem?_cons_succ, List.drop_zero, List.drop_succ_cons, List.take_succ_cons, List.take_zero, Option.map_some, cells_agg, cells_int, cells_bool, cells_slice, cells_ptr, cells_map, cells_func]
  rw [build_42_1_2 (by rw [hr26.deeds.cells]; rfl) (by rw [hr26.grants.cells]; rfl), onS_some]
  simp only [hr26.deeds.cells, hr26.grants.cells, List.cons_append, List.nil_append]
  refine onM_push fun m33 hn33 hg33 hk33 => ?_
  refine on2_storeV ty_42 hg33 (by rfl) (by rfl) (by simp [cells_agg, o4, o5]; rfl) fun m34 hn34 hg34 hk34 => ?_
  simp only [cells_agg] at hg34
  have he34 : Ext m26 m34 := ⟨by omega, fun b hb => by rw [hk34 b (by omega), hk33 b hb]⟩
  have hr34 := hr26.keepE he34
  have hbw34 := he34.cells hg26'
  rw [load_42, loadCells_of hg34 (by simp), Option.map_some, onS_some, load_45, loadCells_of hbw34 (by simp), Option.map_some, onS_some]
  obtain ⟨pv, lst, m39, hc39, hS39, _, _, hK39⟩ := pdecide_ok hX (free_reg hr34) (free_sized hgd) (free_ok hgd) wk hwk
  refine onC_of (show C X (.func 11) [Value.agg (List.take 5 (List.drop 0 [Value.slice none 0 0, .slice none 0 0, .slice none 0 0, v4, v5])).toArray, Value.agg (List.take 5 (List.drop 0 wk.c)).toArray] m34 m34.n _ m39 from hc39) ?_
  simp only [extr_tuple, onS_some, on2_some, onFn_func, ifV_bool, ifB_true, ifB_false, bin_leq, bin_lss, bin_geq, bin_gtr, bin_eql, bin_neq, un_not, ptrTo, nilck_ptr, nilck_func, Nat.zero_add, Nat.reduceAdd, List.getElem?_cons_zero, List.getElem?_cons_succ, List.drop_zero, List.drop_succ_cons, List.take_succ_cons, List.take_zero, Option.map_some, cells_agg, cells_int, cells_bool, cells_slice, cells_ptr, cells_map, cells_func]
  refine onM_push fun m43 hn43 hg43 hk43 => ?_
  refine on2_storeV ty_49 hg43 (by rfl) (by rfl) (by simp [cells_agg, hS39.one]; exact ⟨rfl, rfl, rfl, rfl⟩) fun m44 hn44 hg44 hk44 => ?_
  simp only [cells_agg] at hg44
  have he44 : Ext m39 m44 := ⟨by omega, fun b hb => by rw [hk44 b (by omega), hk43 b hb]⟩
  have hK44 : KC m26 m44 := (KC.of_ext he34).trans (hK39.trans (.of_ext he44))
  have hbr44 := hK44.get _ _ _ _ hbr26
  have hbw44 := hK44.get _ _ _ _ hg26'
  have hr44 := hK44.reg hr26
  have hlo44 : m.n ≤ m44.n := by have := hK44.n; have := he12.n; have := he26.n; have := he2.n; omega
  have hns : m.n ≤ m2.n ∧ m.n ≤ m9.n ∧ m.n ≤ m12.n ∧ m.n ≤ m20.n ∧ m.n ≤ m26.n ∧ m.n ≤ m34.n ∧ m.n ≤ m39.n := by have := he2.n; have := he12.n; have := he26.n; have := he34.n; have := hK39.n; omega
  refine Lp.intro (γ := Nat) (fun i => r.deeds.length - i) (fun i vs mm lo => vs = [.bool ((r.deeds.take i).any (deedB wk)), .int .i64 i] ∧ i ≤ r.deeds.length ∧ Ext m44 mm ∧ m.n ≤ lo) 0 ⟨rfl, Nat.zero_le _, .refl, by simp only [Nat.le_min, hns, Nat.le_refl, and_self]⟩ ?_
  rintro i vs mm lo ⟨rfl, hi, hE, hlo⟩
  have hbr := hE.cells hbr44
  have hbw := hE.cells hbw44
  have hrm := hr44.keepE hE
  have hmn := hE.n
  simp only [un_cons, fieldAddr_42_1, load_39, cellAt_of hbr, hrm.deeds.len slt_deed, onS_some, on2_some, onFn_func, ifV_bool, ifB_true, ifB_false, bin_leq, bin_lss, bin_geq, bin_gtr, bin_eql, bin_neq, un_not, ptrTo, nilck_ptr, nilck_func, Nat.zero_add, Nat.reduceAdd, List.getElem?_cons_zero, List.getElem?_cons_succ, List.drop_zero, List.drop_succ_cons, List.take_succ_cons, List.take_zero, Option.map_some, cells_agg, cells_int, cells_bool, cells_slice, cells_ptr, cells_map, cells_func]
  refine ifB_intro (fun hc => ?_) (fun hc => ?_)
  · have hlt : i < r.deeds.length := by simpa using hc
    have hx : r.deeds[i]? = some r.deeds[i] := List.getElem?_eq_getElem hlt
    generalize r.deeds[i] = x at hx
    obtain ⟨p, cs, e1, e2, rfl⟩ := hrm.deeds.index slt_deed (k := .i64) hx
    rw [e1, onS_some, e2, onS_some, val_agg rfl]
    refine onM_push fun m63 hn63 hg63 hk63 => ?_
    refine on2_storeV ty_69 hg63 (by rfl) (by rfl) rfl fun m64 hn64 hg64 hk64 => ?_
    simp only [cells_agg] at hg64
    have he64 : Ext mm m64 := ⟨by omega, fun b hb => by rw [hk64 b (by omega), hk63 b hb]⟩
    have hbw64 := he64.cells hbw
    have htk := take_any_succ (p := deedB wk) hx
    have hnext : ∀ b, (b = ((r.deeds.take i).any (deedB wk) || deedB wk x)) → onS (bin? Tab.env .add 3 (.int .i64 (i : Int)) (.int .i64 1)) fun v => ∃ g', r.deeds.length - g' < r.deeds.length - i ∧ [Value.bool b, v] = [.bool ((r.deeds.take g').any (deedB wk)), .int .i64 (g' : Int)] ∧ g' ≤ r.deeds.length ∧ Ext m44 m64 ∧ m.n ≤ min lo mm.n := by
      rintro b rfl
      simp only [bin_add, onS_some]
      refine ⟨i + 1, by omega, ?_, by omega, hE.trans he64, by omega⟩
      rw [wrap64 (by omega) (by omega), htk]
      rfl
    refine ifB_intro (fun ht => ?_) (fun ht => ?_)
    · exact hnext _ (by rw [ht]; rfl)
    · rw [ht, Bool.false_or] at hnext
      simp only [fieldAddr_69_0, fieldAddr_69_1, fieldAddr_69_2, fieldAddr_69_3, fieldAddr_62_0, fieldAddr_62_1, fieldAddr_45_1, fieldAddr_45_2, fieldAddr_45_3, fieldAddr_45_4, load_3, cellAt_of hg64, cellAt_of hbw64, onS_some, on2_some, onFn_func, ifV_bool, ifB_true, ifB_false, bin_leq, bin_lss, bin_geq, bin_gtr, bin_eql, bin_neq, un_not, ptrTo, nilck_ptr, nilck_func, Nat.zero_add, Nat.reduceAdd, List.getElem?_cons_zero, List.getElem?_cons_succ, List.drop_zero, List.drop_succ_cons, List.take_succ_cons, List.take_zero, Option.map_some, cells_agg, cells_int, cells_bool, cells_slice, cells_ptr, cells_map, cells_func]
      unfold deedB hasB at hnext
      refine ifB_intro (fun h1 => ?_) (fun h1 => hnext _ (by rw [h1]; rfl))
      rw [h1, Bool.true_and] at hnext
      refine ifB_intro (fun h2 => ?_) (fun h2 => hnext _ (by rw [h2]; rfl))
      rw [h2, Bool.true_and] at hnext
      refine ifB_intro (fun h3 => ?_) (fun h3 => hnext _ (by rw [h3]; rfl))
      rw [h3, Bool.true_and] at hnext
      refine ifB_intro (fun h4 => ?_) (fun h4 => hnext _ (by rw [h4]; rfl))
      rw [h4, Bool.true_and] at hnext
      refine ifB_intro (fun h5 => ?_) (fun h5 => hnext _ (by rw [h5]; rfl))
      rw [h5, Bool.true_and] at hnext
      exact hnext _ rfl
  · have hge : i = r.deeds.length := by
      have : ¬ ((i : Int) < (r.deeds.length : Int)) := by simpa using hc
      omega
    subst hge
    clear hc
    have hbd := hE.cells hg44
    refine jn_of (fun vs m' lo' => vs = [.bool false] ∧ mm = m' ∧ lo = lo') (fun R hR => ?_) ?_
    · simp only [fieldAddr_49_0, fieldAddr_49_1, load_4, cellAt_of hbd, bin_neqB, onS_some, on2_some, onFn_func, ifV_bool, ifB_true, ifB_false, bin_leq, bin_lss, bin_geq, bin_gtr, bin_eql, bin_neq, un_not, ptrTo, nilck_ptr, nilck_func, Nat.zero_add, Nat.reduceAdd, List.getElem?_cons_zero, List.getElem?_cons_succ, List.drop_zero, List.drop_succ_cons, List.take_succ_cons, List.take_zero, Option.map_some, cells_agg, cells_int, cells_bool, cells_slice, cells_ptr, cells_map, cells_func]
      refine ifB_intro (fun h => by simp at h) (fun _ => ?_)
      refine ifB_intro (fun h => ?_) (fun _ => ?_)
      · rw [show neededS ⟨⟨[], [], []⟩, r.deeds, r.grants⟩ wk = false from soT_nil] at h
        cases h
      · refine hR _ _ _ ⟨?_, rfl, rfl⟩
        rw [free_allowed, List.take_length]
        simp
    · rintro _ _ _ ⟨rfl, rfl, rfl⟩
      simp only [un_cons, fieldAddr_42_2, load_40, cellAt_of hbr, hrm.grants.len slt_grant, onS_some, on2_some, onFn_func, ifV_bool, ifB_true, ifB_false, bin_leq, bin_lss, bin_geq, bin_gtr, bin_eql, bin_neq, un_not, ptrTo, nilck_ptr, nilck_func, Nat.zero_add, Nat.reduceAdd, List.getElem?_cons_zero, List.getElem?_cons_succ, List.drop_zero, List.drop_succ_cons, List.take_succ_cons, List.take_zero, Option.map_some, cells_agg, cells_int, cells_bool, cells_slice, cells_ptr, cells_map, cells_func]
      refine ifB_intro (fun _ => ⟨rfl, hlo⟩) (fun hc => ?_)
      have hpos : 0 < r.grants.length := by
        have : ¬ ((r.grants.length : Int) = 0) := by simpa using hc
        omega
      clear hc
      refine onC_of (pick19_ok hX r5 (by omega)) ?_
      refine ⟨Nat.le_refl _, ?_⟩
      have pg := pickS_bounds (c := which) (n := (r.grants.length : Int)) (by omega)
      generalize pickS which (r.grants.length : Int) = gi at pg ⊢
      obtain ⟨gk, rfl⟩ : ∃ k : Nat, gi = k := ⟨gi.toNat, by omega⟩
      have hlt : gk < r.grants.length := by omega
      have hx : r.grants[gk]? = some r.grants[gk] := List.getElem?_eq_getElem hlt
      have hgx := hgd.gs _ (List.getElem_mem hlt)
      generalize r.grants[gk] = g at hx hgx
      obtain ⟨p, cs, e1, e2, rfl⟩ := hrm.grants.index slt_grant (k := .i64) hx
      rw [e1, onS_some, e2, onS_some, val_agg rfl]
      refine onM_push fun m135 hn135 hg135 hk135 => ?_
      refine on2_storeV ty_71 hg135 (by rfl) (by rfl) rfl fun m136 hn136 hg136 hk136 => ?_
      simp only [cells_agg] at hg136
      have he136 : Ext mm m136 := ⟨by omega, fun b hb => by rw [hk136 b (by omega), hk135 b hb]⟩
      have hbr136 := he136.cells hbr
      simp only [fieldAddr_42_0, fieldAddr_42_1, load_39, cellAt_of hbr136, onS_some, on2_some, onFn_func, ifV_bool, ifB_true, ifB_false, bin_leq, bin_lss, bin_geq, bin_gtr, bin_eql, bin_neq, un_not, ptrTo, nilck_ptr, nilck_func, Nat.zero_add, Nat.reduceAdd, List.getElem?_cons_zero, List.getElem?_cons_succ, List.drop_zero, List.drop_succ_cons, List.take_succ_cons, List.take_zero, Option.map_some, cells_agg, cells_int, cells_bool, cells_slice, cells_ptr, cells_map, cells_func]
      rw [load_38, loadCells_of hbr136 (by simp), Option.map_some, onS_some, load_71, loadCells_of hg136 (by simp), Option.map_some, onS_some]
      simp only [List.drop_zero, List.take_succ_cons, List.take_zero, List.drop_succ_cons]
      rw [buildSlice_g, on2_some]
      have hr136 := hrm.keepE he136
      rw [build_42_0_1_2 rfl (by rw [hr136.deeds.cells]; rfl) rfl, onS_some]
      simp only [hr136.deeds.cells, cells_agg, cells_slice, List.cons_append, List.nil_append]
      have hone : Sl (m136.push (.cells g.c 71 none)) [g] (.slice (some ⟨m136.n, 0, none⟩) 1 1) := sl_one (x := g) rfl
      have he144 : Ext m136 (m136.push (.cells g.c 71 none)) := Ext.refl.push
      have hn144 : (m136.push (.cells g.c 71 none)).n = m136.n + 1 := M.push_n
      generalize m136.push (.cells g.c 71 none) = m144 at hone he144 hn144 ⊢
      refine onM_push fun m146 hn146 hg146 hk146 => ?_
      refine on2_storeV ty_42 hg146 (by rfl) (by rfl) (by simp [cells_agg, o1, o2, o3, o4]; rfl) fun m147 hn147 hg147 hk147 => ?_
      simp only [cells_agg] at hg147
      have he147 : Ext m144 m147 := ⟨by omega, fun b hb => by rw [hk147 b (by omega), hk146 b hb]⟩
      have hg147g := (he144.trans he147).cells hg136
      have hbw147 := (he136.trans (he144.trans he147)).cells hbw
      have hr147 := (hr136.keepE he144).keepE he147
      have hq : RegV m147 ⟨r.law, r.deeds, [g]⟩ v1 v2 v3 v4 (.slice (some ⟨m136.n, 0, none⟩) 1 1) := ⟨hr147.law, hr147.deeds, hone.keepE he147⟩
      have hgs := one_good hgd hgx
      rw [load_42, loadCells_of hg147 (by simp), Option.map_some, onS_some]
      simp only [fieldAddr_71_0, fieldAddr_71_1, fieldAddr_71_2, fieldAddr_71_3, fieldAddr_62_0, fieldAddr_62_1, fieldAddr_45_4, load_3, cellAt_of hg147g, cellAt_of hbw147, bin_sub, bin_add, onS_some, on2_some, onFn_func, ifV_bool, ifB_true, ifB_false, bin_leq, bin_lss, bin_geq, bin_gtr, bin_eql, bin_neq, un_not, ptrTo, nilck_ptr, nilck_func, Nat.zero_add, Nat.reduceAdd, List.getElem?_cons_zero, List.getElem?_cons_succ, List.drop_zero, List.drop_succ_cons, List.take_succ_cons, List.take_zero, Option.map_some, cells_agg, cells_int, cells_bool, cells_slice, cells_ptr, cells_map, cells_func]
      have hgo := hgx.ok
      simp only [Grant.ok, paperB, Spell.ok, spB, inB, Bool.and_eq_true, decide_eq_true_eq] at hgo
      have g1 := hgx.t
      have g2 := hgx.k
      rw [wrap64 (x := g.sp.t - 1) (by omega) (by omega), wrap64 (x := g.sp.t - 1 - g.sp.f) (by omega) (by omega), bin_quo (by decide), onS_some, Int.tdiv_eq_ediv_of_nonneg (by omega), wrap64 (x := (g.sp.t - 1 - g.sp.f) / 2) (by omega) (by omega), bin_add, onS_some, wrap64 (x := g.sp.f + (g.sp.t - 1 - g.sp.f) / 2) (by omega) (by omega)]
      have hmid : g.sp.f ≤ g.sp.f + (g.sp.t - 1 - g.sp.f) / 2 ∧ g.sp.f + (g.sp.t - 1 - g.sp.f) / 2 < g.sp.t := by omega
      generalize g.sp.f + (g.sp.t - 1 - g.sp.f) / 2 = mid at hmid ⊢
      rw [build_45_0_1_2_3_4 rfl rfl rfl rfl rfl, onS_some]
      simp only [cells_int, List.cons_append, List.nil_append]
      have hwk' := hwk
      simp only [Wish.ok, inB, Bool.and_eq_true, decide_eq_true_eq] at hwk'
      have hwb : Wish.ok ⟨g.kind, g.unit, g.owner, mid, wk.known⟩ = true := by
        simp only [Wish.ok, inB, Bool.and_eq_true, decide_eq_true_eq]
        omega
      have hwc : Wish.ok ⟨g.kind, g.unit, g.owner, g.sp.t, g.kn.f⟩ = true := by
        simp only [Wish.ok, inB, Bool.and_eq_true, decide_eq_true_eq]
        omega
      obtain ⟨pv2, lst2, m173, hc173, hS173, _, _, hK173⟩ := pdecide_ok hX hq hgs.sized hgs.ok ⟨g.kind, g.unit, g.owner, mid, wk.known⟩ hwb
      refine onC_of hc173 ?_
      simp only [extr_tuple, onS_some, on2_some, onFn_func, ifV_bool, ifB_true, ifB_false, bin_leq, bin_lss, bin_geq, bin_gtr, bin_eql, bin_neq, un_not, ptrTo, nilck_ptr, nilck_func, Nat.zero_add, Nat.reduceAdd, List.getElem?_cons_zero, List.getElem?_cons_succ, List.drop_zero, List.drop_succ_cons, List.take_succ_cons, List.take_zero, Option.map_some, cells_agg, cells_int, cells_bool, cells_slice, cells_ptr, cells_map, cells_func]
      refine onM_push fun m177 hn177 hg177 hk177 => ?_
      refine on2_storeV ty_49 hg177 (by rfl) (by rfl) (by simp [cells_agg, hS173.one]; exact ⟨rfl, rfl, rfl, rfl⟩) fun m178 hn178 hg178 hk178 => ?_
      simp only [cells_agg] at hg178
      have he178 : Ext m173 m178 := ⟨by omega, fun b hb => by rw [hk178 b (by omega), hk177 b hb]⟩
      have hK178 : KC m147 m178 := hK173.trans (.of_ext he178)
      have hg178g := hK178.get _ _ _ _ hg147g
      rw [load_42, loadCells_of (hK178.get _ _ _ _ hg147) (by simp), Option.map_some, onS_some]
      simp only [fieldAddr_71_0, fieldAddr_71_1, fieldAddr_71_2, fieldAddr_71_3, fieldAddr_71_4, fieldAddr_62_0, fieldAddr_62_1, load_3, cellAt_of hg178g, onS_some, on2_some, onFn_func, ifV_bool, ifB_true, ifB_false, bin_leq, bin_lss, bin_geq, bin_gtr, bin_eql, bin_neq, un_not, ptrTo, nilck_ptr, nilck_func, Nat.zero_add, Nat.reduceAdd, List.getElem?_cons_zero, List.getElem?_cons_succ, List.drop_zero, List.drop_succ_cons, List.take_succ_cons, List.take_zero, Option.map_some, cells_agg, cells_int, cells_bool, cells_slice, cells_ptr, cells_map, cells_func]
      rw [build_45_0_1_2_3_4 rfl rfl rfl rfl rfl, onS_some]
      simp only [cells_int, List.cons_append, List.nil_append]
      obtain ⟨pv3, lst3, m195, hc195, hS195, _, _, hK195⟩ := pdecide_ok hX (hK178.reg hq) hgs.sized hgs.ok ⟨g.kind, g.unit, g.owner, g.sp.t, g.kn.f⟩ hwc
      refine onC_of hc195 ?_
      simp only [extr_tuple, onS_some, on2_some, onFn_func, ifV_bool, ifB_true, ifB_false, bin_leq, bin_lss, bin_geq, bin_gtr, bin_eql, bin_neq, un_not, ptrTo, nilck_ptr, nilck_func, Nat.zero_add, Nat.reduceAdd, List.getElem?_cons_zero, List.getElem?_cons_succ, List.drop_zero, List.drop_succ_cons, List.take_succ_cons, List.take_zero, Option.map_some, cells_agg, cells_int, cells_bool, cells_slice, cells_ptr, cells_map, cells_func]
      refine onM_push fun m199 hn199 hg199 hk199 => ?_
      refine on2_storeV ty_49 hg199 (by rfl) (by rfl) (by simp [cells_agg, hS195.one]; exact ⟨rfl, rfl, rfl, rfl⟩) fun m200 hn200 hg200 hk200 => ?_
      simp only [cells_agg] at hg200
      have he200 : Ext m195 m200 := ⟨by omega, fun b hb => by rw [hk200 b (by omega), hk199 b hb]⟩
      have hK200 : KC m178 m200 := hK195.trans (.of_ext he200)
      have d1 := hK200.get _ _ _ _ hg178
      have d2 := hK200.get _ _ _ _ hg178g
      have d3 := (hK178.trans hK200).get _ _ _ _ hbw147
      have n2 : m.n ≤ mm.n ∧ m.n ≤ m144.n ∧ m.n ≤ m147.n ∧ m.n ≤ m173.n ∧ m.n ≤ m178.n ∧ m.n ≤ m195.n := by have := he136.n; have := he144.n; have := he147.n; have := hK173.n; have := he178.n; have := hK195.n; omega
      refine jn_of (fun vs _ lo' => vs = [.bool true] ∧ m.n ≤ lo') (fun R hR => ?_) ?_
      · have hlast : ∀ a, a = true → R [.bool a] m200 (min (min (min (min (min (min (min lo mm.n) mm.n) m144.n) m147.n) m173.n) m178.n) m195.n) := by
          rintro _ rfl
          exact hR _ _ _ ⟨rfl, by simp only [Nat.le_min, hlo, n2, Nat.le_refl, and_self]⟩
        simp only [fieldAddr_49_4, fieldAddr_71_4, fieldAddr_62_0, fieldAddr_62_1, fieldAddr_45_4, load_3, cellAt_of d1, cellAt_of d2, cellAt_of d3, cellAt_of hg200, bin_eqlB, onS_some, on2_some, onFn_func, ifV_bool, ifB_true, ifB_false, bin_leq, bin_lss, bin_geq, bin_gtr, bin_eql, bin_neq, un_not, ptrTo, nilck_ptr, nilck_func, Nat.zero_add, Nat.reduceAdd, List.getElem?_cons_zero, List.getElem?_cons_succ, List.drop_zero, List.drop_succ_cons, List.take_succ_cons, List.take_zero, Option.map_some, cells_agg, cells_int, cells_bool, cells_slice, cells_ptr, cells_map, cells_func]
        rw [one_grant, one_mid hmid.1 hmid.2, one_grant, one_end]
        unfold hasB
        refine ifB_intro (fun _ => ?_) (fun h => by simp at h)
        refine ifB_intro (fun _ => ?_) (fun h => by simp at h)
        refine ifB_intro (fun h1 => ?_) (fun h1 => ?_)
        · rw [h1, Bool.true_and]
          refine ifB_intro (fun _ => ?_) (fun h => by cases h2 : decide (wk.known < g.kn.t) <;> simp [h2] at h)
          refine ifB_intro (fun _ => hlast _ (by simp)) (fun h => by cases h2 : decide (wk.known < g.kn.t) <;> simp [h2] at h)
        · rw [h1, Bool.false_and]
          refine ifB_intro (fun _ => ?_) (fun h => by simp at h)
          refine ifB_intro (fun _ => hlast _ (by simp)) (fun h => by simp at h)
      · rintro _ m' lo' ⟨rfl, hlo'⟩
        rw [un_cons]
        exact ⟨rfl, hlo'⟩
end Go.Proofs.YtbpmlholiohkpaaGreatDoor
