/- Contracts: how integers determine registries: Made. Contracts: how integers determine wishes: Wish. Numbers that determine a registry. -/
import Derived.Test.YtbpmlholiohkpaaGreatDoorC4
/- Contracts: how integers determine registries: Made. -/
namespace Go.Proofs.YtbpmlholiohkpaaGreatDoor
open Go Go.D
variable {X : CallFn} {m : M}
theorem tdiv3 {a : Int} (h1 : -9223372036854775808 ≤ a) (h2 : a < 9223372036854775808) : -9223372036854775808 ≤ a.tdiv 3 ∧ a.tdiv 3 < 9223372036854775808 := by
  rcases Int.le_total 0 a with h | h
  · rw [Int.tdiv_eq_ediv_of_nonneg h]
    omega
  · have : a.tdiv 3 = -((-a) / 3) := by rw [← Int.tdiv_eq_ediv_of_nonneg (by omega), Int.neg_tdiv, Int.neg_neg]
    rw [this]
    omega
theorem made32_ok (hX : NoX X) {cl : List (Ar 6)} {rl : List (Ar 3)} {fl : List (Ar 6)} {ks : List Int} {dl : List (Ar 6)} {gl : List (Ar 7)} {s1 s2 s3 s4 s5 s6 : Value} (h1 : SlI m cl s1) (h2 : SlI m rl s2) (h3 : SlI m fl s3) (h4 : SlI m ks s4) (h5 : SlI m dl s5) (h6 : SlI m gl s6)
    (hks : ∀ z ∈ ks, InR z) (z1 : cl.length < 9223372036854775808) (z2 : rl.length < 9223372036854775808) (z3 : fl.length < 9223372036854775808) (z5 : dl.length < 9223372036854775808) (z6 : gl.length < 9223372036854775808) :
    ∃ r v1 v2 v3 v4 v5 m', C X (.func 9) [.agg #[s1, s2, s3, s4, s5, s6]] m m.n (.agg #[v1, v2, v3, v4, v5]) m' ∧ RegV m' r v1 v2 v3 v4 v5 ∧ r.Good ∧ Ext m m' := by
  have key := Cl.genJ (E := Tab.env) (X := X) (f := 9) (args := [.agg #[s1, s2, s3, s4, s5, s6]]) (m := m) (R := fun v m' b => ∃ r v1 v2 v3 v4 v5, v = .agg #[v1, v2, v3, v4, v5] ∧ b = m.n ∧ RegV m' r v1 v2 v3 v4 v5 ∧ r.Good ∧ Ext m m') (hX.no 9 rfl) fn_9 rfl ?_
  · obtain ⟨v, m', b, hc, r, v1, v2, v3, v4, v5, rfl, rfl, h⟩ := key
    exact ⟨r, v1, v2, v3, v4, v5, m', hc, h⟩
  · rw [FJ9]
    refine onM_push fun m1 hn1 hg1 hk1 => ?_
    refine onM_push fun m2 hn2 hg2 hk2 => ?_
    have hb1 := (hk2 m.n (by omega)).trans hg1
    have hb2 := hg2
    simp only [cells_agg] at hb1
    have he2 : Ext m m2 := ⟨by omega, fun b hb => by rw [hk2 b (by omega), hk1 b hb]⟩
    clear hg1 hg2 hk1 hk2
    simp only [ptrTo, fieldAddr_29_0, load_25, onS_some]
    rw [loadCells_of hb1 (by simp)]
    simp only [Option.map_some, onS_some]
    obtain ⟨l, v1, v2, v3, m6, hc6, ⟨hOw6, hL6⟩, hgd, he6⟩ := made31_ok hX (h1.keepE he2) (h2.keepE he2) (h3.keepE he2) z1 z2 z3
    refine onC_of (show C X (.func 28) [Value.agg (List.take 3 (List.drop 0 [s1, s2, s3, s4, s5, s6])).toArray] m2 m2.n _ m6 from hc6) ?_
    have o1 := hL6.clauses.one
    have o2 := hL6.repeals.one
    have o3 := hL6.facts.one
    rw [build_42_0 rfl, onS_some]
    refine onM_push fun m9 hn9 hg9 hk9 => ?_
    refine on2_storeV ty_42 hg9 (by rfl) (by rfl) (by simp [cells_agg, o1, o2, o3]; rfl) fun m10 hn10 hg10 hk10 => ?_
    simp only [cells_agg, List.cons_append, List.nil_append] at hg10
    have hm6 := he6.n
    have he10 : Ext m6 m10 := ⟨by omega, fun b hb => by rw [hk10 b (by omega), hk9 b hb]⟩
    have hE10 : Ext m2 m10 := he6.trans he10
    -- the kinds
    refine Lp.intro (γ := Nat) (fun i => l.clauses.length - i) (fun i vs mm lo => vs = [.int .i64 i] ∧ m.n ≤ lo ∧ mm.n = m10.n ∧ (∀ c, c < m2.n → mm.get c = m10.get c) ∧ mm.get m6.n = .cells [v1, v2, v3, .slice none 0 0, .slice none 0 0] 42 none ∧ ∃ L, Ow m2.n mm L v1 ∧ L.length = l.clauses.length ∧ i ≤ L.length ∧ (∀ x ∈ L, x.Fair) ∧ Sl mm l.repeals v2 ∧ Sl mm l.facts v3) 0
      ⟨rfl, by omega, rfl, fun _ _ => rfl, hg10, l.clauses, hOw6.keepE he10, rfl, Nat.zero_le _, fun x hx => (hgd.cs x hx).fair, hL6.repeals.keepE he10, hL6.facts.keepE he10⟩ ?_
    rintro i vs mm lo ⟨rfl, hlo, hmn, hfr, hbox, L, hOw, hL, hi, hfair, hR, hF⟩
    have hE : Ext m mm := ⟨by have := he10.n; omega, fun c hc => by rw [hfr c (by omega), hE10.get c (by omega), he2.get c hc]⟩
    have hnum : mm.get m.n = .cells [s1, s2, s3, s4, s5, s6] 29 none := by rw [hfr m.n (by omega), hE10.cells hb1]
    have hnl : l.clauses.length ≤ 8 := hgd.nc
    rw [un_cons]
    refine jn_of (fun vs m' lo' => vs = [.bool (decide (i < L.length) && decide (i < ks.length))] ∧ mm = m' ∧ lo = lo') (fun R hR => ?_) ?_
    · simp only [onS_some, on2_some, onFn_func, ifV_bool, ifB_true, ifB_false, bin_leq, bin_lss, bin_geq, bin_gtr, bin_eql, bin_neq, un_not, ptrTo, nilck_ptr, nilck_func, Nat.zero_add, Nat.reduceAdd, List.getElem?_cons_zero, List.getElem?_cons_succ, List.drop_zero, List.drop_succ_cons, List.take_succ_cons, List.take_zero, Option.map_some, cells_agg, cells_int, cells_bool, cells_slice, cells_ptr, cells_map, cells_func, build_42_0, build_69_0_1_2_3, build_71_0_1_2_3_4, fieldAddr_29_0, fieldAddr_29_1, fieldAddr_29_2, fieldAddr_29_3, fieldAddr_38_0, fieldAddr_42_0, fieldAddr_42_1, fieldAddr_42_2, fieldAddr_64_4, len_22, len_26, len_27, len_34, load_119, load_121, load_22, load_25, load_26, load_27, load_3, load_34, load_39, load_40, load_42, ty_119, ty_121, ty_22, ty_26, ty_27, ty_3, ty_34, ty_39, ty_40, ty_42, cellAt_of hnum, cellAt_of hbox, (h4.keepE hE).len slt_int, hOw.sl.len slt_clause]
      have e1 : decide ((i : Int) < (L.length : Int)) = decide (i < L.length) := by by_cases h : i < L.length <;> simp [h]
      have e2 : decide ((i : Int) < (ks.length : Int)) = decide (i < ks.length) := by by_cases h : i < ks.length <;> simp [h]
      rw [e1, e2]
      refine ifB_intro (fun hc => hR _ _ _ ⟨by rw [hc]; rfl, rfl, rfl⟩) (fun hc => hR _ _ _ ⟨by rw [hc]; rfl, rfl, rfl⟩)
    rintro _ _ _ ⟨rfl, rfl, rfl⟩
    rw [un_cons, ifV_bool]
    refine ifB_intro (fun hc => ?_) (fun hc => ?_)
    · simp only [Bool.and_eq_true, decide_eq_true_eq] at hc
      obtain ⟨hlt, hlk⟩ := hc
      have hx : ks[i]? = some ks[i] := List.getElem?_eq_getElem hlk
      have hxc : L[i]? = some L[i] := List.getElem?_eq_getElem hlt
      have hzr : InR ks[i] := hks _ (List.getElem_mem hlk)
      obtain ⟨p, cs, e1, e2, rfl⟩ := (h4.keepE hE).index slt_int (k := .i64) hx
      rw [val_int] at e2
      simp only [fieldAddr_29_1, load_26, cellAt_of hnum, onS_some, on2_some, onFn_func, ifV_bool, ifB_true, ifB_false, bin_leq, bin_lss, bin_geq, bin_gtr, bin_eql, bin_neq, un_not, ptrTo, nilck_ptr, nilck_func, Nat.zero_add, Nat.reduceAdd, List.getElem?_cons_zero, List.getElem?_cons_succ, List.drop_zero, List.drop_succ_cons, List.take_succ_cons, List.take_zero, Option.map_some, cells_agg, cells_int, cells_bool, cells_slice, cells_ptr, cells_map, cells_func]
      rw [e1, onS_some, e2, onS_some]
      refine onC_of (pick29_ok hX hzr (by omega)) ?_
      simp only [bin_gtr, onS_some, ifV_bool]
      refine ifB_intro (fun hpos => ?_) (fun hneg => ?_)
      · simp only [fieldAddr_42_0, fieldAddr_38_0, fieldAddr_29_1, load_26, load_34, cellAt_of hnum, cellAt_of hbox, onS_some, on2_some, onFn_func, ifV_bool, ifB_true, ifB_false, bin_leq, bin_lss, bin_geq, bin_gtr, bin_eql, bin_neq, un_not, ptrTo, nilck_ptr, nilck_func, Nat.zero_add, Nat.reduceAdd, List.getElem?_cons_zero, List.getElem?_cons_succ, List.drop_zero, List.drop_succ_cons, List.take_succ_cons, List.take_zero, Option.map_some, cells_agg, cells_int, cells_bool, cells_slice, cells_ptr, cells_map, cells_func]
        rw [e1, onS_some, e2, onS_some]
        have hq : -9223372036854775808 ≤ (ks[i]).tdiv 3 ∧ (ks[i]).tdiv 3 < 9223372036854775808 := by
          unfold InR at hzr
          exact tdiv3 hzr.1 hzr.2
        rw [bin_quo (by decide), onS_some, wrap64 hq.1 hq.2]
        refine onC_of (pick29_ok hX (by unfold InR; omega) (by omega)) ?_
        refine ⟨Nat.le_refl _, ?_⟩
        have pb := pickS_bounds (c := (ks[i]).tdiv 3) (n := 9) (by omega)
        rw [bin_add, onS_some, wrap64 (by omega) (by omega)]
        obtain ⟨b, o, bc, g, ea, hb, hgb, hob, hup⟩ := Ow.gives hOw hxc (k := .i64)
        rw [ea, onS_some, fieldAddr_64_4, onS_some]
        refine on2_store ty_3 hgb (by rfl) (by rw [cells_int]; simp; omega) rfl fun m57 hn57 hg57 hk57 => ?_
        simp only [bin_add, onS_some]
        rw [wrap64 (by omega) (by omega)]
        have hlb := M.lt_of_get hgb
        have hbne : b ≠ m6.n := fun e => by subst e; rw [hbox] at hgb; cases hgb
        have hkeep : ∀ c cs' t' g', mm.get c = .cells cs' t' g' → t' ≠ 64 → m57.get c = .cells cs' t' g' := fun c cs' t' g' hc ht => by
          rw [hk57 c fun e => ?_, hc]
          subst e
          rw [hgb] at hc
          cases hc
          exact ht rfl
        refine ⟨i + 1, by omega, rfl, by omega, by omega, fun c hc => by rw [hk57 c (by omega), hfr c hc], by rw [hk57 _ (fun e => hbne e.symm), hbox], L.set i { L[i] with gives := 11 + pickS ((ks[i]).tdiv 3) 9 }, hup _ _ hg57 hk57, by rw [List.length_set, hL], by rw [List.length_set]; omega, fun x hx => ?_, hR.keep fun c cs' t' g' hc ht => hkeep c cs' t' g' hc ?_, hF.keep fun c cs' t' g' hc ht => hkeep c cs' t' g' hc ?_⟩
        · rcases List.mem_or_eq_of_mem_set hx with hx | rfl
          · exact hfair x hx
          · exact (hfair _ (List.getElem_mem hlt)).set (by omega) (by omega)
        · rintro rfl; simp [Rep.tys, Rep.ty] at ht
        · rintro rfl; simp [Rep.tys, Rep.ty] at ht
      · simp only [bin_add, onS_some]
        rw [wrap64 (by omega) (by omega)]
        exact ⟨i + 1, by omega, rfl, by omega, hmn, hfr, hbox, L, hOw, hL, by omega, hfair, hR, hF⟩
    · clear hc
      have hm10 := he10.n
      -- the deeds
      refine Lp.intro (γ := Nat) (fun j => dl.length - j) (fun j vs mk lo => vs = [.int .i64 j] ∧ j ≤ dl.length ∧ KX m6.n mm mk ∧ m.n ≤ lo ∧ ∃ vd L2, mk.get m6.n = .cells [v1, v2, v3, vd, .slice none 0 0] 42 none ∧ Ow mm.n mk L2 vd ∧ L2.length = j ∧ j ≤ 6 ∧ ∀ x ∈ L2, x.Good) 0 ⟨rfl, Nat.zero_le _, .refl, by omega, .slice none 0 0, ([] : List Deed), hbox, .nil, rfl, by omega, fun x hx => by cases hx⟩ ?_
      rintro j vs mk lo2 ⟨rfl, hj, hK2, hlo2, vd, L2, hbox2, hOw2, hL2, hj6, hgood2⟩
      have hnum2 := hK2.cells hnum (by omega)
      have hE2 := hK2.ext hE (by omega)
      have hmn2 := hK2.n
      rw [un_cons]
      refine jn_of (fun vs m' lo' => vs = [.bool (decide (j < dl.length) && decide (j < 6))] ∧ mk = m' ∧ lo2 = lo') (fun R hR => ?_) ?_
      · simp only [onS_some, on2_some, onFn_func, ifV_bool, ifB_true, ifB_false, bin_leq, bin_lss, bin_geq, bin_gtr, bin_eql, bin_neq, un_not, ptrTo, nilck_ptr, nilck_func, Nat.zero_add, Nat.reduceAdd, List.getElem?_cons_zero, List.getElem?_cons_succ, List.drop_zero, List.drop_succ_cons, List.take_succ_cons, List.take_zero, Option.map_some, cells_agg, cells_int, cells_bool, cells_slice, cells_ptr, cells_map, cells_func, build_42_0, build_69_0_1_2_3, build_71_0_1_2_3_4, fieldAddr_29_0, fieldAddr_29_1, fieldAddr_29_2, fieldAddr_29_3, fieldAddr_38_0, fieldAddr_42_0, fieldAddr_42_1, fieldAddr_42_2, fieldAddr_64_4, len_22, len_26, len_27, len_34, load_119, load_121, load_22, load_25, load_26, load_27, load_3, load_34, load_39, load_40, load_42, ty_119, ty_121, ty_22, ty_26, ty_27, ty_3, ty_34, ty_39, ty_40, ty_42, cellAt_of hnum2, (h5.keepE hE2).len slt_ar6]
        have e : decide ((j : Int) < 6) = decide (j < 6) := by by_cases h : j < 6 <;> simp [h] <;> omega
        have e'' : decide ((j : Int) < (dl.length : Int)) = decide (j < dl.length) := by by_cases h : j < dl.length <;> simp [h]
        rw [e, e'']
        refine ifB_intro (fun hc => hR _ _ _ ⟨by rw [hc]; rfl, rfl, rfl⟩) (fun hc => hR _ _ _ ⟨by rw [hc]; rfl, rfl, rfl⟩)
      rintro _ _ _ ⟨rfl, rfl, rfl⟩
      rw [un_cons, ifV_bool]
      refine ifB_intro (fun hc => ?_) (fun hc => ?_)
      · simp only [Bool.and_eq_true, decide_eq_true_eq] at hc
        obtain ⟨hlt, h8⟩ := hc
        have hx : dl[j]? = some dl[j] := List.getElem?_eq_getElem hlt
        obtain ⟨p, cs, e1, e2, rfl⟩ := (h5.keepE hE2).index slt_ar6 (k := .i64) hx
        obtain ⟨y0, y1, y2, y3, y4, y5, hy, r0, r1, r2, r3, r4, r5⟩ := dl[j].six
        rw [hy] at e2
        simp only [fieldAddr_29_2, load_22, cellAt_of hnum2, onS_some, on2_some, onFn_func, ifV_bool, ifB_true, ifB_false, bin_leq, bin_lss, bin_geq, bin_gtr, bin_eql, bin_neq, un_not, ptrTo, nilck_ptr, nilck_func, Nat.zero_add, Nat.reduceAdd, List.getElem?_cons_zero, List.getElem?_cons_succ, List.drop_zero, List.drop_succ_cons, List.take_succ_cons, List.take_zero, Option.map_some, cells_agg, cells_int, cells_bool, cells_slice, cells_ptr, cells_map, cells_func]
        rw [e1, onS_some, e2, onS_some, val_agg rfl]
        refine onM_push fun m4 hn4 hg4 hk4 => ?_
        refine on2_storeV ty_119 hg4 (by rfl) (by rfl) rfl fun m5 hn5 hg5 hk5 => ?_
        simp only [cells_agg, List.map_cons, List.map_nil] at hg5
        have he5 : Ext mk m5 := ⟨by omega, fun b hb => by rw [hk5 b (by omega), hk4 b hb]⟩
        have hbox5 := he5.cells hbox2
        simp only [indexAddr_119_3, indexAddr_119_0, indexAddr_119_1, indexAddr_119_2, indexAddr_119_4, indexAddr_119_5, load_3, fieldAddr_42_1, load_39, cellAt_of hg5, cellAt_of hbox5, onS_some, on2_some, onFn_func, ifV_bool, ifB_true, ifB_false, bin_leq, bin_lss, bin_geq, bin_gtr, bin_eql, bin_neq, un_not, ptrTo, nilck_ptr, nilck_func, Nat.zero_add, Nat.reduceAdd, List.getElem?_cons_zero, List.getElem?_cons_succ, List.drop_zero, List.drop_succ_cons, List.take_succ_cons, List.take_zero, Option.map_some, cells_agg, cells_int, cells_bool, cells_slice, cells_ptr, cells_map, cells_func]
        refine onC_of (pick29_ok hX r0 (by omega)) ?_
        refine ⟨Nat.le_refl _, ?_⟩
        simp only [load_3, cellAt_of hg5, onS_some, on2_some, onFn_func, ifV_bool, ifB_true, ifB_false, bin_leq, bin_lss, bin_geq, bin_gtr, bin_eql, bin_neq, un_not, ptrTo, nilck_ptr, nilck_func, Nat.zero_add, Nat.reduceAdd, List.getElem?_cons_zero, List.getElem?_cons_succ, List.drop_zero, List.drop_succ_cons, List.take_succ_cons, List.take_zero, Option.map_some, cells_agg, cells_int, cells_bool, cells_slice, cells_ptr, cells_map, cells_func]
        refine onC_of (pick29_ok hX r1 (by omega)) ?_
        refine ⟨Nat.le_refl _, ?_⟩
        simp only [load_3, cellAt_of hg5, onS_some, on2_some, onFn_func, ifV_bool, ifB_true, ifB_false, bin_leq, bin_lss, bin_geq, bin_gtr, bin_eql, bin_neq, un_not, ptrTo, nilck_ptr, nilck_func, Nat.zero_add, Nat.reduceAdd, List.getElem?_cons_zero, List.getElem?_cons_succ, List.drop_zero, List.drop_succ_cons, List.take_succ_cons, List.take_zero, Option.map_some, cells_agg, cells_int, cells_bool, cells_slice, cells_ptr, cells_map, cells_func]
        refine onC_of (part30_ok hX r2 r3) ?_
        refine ⟨Nat.le_refl _, ?_⟩
        simp only [load_3, cellAt_of hg5, onS_some, on2_some, onFn_func, ifV_bool, ifB_true, ifB_false, bin_leq, bin_lss, bin_geq, bin_gtr, bin_eql, bin_neq, un_not, ptrTo, nilck_ptr, nilck_func, Nat.zero_add, Nat.reduceAdd, List.getElem?_cons_zero, List.getElem?_cons_succ, List.drop_zero, List.drop_succ_cons, List.take_succ_cons, List.take_zero, Option.map_some, cells_agg, cells_int, cells_bool, cells_slice, cells_ptr, cells_map, cells_func]
        refine onC_of (part30_ok hX r4 r5) ?_
        refine ⟨Nat.le_refl _, ?_⟩
        rw [build_69_0_1_2_3 rfl rfl rfl rfl, onS_some]
        simp only [cells_agg, cells_int, List.cons_append, List.nil_append]
        rw [buildSlice_d, on2_some]
        have p0 := pickS_bounds (c := y0) (n := 3) (by omega)
        have p1 := pickS_bounds (c := y1) (n := 3) (by omega)
        have q1 := part_ok (a := y2) (b := y3)
        have q2 := part_ok (a := y4) (b := y5)
        have hxg : (Deed.mk (pickS y0 3) (pickS y1 3) (partS y2 y3) (partS y4 y5)).Good := by
          refine ⟨?_, by show pickS y0 3 ≤ 2; omega, by show pickS y1 3 ≤ 2; omega, q1.2, q2.2⟩
          simp only [Deed.ok, paperB, q1.1, q2.1, inB, Bool.and_true, Bool.and_eq_true, decide_eq_true_eq]
          omega
        obtain ⟨v', m8, e8, hOw8, hFr8, hlow8, hn8⟩ := Ow.append (m := m5.push (.cells (Deed.mk (pickS y0 3) (pickS y1 3) (partS y2 y3) (partS y4 y5)).c 69 none)) apt_deed (by simp [Rep.tys, Rep.ty]) (hOw2.keepE (he5.push)) (sl_one (x := Deed.mk (pickS y0 3) (pickS y1 3) (partS y2 y3) (partS y4 y5)) rfl) (by rw [M.push_n]; omega) (by rw [hL2]; simp; omega)
        rw [e8, on2_some]
        have hm8n := hFr8.n
        rw [M.push_n] at hm8n
        have h8get : ∀ c, c < mm.n → m8.get c = mk.get c := fun c hc => by rw [hFr8.get c hc, M.get_push_lt (by omega), he5.get c (by omega)]
        have hbox8 : m8.get m6.n = .cells [v1, v2, v3, vd, .slice none 0 0] 42 none := by rw [h8get _ (by omega), hbox2]
        have hv1 : (cells v').all D.one = true := by rw [hOw8.sl.cells]; simp [hOw8.sl.one]
        refine on2_store ty_39 hbox8 (by rw [hOw8.sl.cells]; rfl) (by rw [hOw8.sl.cells]; simp) hv1 fun m9 hn9 hg9 hk9 => ?_
        rw [hOw8.sl.cells] at hg9
        simp only [bin_add, onS_some]
        have he5n := he5.n
        refine ⟨j + 1, by omega, ?_, by omega, hK2.step (by omega) h8get hk9, by omega, v', L2 ++ [_], by rw [hg9]; rfl, hOw8.keep ((KX.mk (Nat.le_of_eq hn9.symm) fun c _ hne => hk9 c hne : KX m6.n m8 m9).keep hbox8 (by simp [Rep.tys, Rep.ty])), by simp [hL2], by omega, fun x hx => ?_⟩
        · rw [wrap64 (by omega) (by omega)]; rfl
        · rcases List.mem_append.1 hx with hx | hx
          · exact hgood2 x hx
          · rw [List.mem_singleton.1 hx]; exact hxg
      · clear hc
        -- the grants
        refine Lp.intro (γ := Nat) (fun j => gl.length - j) (fun j vs mj lo => vs = [.int .i64 j] ∧ j ≤ gl.length ∧ KX m6.n mk mj ∧ m.n ≤ lo ∧ ∃ vg L3, mj.get m6.n = .cells [v1, v2, v3, vd, vg] 42 none ∧ Ow mk.n mj L3 vg ∧ L3.length = j ∧ j ≤ 6 ∧ ∀ x ∈ L3, x.Good) 0 ⟨rfl, Nat.zero_le _, .refl, by omega, .slice none 0 0, ([] : List Grant), hbox2, .nil, rfl, by omega, fun x hx => by cases hx⟩ ?_
        rintro t vs mj lo3 ⟨rfl, ht, hK3, hlo3, vg, L3, hbox3, hOw3, hL3, ht8, hgood3⟩
        have hnum3 := hK3.cells hnum2 (by omega)
        have hE3 := hK3.ext hE2 (by omega)
        have hmn3 := hK3.n
        rw [un_cons]
        refine jn_of (fun vs m' lo' => vs = [.bool (decide (t < gl.length) && decide (t < 6))] ∧ mj = m' ∧ lo3 = lo') (fun R hR => ?_) ?_
        · simp only [onS_some, on2_some, onFn_func, ifV_bool, ifB_true, ifB_false, bin_leq, bin_lss, bin_geq, bin_gtr, bin_eql, bin_neq, un_not, ptrTo, nilck_ptr, nilck_func, Nat.zero_add, Nat.reduceAdd, List.getElem?_cons_zero, List.getElem?_cons_succ, List.drop_zero, List.drop_succ_cons, List.take_succ_cons, List.take_zero, Option.map_some, cells_agg, cells_int, cells_bool, cells_slice, cells_ptr, cells_map, cells_func, build_42_0, build_69_0_1_2_3, build_71_0_1_2_3_4, fieldAddr_29_0, fieldAddr_29_1, fieldAddr_29_2, fieldAddr_29_3, fieldAddr_38_0, fieldAddr_42_0, fieldAddr_42_1, fieldAddr_42_2, fieldAddr_64_4, len_22, len_26, len_27, len_34, load_119, load_121, load_22, load_25, load_26, load_27, load_3, load_34, load_39, load_40, load_42, ty_119, ty_121, ty_22, ty_26, ty_27, ty_3, ty_34, ty_39, ty_40, ty_42, cellAt_of hnum3, (h6.keepE hE3).len slt_ar7]
          have e : decide ((t : Int) < 6) = decide (t < 6) := by by_cases h : t < 6 <;> simp [h] <;> omega
          have e'' : decide ((t : Int) < (gl.length : Int)) = decide (t < gl.length) := by by_cases h : t < gl.length <;> simp [h]
          rw [e, e'']
          refine ifB_intro (fun hc => hR _ _ _ ⟨by rw [hc]; rfl, rfl, rfl⟩) (fun hc => hR _ _ _ ⟨by rw [hc]; rfl, rfl, rfl⟩)
        rintro _ _ _ ⟨rfl, rfl, rfl⟩
        rw [un_cons, ifV_bool]
        refine ifB_intro (fun hc => ?_) (fun hc => ?_)
        · simp only [Bool.and_eq_true, decide_eq_true_eq] at hc
          obtain ⟨hlt, h8⟩ := hc
          have hx : gl[t]? = some gl[t] := List.getElem?_eq_getElem hlt
          obtain ⟨p, cs, e1, e2, rfl⟩ := (h6.keepE hE3).index slt_ar7 (k := .i64) hx
          obtain ⟨y0, y1, y2, y3, y4, y5, y6, hy, r0, r1, r2, r3, r4, r5, r6⟩ := gl[t].seven
          rw [hy] at e2
          simp only [fieldAddr_29_3, load_27, cellAt_of hnum3, onS_some, on2_some, onFn_func, ifV_bool, ifB_true, ifB_false, bin_leq, bin_lss, bin_geq, bin_gtr, bin_eql, bin_neq, un_not, ptrTo, nilck_ptr, nilck_func, Nat.zero_add, Nat.reduceAdd, List.getElem?_cons_zero, List.getElem?_cons_succ, List.drop_zero, List.drop_succ_cons, List.take_succ_cons, List.take_zero, Option.map_some, cells_agg, cells_int, cells_bool, cells_slice, cells_ptr, cells_map, cells_func]
          rw [e1, onS_some, e2, onS_some, val_agg rfl]
          refine onM_push fun m4 hn4 hg4 hk4 => ?_
          refine on2_storeV ty_121 hg4 (by rfl) (by rfl) rfl fun m5 hn5 hg5 hk5 => ?_
          simp only [cells_agg, List.map_cons, List.map_nil] at hg5
          have he5 : Ext mj m5 := ⟨by omega, fun b hb => by rw [hk5 b (by omega), hk4 b hb]⟩
          have hbox5 := he5.cells hbox3
          simp only [indexAddr_121_3, indexAddr_121_0, indexAddr_121_1, indexAddr_121_2, indexAddr_121_4, indexAddr_121_5, indexAddr_121_6, load_3, fieldAddr_42_2, load_40, cellAt_of hg5, cellAt_of hbox5, onS_some, on2_some, onFn_func, ifV_bool, ifB_true, ifB_false, bin_leq, bin_lss, bin_geq, bin_gtr, bin_eql, bin_neq, un_not, ptrTo, nilck_ptr, nilck_func, Nat.zero_add, Nat.reduceAdd, List.getElem?_cons_zero, List.getElem?_cons_succ, List.drop_zero, List.drop_succ_cons, List.take_succ_cons, List.take_zero, Option.map_some, cells_agg, cells_int, cells_bool, cells_slice, cells_ptr, cells_map, cells_func]
          refine onC_of (pick29_ok hX r0 (by omega)) ?_
          refine ⟨Nat.le_refl _, ?_⟩
          simp only [load_3, cellAt_of hg5, onS_some, on2_some, onFn_func, ifV_bool, ifB_true, ifB_false, bin_leq, bin_lss, bin_geq, bin_gtr, bin_eql, bin_neq, un_not, ptrTo, nilck_ptr, nilck_func, Nat.zero_add, Nat.reduceAdd, List.getElem?_cons_zero, List.getElem?_cons_succ, List.drop_zero, List.drop_succ_cons, List.take_succ_cons, List.take_zero, Option.map_some, cells_agg, cells_int, cells_bool, cells_slice, cells_ptr, cells_map, cells_func]
          refine onC_of (pick29_ok hX r6 (by omega)) ?_
          refine ⟨Nat.le_refl _, ?_⟩
          have p6 := pickS_bounds (c := y6) (n := 9) (by omega)
          rw [bin_add, onS_some, wrap64 (by omega) (by omega)]
          simp only [load_3, cellAt_of hg5, onS_some, on2_some, onFn_func, ifV_bool, ifB_true, ifB_false, bin_leq, bin_lss, bin_geq, bin_gtr, bin_eql, bin_neq, un_not, ptrTo, nilck_ptr, nilck_func, Nat.zero_add, Nat.reduceAdd, List.getElem?_cons_zero, List.getElem?_cons_succ, List.drop_zero, List.drop_succ_cons, List.take_succ_cons, List.take_zero, Option.map_some, cells_agg, cells_int, cells_bool, cells_slice, cells_ptr, cells_map, cells_func]
          refine onC_of (pick29_ok hX r1 (by omega)) ?_
          refine ⟨Nat.le_refl _, ?_⟩
          simp only [load_3, cellAt_of hg5, onS_some, on2_some, onFn_func, ifV_bool, ifB_true, ifB_false, bin_leq, bin_lss, bin_geq, bin_gtr, bin_eql, bin_neq, un_not, ptrTo, nilck_ptr, nilck_func, Nat.zero_add, Nat.reduceAdd, List.getElem?_cons_zero, List.getElem?_cons_succ, List.drop_zero, List.drop_succ_cons, List.take_succ_cons, List.take_zero, Option.map_some, cells_agg, cells_int, cells_bool, cells_slice, cells_ptr, cells_map, cells_func]
          refine onC_of (part30_ok hX r2 r3) ?_
          refine ⟨Nat.le_refl _, ?_⟩
          simp only [load_3, cellAt_of hg5, onS_some, on2_some, onFn_func, ifV_bool, ifB_true, ifB_false, bin_leq, bin_lss, bin_geq, bin_gtr, bin_eql, bin_neq, un_not, ptrTo, nilck_ptr, nilck_func, Nat.zero_add, Nat.reduceAdd, List.getElem?_cons_zero, List.getElem?_cons_succ, List.drop_zero, List.drop_succ_cons, List.take_succ_cons, List.take_zero, Option.map_some, cells_agg, cells_int, cells_bool, cells_slice, cells_ptr, cells_map, cells_func]
          refine onC_of (part30_ok hX r4 r5) ?_
          refine ⟨Nat.le_refl _, ?_⟩
          rw [build_71_0_1_2_3_4 rfl rfl rfl rfl rfl, onS_some]
          simp only [cells_agg, cells_int, List.cons_append, List.nil_append]
          rw [buildSlice_g, on2_some]
          have p0 := pickS_bounds (c := y0) (n := 3) (by omega)
          have p1 := pickS_bounds (c := y1) (n := 3) (by omega)
          have q1 := part_ok (a := y2) (b := y3)
          have q2 := part_ok (a := y4) (b := y5)
          have hxg : (Grant.mk (pickS y0 3) (1 + pickS y6 9) (pickS y1 3) (partS y2 y3) (partS y4 y5)).Good := by
            refine ⟨?_, by show pickS y0 3 ≤ 2; omega, by show pickS y1 3 ≤ 2; omega, q1.2, q2.2⟩
            simp only [Grant.ok, paperB, q1.1, q2.1, inB, Bool.and_true, Bool.and_eq_true, decide_eq_true_eq]
            omega
          obtain ⟨v', m8, e8, hOw8, hFr8, hlow8, hn8⟩ := Ow.append (m := m5.push (.cells (Grant.mk (pickS y0 3) (1 + pickS y6 9) (pickS y1 3) (partS y2 y3) (partS y4 y5)).c 71 none)) apt_grant (by simp [Rep.tys, Rep.ty]) (hOw3.keepE (he5.push)) (sl_one (x := Grant.mk (pickS y0 3) (1 + pickS y6 9) (pickS y1 3) (partS y2 y3) (partS y4 y5)) rfl) (by rw [M.push_n]; omega) (by rw [hL3]; simp; omega)
          rw [e8, on2_some]
          have hm8n := hFr8.n
          rw [M.push_n] at hm8n
          have h8get : ∀ c, c < mk.n → m8.get c = mj.get c := fun c hc => by rw [hFr8.get c hc, M.get_push_lt (by omega), he5.get c (by omega)]
          have hbox8 : m8.get m6.n = .cells [v1, v2, v3, vd, vg] 42 none := by rw [h8get _ (by omega), hbox3]
          have hv1 : (cells v').all D.one = true := by rw [hOw8.sl.cells]; simp [hOw8.sl.one]
          refine on2_store ty_40 hbox8 (by rw [hOw8.sl.cells]; rfl) (by rw [hOw8.sl.cells]; simp) hv1 fun m9 hn9 hg9 hk9 => ?_
          rw [hOw8.sl.cells] at hg9
          simp only [bin_add, onS_some]
          have he5n := he5.n
          refine ⟨t + 1, by omega, ?_, by omega, hK3.step (by omega) h8get hk9, by omega, v', L3 ++ [_], by rw [hg9]; rfl, hOw8.keep ((KX.mk (Nat.le_of_eq hn9.symm) fun c _ hne => hk9 c hne : KX m6.n m8 m9).keep hbox8 (by simp [Rep.tys, Rep.ty])), by simp [hL3], by omega, fun x hx => ?_⟩
          · rw [wrap64 (by omega) (by omega)]; rfl
          · rcases List.mem_append.1 hx with hx | hx
            · exact hgood3 x hx
            · rw [List.mem_singleton.1 hx]; exact hxg
        · clear hc
          have hK23 : KX m6.n mm mj := hK2.trans ⟨hK3.n, fun c hc => hK3.get c (by omega)⟩
          have hk23 := fun (ts : List TypeId) (h : 42 ∉ ts) => hK23.keep hbox (ts := ts) h
          have fC := hOw.sl.keep (hk23 [64, 3] (by simp))
          have fR := hR.keep (hk23 [92] (by simp))
          have fF := hF.keep (hk23 [66] (by simp))
          have fD := hOw2.sl.keep (hK3.keep hbox2 (ts := [69]) (by simp))
          rw [load_42, loadCells_of hbox3 (by simp)]
          simp only [Option.map_some, onS_some]
          have hb2' : mj.get m1.n = .cells [.slice none 0 0, .slice none 0 0, .slice none 0 0, .slice none 0 0, .slice none 0 0] 42 none := hK23.cells (by rw [hfr _ (by omega), hE10.cells hb2]) (by omega)
          have o4 := fD.one
          have o5 := hOw3.sl.one
          refine on2_storeV ty_42 hb2' (by rfl) (by rfl) (by simp [cells_agg, o1, o2, o3, o4, o5]) fun m9 hn9 hg9 hk9 => ?_
          rw [load_42, loadCells_of hg9 (by simp [cells_agg])]
          simp only [Option.map_some, onS_some]
          have hE9 : Ext m m9 := ⟨by have := hE3.n; omega, fun c hc => by rw [hk9 c (by omega), hE3.get c hc]⟩
          have hk9' := fun (ts : List TypeId) (h : 42 ∉ ts) => (⟨Nat.le_of_eq hn9.symm, fun c _ hne => hk9 c hne⟩ : KX m1.n mj m9).keep hb2' (ts := ts) h
          have f1 := fC.keep (hk9' [64, 3] (by simp))
          have f2 := fR.keep (hk9' [92] (by simp))
          have f3 := fF.keep (hk9' [66] (by simp))
          have f4 := fD.keep (hk9' [69] (by simp))
          have f5 := hOw3.sl.keep (hk9' [71] (by simp))
          have hgd' : (Registry.mk (Law.mk L l.repeals l.facts) L2 L3).Good := ⟨hfair, fun x hx => by rw [show (Registry.mk (Law.mk L l.repeals l.facts) L2 L3).law.clauses = L from rfl, hL]; exact hgd.rs x hx, hgd.fs, hgood2, hgood3, by show L.length ≤ 8; omega, hgd.nr, hgd.nf, by show L2.length ≤ 6; omega, by show L3.length ≤ 6; omega⟩
          have hv : mkres [Value.agg (List.take 5 (List.drop 0 (cells (Value.agg (List.take 5 (List.drop 0 [v1, v2, v3, vd, vg])).toArray)))).toArray] = .agg #[v1, v2, v3, vd, vg] := rfl
          rw [hv]
          by_cases hflat : flat2 (.agg #[v1, v2, v3, vd, vg]) = true
          · refine .inl ⟨hflat, by omega, Registry.mk (Law.mk L l.repeals l.facts) L2 L3, v1, v2, v3, vd, vg, rfl, by trivial, ?_, hgd', .refl⟩
            have hs : ∀ {α : Type} [Rep α] {l : List α} {v : Value}, Sl m9 l v → flat0 v = true → Sl m l v := fun h hf => by
              rcases h with ⟨rfl, rfl⟩ | ⟨b, o, c, bc, g, rfl, _⟩
              · exact .nil
              · simp [flat0] at hf
            have hfl : ∀ v ∈ [v1, v2, v3, vd, vg], flat0 v = true := List.all_eq_true.1 hflat
            exact ⟨⟨hs f1 (hfl _ (by simp)), hs f2 (hfl _ (by simp)), hs f3 (hfl _ (by simp))⟩, hs f4 (hfl _ (by simp)), hs f5 (hfl _ (by simp))⟩
          · exact .inr ⟨.inl (by simpa using hflat), Registry.mk (Law.mk L l.repeals l.facts) L2 L3, v1, v2, v3, vd, vg, rfl, by omega, ⟨⟨f1, f2, f3⟩, f4, f5⟩, hgd', hE9⟩
end Go.Proofs.YtbpmlholiohkpaaGreatDoor

/- Contracts: how integers determine wishes: Wish. -/
namespace Go.Proofs.YtbpmlholiohkpaaGreatDoor
open Go Go.D
variable {X : CallFn} {m : M}
def wishKind (cl : List Clause) (a : Int) : Int :=
  match cl[(pickS (a.tdiv 9) cl.length).toNat]? with
  | some c => if 1 ≤ c.gives - 10 then c.gives - 10 else 1 + pickS a 9
  | none => 1 + pickS a 9
def wishS (cl : List Clause) (a b c d e : Int) : Wish := ⟨wishKind cl a, pickS b 3, pickS c 3, pickS d 100, pickS e 100⟩
theorem wishKind_bounds {cl : List Clause} (h : ∀ x ∈ cl, x.gives ≤ 19) (a : Int) : 1 ≤ wishKind cl a ∧ wishKind cl a ≤ 9 := by
  have p := pickS_bounds (c := a) (n := 9) (by omega)
  unfold wishKind
  split
  · rename_i c hc
    have := h c (List.mem_of_getElem? hc)
    split <;> omega
  · omega
theorem Clause.Fair.g {x : Clause} (h : x.Fair) : 0 ≤ x.gives ∧ x.gives ≤ 19 := by
  have h3 := h.ok
  simp only [Clause.ok, Bool.and_eq_true, inB, decide_eq_true_eq] at h3
  exact h3.2.2.1
theorem wishS_ok {cl : List Clause} (h : ∀ x ∈ cl, x.Fair) (a b c d e : Int) : (wishS cl a b c d e).ok = true := by
  have h1 := wishKind_bounds (fun x hx => (h x hx).g.2) a
  have h2 := pickS_bounds (c := b) (n := 3) (by omega)
  have h3 := pickS_bounds (c := c) (n := 3) (by omega)
  have h4 := pickS_bounds (c := d) (n := 100) (by omega)
  have h5 := pickS_bounds (c := e) (n := 100) (by omega)
  refine (show (inB (pickS d 100) 0 799999 && (inB (pickS e 100) 0 799999 && (inB (wishKind cl a) 1 9 && (inB (pickS b 3) 0 99 && inB (pickS c 3) 0 50)))) = true from ?_)
  simp only [inB, Bool.and_eq_true, decide_eq_true_eq]
  omega
theorem tdiv9 {a : Int} (h1 : -9223372036854775808 ≤ a) (h2 : a < 9223372036854775808) : -9223372036854775808 ≤ a.tdiv 9 ∧ a.tdiv 9 < 9223372036854775808 := by
  rcases Int.le_total 0 a with h | h
  · rw [Int.tdiv_eq_ediv_of_nonneg h]
    omega
  · have : a.tdiv 9 = -((-a) / 9) := by rw [← Int.tdiv_eq_ediv_of_nonneg (by omega), Int.neg_tdiv, Int.neg_neg]
    rw [this]
    omega
theorem wish_ok (hX : NoX X) {r : Registry} {v1 v2 v3 v4 v5 : Value} (hr : RegV m r v1 v2 v3 v4 v5) (hc : ∀ x ∈ r.law.clauses, x.Fair) (hs : r.law.clauses.length < 1000000000000) {a b c d e : Int} (r0 : InR a) (r1 : InR b) (r2 : InR c) (r3 : InR d) (r4 : InR e) :
    C X (.func 10) [.agg #[v1, v2, v3, v4, v5], .agg #[.int .i64 a, .int .i64 b, .int .i64 c, .int .i64 d, .int .i64 e]] m m.n (wishS r.law.clauses a b c d e).v m := by
  refine Cl.flatJ (hX.no 10 rfl) fn_10 rfl rfl ?_
  rw [FJ10]
  refine onM_push fun m1 hn1 hg1 hk1 => ?_
  refine onM_push fun m2 hn2 hg2 hk2 => ?_
  refine onM_push fun m3 hn3 hg3 hk3 => ?_
  have hb1 := (hk3 m.n (by omega)).trans ((hk2 m.n (by omega)).trans hg1)
  have hb2 := (hk3 m1.n (by omega)).trans hg2
  simp only [cells_agg] at hb1 hb2
  have he3 : Ext m m3 := ⟨by omega, fun b hb => by rw [hk3 b (by omega), hk2 b (by omega), hk1 b hb]⟩
  simp only [ptrTo, indexAddr_30_0, indexAddr_30_1, indexAddr_30_2, indexAddr_30_3, indexAddr_30_4, load_3, cellAt_of hb2, onS_some, on2_some, onFn_func, ifV_bool, ifB_true, ifB_false, bin_leq, bin_lss, bin_geq, bin_gtr, bin_eql, bin_neq, un_not, ptrTo, nilck_ptr, nilck_func, Nat.zero_add, Nat.reduceAdd, List.getElem?_cons_zero, List.getElem?_cons_succ, List.drop_zero, List.drop_succ_cons, List.take_succ_cons, List.take_zero, Option.map_some, cells_agg, cells_int, cells_bool, cells_slice, cells_ptr, cells_map, cells_func]
  have h1 := pickS_bounds (c := a) (n := 9) (by omega)
  have h2 := pickS_bounds (c := b) (n := 3) (by omega)
  have h3 := pickS_bounds (c := c) (n := 3) (by omega)
  have h4 := pickS_bounds (c := d) (n := 100) (by omega)
  have h5 := pickS_bounds (c := e) (n := 100) (by omega)
  refine onC_of (pick29_ok hX r0 (by omega)) ?_
  refine ⟨Nat.le_refl _, ?_⟩
  rw [bin_add, onS_some, wrap64 (by omega) (by omega)]
  simp only [load_3, cellAt_of hb2, onS_some, on2_some, onFn_func, ifV_bool, ifB_true, ifB_false, bin_leq, bin_lss, bin_geq, bin_gtr, bin_eql, bin_neq, un_not, ptrTo, nilck_ptr, nilck_func, Nat.zero_add, Nat.reduceAdd, List.getElem?_cons_zero, List.getElem?_cons_succ, List.drop_zero, List.drop_succ_cons, List.take_succ_cons, List.take_zero, Option.map_some, cells_agg, cells_int, cells_bool, cells_slice, cells_ptr, cells_map, cells_func]
  refine onC_of (pick29_ok hX r1 (by omega)) ?_
  refine ⟨Nat.le_refl _, ?_⟩
  simp only [load_3, cellAt_of hb2, onS_some, on2_some, onFn_func, ifV_bool, ifB_true, ifB_false, bin_leq, bin_lss, bin_geq, bin_gtr, bin_eql, bin_neq, un_not, ptrTo, nilck_ptr, nilck_func, Nat.zero_add, Nat.reduceAdd, List.getElem?_cons_zero, List.getElem?_cons_succ, List.drop_zero, List.drop_succ_cons, List.take_succ_cons, List.take_zero, Option.map_some, cells_agg, cells_int, cells_bool, cells_slice, cells_ptr, cells_map, cells_func]
  refine onC_of (pick29_ok hX r2 (by omega)) ?_
  refine ⟨Nat.le_refl _, ?_⟩
  simp only [load_3, cellAt_of hb2, onS_some, on2_some, onFn_func, ifV_bool, ifB_true, ifB_false, bin_leq, bin_lss, bin_geq, bin_gtr, bin_eql, bin_neq, un_not, ptrTo, nilck_ptr, nilck_func, Nat.zero_add, Nat.reduceAdd, List.getElem?_cons_zero, List.getElem?_cons_succ, List.drop_zero, List.drop_succ_cons, List.take_succ_cons, List.take_zero, Option.map_some, cells_agg, cells_int, cells_bool, cells_slice, cells_ptr, cells_map, cells_func]
  refine onC_of (pick29_ok hX r3 (by omega)) ?_
  refine ⟨Nat.le_refl _, ?_⟩
  simp only [load_3, cellAt_of hb2, onS_some, on2_some, onFn_func, ifV_bool, ifB_true, ifB_false, bin_leq, bin_lss, bin_geq, bin_gtr, bin_eql, bin_neq, un_not, ptrTo, nilck_ptr, nilck_func, Nat.zero_add, Nat.reduceAdd, List.getElem?_cons_zero, List.getElem?_cons_succ, List.drop_zero, List.drop_succ_cons, List.take_succ_cons, List.take_zero, Option.map_some, cells_agg, cells_int, cells_bool, cells_slice, cells_ptr, cells_map, cells_func]
  refine onC_of (pick29_ok hX r4 (by omega)) ?_
  refine ⟨Nat.le_refl _, ?_⟩
  rw [build_45_0_1_2_3_4 rfl rfl rfl rfl rfl, onS_some]
  refine onM_push fun m4 hn4 hg4 hk4 => ?_
  refine on2_storeV ty_45 hg4 (by rfl) (by rfl) rfl fun m5 hn5 hg5 hk5 => ?_
  simp only [cells_agg, cells_int, List.cons_append, List.nil_append] at hg5
  have he5 : Ext m3 m5 := ⟨by omega, fun b hb => by rw [hk5 b (by omega), hk4 b hb]⟩
  have hb1' := he5.cells hb1
  have hb2' := he5.cells hb2
  have hb3' := he5.cells hg3
  have hC := hr.law.clauses.keepE (he3.trans he5)
  simp only [fieldAddr_42_0, fieldAddr_38_0, load_34, cellAt_of hb1', hC.len slt_clause, onS_some, on2_some, onFn_func, ifV_bool, ifB_true, ifB_false, bin_leq, bin_lss, bin_geq, bin_gtr, bin_eql, bin_neq, un_not, ptrTo, nilck_ptr, nilck_func, Nat.zero_add, Nat.reduceAdd, List.getElem?_cons_zero, List.getElem?_cons_succ, List.drop_zero, List.drop_succ_cons, List.take_succ_cons, List.take_zero, Option.map_some, cells_agg, cells_int, cells_bool, cells_slice, cells_ptr, cells_map, cells_func]
  refine ifB_intro (fun hpos => ?_) (fun hneg => ?_)
  · have hpos' : 0 < r.law.clauses.length := by simp only [decide_eq_true_eq] at hpos; omega
    simp only [fieldAddr_42_0, fieldAddr_38_0, load_34, load_3, cellAt_of hb1', cellAt_of hb2', hC.len slt_clause, onS_some, on2_some, onFn_func, ifV_bool, ifB_true, ifB_false, bin_leq, bin_lss, bin_geq, bin_gtr, bin_eql, bin_neq, un_not, ptrTo, nilck_ptr, nilck_func, Nat.zero_add, Nat.reduceAdd, List.getElem?_cons_zero, List.getElem?_cons_succ, List.drop_zero, List.drop_succ_cons, List.take_succ_cons, List.take_zero, Option.map_some, cells_agg, cells_int, cells_bool, cells_slice, cells_ptr, cells_map, cells_func]
    have hq := tdiv9 r0.1 r0.2
    rw [bin_quo (by decide), onS_some, wrap64 hq.1 hq.2]
    refine onC_of (pick29_ok hX ⟨hq.1, hq.2⟩ (by omega)) ?_
    refine ⟨Nat.le_refl _, ?_⟩
    have pq := pickS_bounds (c := a.tdiv 9) (n := r.law.clauses.length) (by omega)
    have hlt : (pickS (a.tdiv 9) r.law.clauses.length).toNat < r.law.clauses.length := by omega
    have hx : r.law.clauses[(pickS (a.tdiv 9) r.law.clauses.length).toNat]? = some r.law.clauses[(pickS (a.tdiv 9) r.law.clauses.length).toNat] := List.getElem?_eq_getElem hlt
    obtain ⟨bb, o, bc, g, cs, ea, hgb, hrep, hob, hcs⟩ := hC.indexA slt_clause (k := .i64) hx
    rw [show (((pickS (a.tdiv 9) r.law.clauses.length).toNat : Nat) : Int) = pickS (a.tdiv 9) r.law.clauses.length by omega] at ea
    rw [ea, onS_some, fieldAddr_64_4, onS_some, load_3, cellAt_of hgb, hcs 5 (by decide)]
    obtain ⟨vn, vb, rfl, _⟩ := hrep
    have hgv := (hc _ (List.getElem_mem hlt)).g
    rw [show (Clause.cs r.law.clauses[(pickS (a.tdiv 9) r.law.clauses.length).toNat] vn vb)[5]? = some (.int .i64 r.law.clauses[(pickS (a.tdiv 9) r.law.clauses.length).toNat].gives) from rfl, onS_some]
    have hkd : wishKind r.law.clauses a = if 1 ≤ r.law.clauses[(pickS (a.tdiv 9) r.law.clauses.length).toNat].gives - 10 then r.law.clauses[(pickS (a.tdiv 9) r.law.clauses.length).toNat].gives - 10 else 1 + pickS a 9 := by
      unfold wishKind
      rw [hx]
    generalize r.law.clauses[(pickS (a.tdiv 9) r.law.clauses.length).toNat].gives = gv at hgv hkd ⊢
    rw [bin_sub, onS_some, wrap64 (by omega) (by omega), bin_geq, onS_some, ifV_bool]
    refine ifB_intro (fun hp => ?_) (fun hp => ?_)
    · simp only [decide_eq_true_eq] at hp
      rw [if_pos hp] at hkd
      simp only [fieldAddr_45_0, onS_some]
      refine on2_store ty_3 hg5 (by rfl) (by simp [cells_int]) rfl fun m6 hn6 hg6 hk6 => ?_
      rw [load_45, loadCells_of hg6 (by simp [cells_int])]
      simp only [Option.map_some, onS_some]
      have hb3'' := (hk6 _ (by omega)).trans hb3'
      refine on2_storeV ty_45 hb3'' (by rfl) (by rfl) rfl fun m7 hn7 hg7 hk7 => ?_
      rw [load_45, loadCells_of (o := 0) (n := 5) hg7 (Nat.le_refl 5)]
      simp only [Option.map_some, onS_some]
      refine ⟨?_, by omega⟩
      simp only [wishS, hkd]
      rfl
    · simp only [decide_eq_false_iff_not] at hp
      rw [if_neg hp] at hkd
      rw [load_45, loadCells_of hg5 (by simp)]
      simp only [Option.map_some, onS_some]
      refine on2_storeV ty_45 hb3' (by rfl) (by rfl) rfl fun m7 hn7 hg7 hk7 => ?_
      rw [load_45, loadCells_of (o := 0) (n := 5) hg7 (Nat.le_refl 5)]
      simp only [Option.map_some, onS_some]
      refine ⟨?_, by omega⟩
      simp only [wishS, hkd]
      rfl
  · have hnil : r.law.clauses = [] := by
      simp only [decide_eq_false_iff_not] at hneg
      exact List.eq_nil_of_length_eq_zero (by omega)
    have hkd : wishKind r.law.clauses a = 1 + pickS a 9 := by rw [hnil]; rfl
    rw [load_45, loadCells_of hg5 (by simp)]
    simp only [Option.map_some, onS_some]
    refine on2_storeV ty_45 hb3' (by rfl) (by rfl) rfl fun m7 hn7 hg7 hk7 => ?_
    rw [load_45, loadCells_of (o := 0) (n := 5) hg7 (Nat.le_refl 5)]
    simp only [Option.map_some, onS_some]
    refine ⟨?_, by omega⟩
    simp only [wishS, hkd]
    rfl
end Go.Proofs.YtbpmlholiohkpaaGreatDoor

/- Numbers that determine a registry. -/
namespace Go.Proofs.YtbpmlholiohkpaaGreatDoor
open Go Go.D
variable {X : CallFn} {m : M}
/-- Numbers that determine a registry, as they lie in the store. -/
def NumV (m : M) (v : Value) : Prop :=
  ∃ (cl : List (Ar 6)) (rl : List (Ar 3)) (fl : List (Ar 6)) (ks : List Int) (dl : List (Ar 6)) (gl : List (Ar 7)) (s1 s2 s3 s4 s5 s6 : Value), v = .agg #[s1, s2, s3, s4, s5, s6] ∧ SlI m cl s1 ∧ SlI m rl s2 ∧ SlI m fl s3 ∧ SlI m ks s4 ∧ SlI m dl s5 ∧ SlI m gl s6 ∧
    (∀ z ∈ ks, InR z) ∧ cl.length < 9223372036854775808 ∧ rl.length < 9223372036854775808 ∧ fl.length < 9223372036854775808 ∧ dl.length < 9223372036854775808 ∧ gl.length < 9223372036854775808
theorem NumV.keepE {m' : M} {v : Value} (h : NumV m v) (he : Ext m m') : NumV m' v := by
  obtain ⟨cl, rl, fl, ks, dl, gl, s1, s2, s3, s4, s5, s6, e, h1, h2, h3, h4, h5, h6, h7⟩ := h
  exact ⟨cl, rl, fl, ks, dl, gl, s1, s2, s3, s4, s5, s6, e, h1.keepE he, h2.keepE he, h3.keepE he, h4.keepE he, h5.keepE he, h6.keepE he, h7⟩
theorem NumV.made (hX : NoX X) {v : Value} (h : NumV m v) : ∃ r v1 v2 v3 v4 v5 m', C X (.func 9) [v] m m.n (.agg #[v1, v2, v3, v4, v5]) m' ∧ RegV m' r v1 v2 v3 v4 v5 ∧ r.Good ∧ Ext m m' := by
  obtain ⟨cl, rl, fl, ks, dl, gl, s1, s2, s3, s4, s5, s6, rfl, h1, h2, h3, h4, h5, h6, h7, z1, z2, z3, z5, z6⟩ := h
  exact made32_ok hX h1 h2 h3 h4 h5 h6 h7 z1 z2 z3 z5 z6
theorem NumV.form {v : Value} (h : NumV m v) : ∃ s1 s2 s3 s4 s5 s6, v = .agg #[s1, s2, s3, s4, s5, s6] := by
  obtain ⟨_, _, _, _, _, _, s1, s2, s3, s4, s5, s6, rfl, _⟩ := h
  exact ⟨s1, s2, s3, s4, s5, s6, rfl⟩
theorem RegV.ones {r : Registry} {v1 v2 v3 v4 v5 : Value} (h : RegV m r v1 v2 v3 v4 v5) : one v1 = true ∧ one v2 = true ∧ one v3 = true ∧ one v4 = true ∧ one v5 = true := ⟨h.law.clauses.one, h.law.repeals.one, h.law.facts.one, h.deeds.one, h.grants.one⟩
end Go.Proofs.YtbpmlholiohkpaaGreatDoor
