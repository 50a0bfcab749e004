/- The law PermitDecides. -/
import Derived.Test.YtbpmlholiohkpaaGreatDoorC7
import Derived.Test.YtbpmlholiohkpaaGreatDoorFk3
/- The law PermitDecides. -/
namespace Go.Proofs.YtbpmlholiohkpaaGreatDoor
open Go Go.D
variable {X : CallFn} {m : M}
theorem indexAddr_32_0 {b o : Nat} : indexAddr? Tab.env 32 (.pointer (some ⟨b, o, none⟩)) (.int .i64 0) = some (.pointer (some ⟨b, o + 0, none⟩)) := by
  rw [show indexAddr? Tab.env 32 (.pointer (some ⟨b, o, none⟩)) (.int .i64 0) = some (.pointer (some (Addr.add ⟨b, o, none⟩ 0))) by kernel_rfl, addr_add rfl]
theorem indexAddr_32_1 {b o : Nat} : indexAddr? Tab.env 32 (.pointer (some ⟨b, o, none⟩)) (.int .i64 1) = some (.pointer (some ⟨b, o + 3, none⟩)) := by
  rw [show indexAddr? Tab.env 32 (.pointer (some ⟨b, o, none⟩)) (.int .i64 1) = some (.pointer (some (Addr.add ⟨b, o, none⟩ 3))) by kernel_rfl, addr_add rfl]
theorem bin_neqB {a b : Bool} : bin? Tab.env .neq 4 (.bool a) (.bool b) = some (.bool (!(a == b))) := by
  simp only [bin?, eq?, show Tab.env.ty.get 4 = some Tab.t4 by kernel_rfl, Tab.t4, Option.map_some]
/-- Decisions. -/
structure Dec where
  a : Bool
  n : Bool
  lst : List Finding
  d : Int
  g : Int
instance repDec : Rep Dec where
  ty := 49
  sz := 5
  agg := true
  tys := [150]
  rep := fun m x cs => ∃ pv, cs = [.bool x.a, .bool x.n, pv, .int .i64 x.d, .int .i64 x.g] ∧ Sl m x.lst pv
  pos := by decide
  one := fun h => by cases h
  len := by rintro _ _ _ ⟨pv, rfl, _⟩; rfl
  ones := by rintro _ _ _ ⟨pv, rfl, h1⟩; simp only [List.all_cons, List.all_nil, h1.one]; rfl
  keep := by
    rintro m m' x cs ⟨pv, rfl, h1⟩ hk
    exact ⟨pv, rfl, h1.keep fun b c t g hb ht => hk b c t g hb (by simpa [Rep.ty, Rep.tys] using ht)⟩
theorem slt_dec : SlT Tab.env 58 49 Dec := ⟨Tab.t58, Tab.t49, by kernel_rfl, ⟨_, rfl⟩, rfl, by kernel_rfl, rfl, rfl⟩
theorem buildSlice_d2 {a1 a2 a3 a4 a5 b1 b2 b3 b4 b5 : Value} : buildSlice? Tab.env m 58 2 [(0, .agg #[a1, a2, a3, a4, a5]), (1, .agg #[b1, b2, b3, b4, b5])] = some (.slice (some ⟨m.n, 0, none⟩) 2 2, m.push (.cells [a1, a2, a3, a4, a5, b1, b2, b3, b4, b5] 49 none)) := by
  simp only [buildSlice?, show Tab.env.ty.get 58 = some Tab.t58 by kernel_rfl, Tab.t58, show zero? Tab.env 49 = some (.agg #[.bool false, .bool false, .slice none 0 0, .int .i64 0, .int .i64 0]) by kernel_rfl, cells_agg]
  rfl
theorem sl_two {x y : Dec} {p q : Value} (h1 : Sl m x.lst p) (h2 : Sl m y.lst q) : Sl (m.push (.cells [.bool x.a, .bool x.n, p, .int .i64 x.d, .int .i64 x.g, .bool y.a, .bool y.n, q, .int .i64 y.d, .int .i64 y.g] 49 none)) [x, y] (.slice (some ⟨m.n, 0, none⟩) 2 2) := by
  refine .inr ⟨m.n, 0, 2, _, none, rfl, M.get_push_new, (by show (0 + 2 * 5 : Nat) ≤ 10; decide), fun j z hj => ?_⟩
  match j, hj with
  | 0, hj => simp at hj; subst hj; exact ⟨p, rfl, h1.keepE Ext.refl.push⟩
  | 1, hj => simp at hj; subst hj; exact ⟨q, rfl, h2.keepE Ext.refl.push⟩
  | j + 2, hj => simp at hj
theorem permitDecides_ok (hX : NoX X) (h8 : ∀ m : M, 0 < m.n → X (.func 8) [] m = some (.bool true, m)) (hm : 0 < m.n) {x : Value} (n1 : NumV m x) {a b c d e : Int} (r0 : InR a) (r1 : InR b) (r2 : InR c) (r3 : InR d) (r4 : InR e) {c0 c1 c2 c3 c4 c5 : Int} (i0 : InR c0) (i2 : InR c2) (i3 : InR c3) (i5 : InR c5) :
    C X (.func 3) [x, .agg #[.int .i64 a, .int .i64 b, .int .i64 c, .int .i64 d, .int .i64 e], .agg #[.int .i64 c0, .int .i64 c1, .int .i64 c2, .int .i64 c3, .int .i64 c4, .int .i64 c5]] m m.n (.bool true) m := by
  obtain ⟨s1, s2, s3, s4, s5, s6, rfl⟩ := n1.form
  refine Cl.flatJ (hX.no 3 rfl) fn_3 rfl rfl ?_
  rw [FJ3]
  refine onM_push fun m1 hn1 hg1 hk1 => ?_
  refine onM_push fun m2 hn2 hg2 hk2 => ?_
  refine onM_push fun m3 hn3 hg3 hk3 => ?_
  have hb1 := (hk3 m.n (by omega)).trans ((hk2 m.n (by omega)).trans hg1)
  have hb2 := (hk3 m1.n (by omega)).trans hg2
  have hb3 := hg3
  simp only [cells_agg] at hb1 hb2 hb3
  have he3 : Ext m m3 := ⟨by omega, fun b hb => by rw [hk3 b (by omega), hk2 b (by omega), hk1 b hb]⟩
  clear hg1 hg2 hg3 hk1 hk2 hk3
  refine onC_of (Cl.known (fun l => h8 (m3.wl l) (by show 0 < m3.n; omega)) (Nat.le_refl _) ⟨_, rfl⟩) ?_
  simp only [ptrTo, onS_some, on2_some, onFn_func, ifV_bool, ifB_true, ifB_false, bin_leq, bin_lss, bin_geq, bin_gtr, bin_eql, bin_neq, un_not, ptrTo, nilck_ptr, nilck_func, Nat.zero_add, Nat.reduceAdd, List.getElem?_cons_zero, List.getElem?_cons_succ, List.drop_zero, List.drop_succ_cons, List.take_succ_cons, List.take_zero, Option.map_some, cells_agg, cells_int, cells_bool, cells_slice, cells_ptr, cells_map, cells_func]
  rw [load_29, loadCells_of hb1 (by simp)]
  simp only [Option.map_some, onS_some]
  obtain ⟨r, v1, v2, v3, v4, v5, m10, hc10, hr10, hgd, he10⟩ := (n1.keepE he3).made hX
  refine onC_of (show C X (.func 9) [Value.agg (List.take 6 (List.drop 0 [s1, s2, s3, s4, s5, s6])).toArray] m3 m3.n _ m10 from hc10) ?_
  obtain ⟨o1, o2, o3, o4, o5⟩ := hr10.ones
  refine onM_push fun m12 hn12 hg12 hk12 => ?_
  refine on2_storeV ty_42 hg12 (by rfl) (by rfl) (by simp [cells_agg, o1, o2, o3, o4, o5]) fun m13 hn13 hg13 hk13 => ?_
  simp only [cells_agg] at hg13
  have he13 : Ext m10 m13 := ⟨by omega, fun b hb => by rw [hk13 b (by omega), hk12 b hb]⟩
  have hr13 := hr10.keepE he13
  have hb2' := (he10.trans he13).cells hb2
  have hn10 := he10.n
  rw [load_42, loadCells_of hg13 (by simp), Option.map_some, onS_some, load_30, loadCells_of hb2' (by simp), Option.map_some, onS_some]
  refine onC_of (show C X (.func 10) [Value.agg (List.take 5 (List.drop 0 [v1, v2, v3, v4, v5])).toArray, Value.agg (List.take 5 (List.drop 0 [Value.int .i64 a, .int .i64 b, .int .i64 c, .int .i64 d, .int .i64 e])).toArray] m13 m13.n _ m13 from wish_ok hX hr13 hgd.cs (by have := hgd.nc; omega) r0 r1 r2 r3 r4) ?_
  have hwo := wishS_ok hgd.cs a b c d e
  generalize wishS r.law.clauses a b c d e = w at hwo
  refine onM_push fun m20 hn20 hg20 hk20 => ?_
  refine on2_storeV ty_45 hg20 (by rfl) (by rfl) rfl fun m21 hn21 hg21 hk21 => ?_
  simp only [cells_agg] at hg21
  have he21 : Ext m13 m21 := ⟨by omega, fun b hb => by rw [hk21 b (by omega), hk20 b hb]⟩
  have hr21 := hr13.keepE he21
  have hbr21 := he21.cells hg13
  have hch21 := ((he10.trans he13).trans he21).cells hb3
  rw [load_42, loadCells_of hbr21 (by simp), Option.map_some, onS_some, load_45, loadCells_of hg21 (by simp), Option.map_some, onS_some]
  have hrs := hgd.sized
  have hro := hgd.ok
  obtain ⟨pv, lst, m26, hc26, hS26, hpr, hll, hK26⟩ := pdecide_ok hX hr21 hrs hro w hwo
  refine onC_of (show C X (.func 11) [Value.agg (List.take 5 (List.drop 0 [v1, v2, v3, v4, v5])).toArray, Value.agg (List.take 5 (List.drop 0 w.c)).toArray] m21 m21.n _ m26 from hc26) ?_
  have hne : lst ≠ [] := by
    rintro rfl
    simp [provesS] at hpr
  have hreal := hS26.real hne
  simp only [extr_tuple, onS_some, on2_some, onFn_func, ifV_bool, ifB_true, ifB_false, bin_leq, bin_lss, bin_geq, bin_gtr, bin_eql, bin_neq, un_not, ptrTo, nilck_ptr, nilck_func, Nat.zero_add, Nat.reduceAdd, List.getElem?_cons_zero, List.getElem?_cons_succ, List.drop_zero, List.drop_succ_cons, List.take_succ_cons, List.take_zero, Option.map_some, cells_agg, cells_int, cells_bool, cells_slice, cells_ptr, cells_map, cells_func]
  refine onM_push fun m30 hn30 hg30 hk30 => ?_
  refine on2_storeV ty_49 hg30 (by rfl) (by rfl) (by simp [cells_agg, hS26.one]; exact ⟨rfl, rfl, rfl, rfl⟩) fun m31 hn31 hg31 hk31 => ?_
  simp only [cells_agg] at hg31
  have he31 : Ext m26 m31 := ⟨by omega, fun b hb => by rw [hk31 b (by omega), hk30 b hb]⟩
  have hK31 := hK26.trans (KC.of_ext he31)
  have hbr31 := hK31.get _ _ _ _ hbr21
  have hbw31 := hK31.get _ _ _ _ hg21
  have hch31 := hK31.get _ _ _ _ hch21
  have hr31 := hK31.reg hr21
  have hS31 := hS26.keepE he31
  have hns : m.n ≤ m3.n ∧ m.n ≤ m10.n ∧ m.n ≤ m13.n ∧ m.n ≤ m21.n ∧ m.n ≤ m26.n ∧ m.n ≤ m31.n := by have := he13.n; have := he21.n; have := hK26.n; have := he31.n; omega
  have hal : allowedS r w = (decide (0 ≤ deedS r w) && (!neededS r w || decide (0 ≤ grantS r w))) := rfl
  have hal' := hal
  refine jn_of (fun vs m' lo' => vs = [.bool false] ∧ m31 = m' ∧ m.n ≤ lo') (fun R hR => ?_) ?_
  · have hlast : ∀ z lo, z = false → m.n ≤ lo → R [.bool z] m31 lo := by
      rintro _ lo rfl h
      exact hR _ _ _ ⟨rfl, rfl, h⟩
    refine ifB_intro (fun h => by simp at h) (fun _ => ?_)
    rw [load_42, loadCells_of hbr31 (by simp), Option.map_some, onS_some, load_45, loadCells_of hbw31 (by simp), Option.map_some, onS_some, load_49, loadCells_of hg31 (by simp), Option.map_some, onS_some]
    refine onC_of (show C X (.func 12) [Value.agg (List.take 5 (List.drop 0 [v1, v2, v3, v4, v5])).toArray, Value.agg (List.take 5 (List.drop 0 w.c)).toArray, Value.agg (List.take 5 (List.drop 0 [Value.bool (allowedS r w), .bool (neededS r w), pv, .int .i64 (deedS r w), .int .i64 (grantS r w)])).toArray] m31 m31.n _ m31 from pcheck_ok hX hr31 hrs hro w hwo hS31 (by omega)) ?_
    rw [check_own hpr]
    simp only [fieldAddr_49_0, fieldAddr_49_1, fieldAddr_49_3, fieldAddr_49_4, load_4, load_3, cellAt_of hg31, bin_neqB, Bool.not_true, onS_some, on2_some, onFn_func, ifV_bool, ifB_true, ifB_false, bin_leq, bin_lss, bin_geq, bin_gtr, bin_eql, bin_neq, un_not, ptrTo, nilck_ptr, nilck_func, Nat.zero_add, Nat.reduceAdd, List.getElem?_cons_zero, List.getElem?_cons_succ, List.drop_zero, List.drop_succ_cons, List.take_succ_cons, List.take_zero, Option.map_some, cells_agg, cells_int, cells_bool, cells_slice, cells_ptr, cells_map, cells_func]
    refine ifB_intro (fun h1 => ?_) (fun h1 => ?_)
    · refine ifB_intro (fun h2 => ?_) (fun h2 => ?_)
      · refine hlast _ _ ?_ (by simp only [Nat.le_min, hns, Nat.le_refl, and_self])
        rw [hal, h1, h2]; rfl
      · refine hlast _ _ ?_ (by simp only [Nat.le_min, hns, Nat.le_refl, and_self])
        rw [hal, h1, h2, Bool.true_and, Bool.false_or, beq_self_eq_true]; rfl
    · refine hlast _ _ ?_ (by simp only [Nat.le_min, hns, Nat.le_refl, and_self])
      rw [hal, h1]; rfl
  clear hal hal'
  rintro _ _ lo36 ⟨rfl, rfl, hlo36⟩
  simp only [un_cons, ifV_bool, ifB_false]
  simp only [fieldAddr_45_0, fieldAddr_45_1, fieldAddr_45_3, fieldAddr_45_4, load_3, cellAt_of hbw31, bin_add, onS_some, on2_some, onFn_func, ifV_bool, ifB_true, ifB_false, bin_leq, bin_lss, bin_geq, bin_gtr, bin_eql, bin_neq, un_not, ptrTo, nilck_ptr, nilck_func, Nat.zero_add, Nat.reduceAdd, List.getElem?_cons_zero, List.getElem?_cons_succ, List.drop_zero, List.drop_succ_cons, List.take_succ_cons, List.take_zero, Option.map_some, cells_agg, cells_int, cells_bool, cells_slice, cells_ptr, cells_map, cells_func]
  have hwo' := hwo
  simp only [Wish.ok, inB, Bool.and_eq_true, decide_eq_true_eq] at hwo'
  rw [wrap64 (x := 10 + w.kind) (by omega) (by omega), build_55_0_1_2_3 rfl rfl rfl rfl, onS_some]
  simp only [cells_int, List.cons_append, List.nil_append]
  refine onM_push fun m71 hn71 hg71 hk71 => ?_
  refine on2_storeV ty_55 hg71 (by rfl) (by rfl) rfl fun m72 hn72 hg72 hk72 => ?_
  simp only [cells_agg] at hg72
  have he72 : Ext m31 m72 := ⟨by omega, fun b hb => by rw [hk72 b (by omega), hk71 b hb]⟩
  have hbr72 := he72.cells hbr31
  have hbw72 := he72.cells hbw31
  have hd72 := he72.cells hg31
  have hch72 := he72.cells hch31
  have hr72 := hr31.keepE he72
  have hS72 := hS31.keepE he72
  have hro' := hro
  simp only [Registry.ok, Bool.and_eq_true] at hro'
  simp only [fieldAddr_42_0, fieldAddr_49_1, fieldAddr_49_2, load_4, load_47, cellAt_of hd72, onS_some, on2_some, onFn_func, ifV_bool, ifB_true, ifB_false, bin_leq, bin_lss, bin_geq, bin_gtr, bin_eql, bin_neq, un_not, ptrTo, nilck_ptr, nilck_func, Nat.zero_add, Nat.reduceAdd, List.getElem?_cons_zero, List.getElem?_cons_succ, List.drop_zero, List.drop_succ_cons, List.take_succ_cons, List.take_zero, Option.map_some, cells_agg, cells_int, cells_bool, cells_slice, cells_ptr, cells_map, cells_func]
  rw [load_38, loadCells_of hbr72 (by simp), Option.map_some, onS_some, load_55, loadCells_of hg72 (by simp), Option.map_some, onS_some]
  refine onC_of (show C X (.func 13) [Value.agg (List.take 3 (List.drop 0 [v1, v2, v3, v4, v5])).toArray, Value.agg (List.take 4 (List.drop 0 w.query.c)).toArray, _, _] m72 m72.n _ m72 from scheck_ok hX hr72.law w.query hro'.1 (query_valid hwo) hS72 (by omega) (neededS r w)) ?_
  rw [hpr]
  simp only [Bool.not_true, onS_some, on2_some, onFn_func, ifV_bool, ifB_true, ifB_false, bin_leq, bin_lss, bin_geq, bin_gtr, bin_eql, bin_neq, un_not, ptrTo, nilck_ptr, nilck_func, Nat.zero_add, Nat.reduceAdd, List.getElem?_cons_zero, List.getElem?_cons_succ, List.drop_zero, List.drop_succ_cons, List.take_succ_cons, List.take_zero, Option.map_some, cells_agg, cells_int, cells_bool, cells_slice, cells_ptr, cells_map, cells_func]
  have hlo72 : m.n ≤ m72.n := by have := he72.n; omega
  -- two changes
  refine Lp.intro (γ := Nat) (fun i => 2 - i) (fun i vs mm lo => ∃ u, vs = [u, .int .i64 i] ∧ i ≤ 2 ∧ Ext m72 mm ∧ m.n ≤ lo) 0 ⟨_, rfl, by omega, .refl, by simp only [Nat.le_min, hlo36, hns, hlo72, and_self]⟩ ?_
  rintro i vs mm lo ⟨u, rfl, hi, hE, hlo⟩
  have hbr := hE.cells hbr72
  have hbw := hE.cells hbw72
  have hd := hE.cells hd72
  have hch := hE.cells hch72
  have hrm := hr72.keepE hE
  have hSm := hS72.keepE hE
  have hmn := hE.n
  simp only [un_cons, onS_some, on2_some, onFn_func, ifV_bool, ifB_true, ifB_false, bin_leq, bin_lss, bin_geq, bin_gtr, bin_eql, bin_neq, un_not, ptrTo, nilck_ptr, nilck_func, Nat.zero_add, Nat.reduceAdd, List.getElem?_cons_zero, List.getElem?_cons_succ, List.drop_zero, List.drop_succ_cons, List.take_succ_cons, List.take_zero, Option.map_some, cells_agg, cells_int, cells_bool, cells_slice, cells_ptr, cells_map, cells_func]
  refine ifB_intro (fun hc => ?_) (fun _ => ⟨rfl, hlo⟩)
  have hlt : i < 2 := by
    have : (i : Int) < 2 := by simpa using hc
    omega
  clear hc
  obtain ⟨k0, k1, k2, l0, l1, l2, j0, j2, q0, q2, ⟨oA, xA, yA0, yA1, yA2⟩, ⟨oB, xB, yB0, yB1, yB2⟩⟩ : ∃ k0 k1 k2 l0 l1 l2 : Int, InR k0 ∧ InR k2 ∧ InR l0 ∧ InR l2 ∧
      (∃ o, indexAddr? Tab.env 32 (.pointer (some ⟨m2.n, 0, none⟩)) (.int .i64 (i : Int)) = some (.pointer (some ⟨m2.n, o, none⟩)) ∧ [Value.int .i64 c0, .int .i64 c1, .int .i64 c2, .int .i64 c3, .int .i64 c4, .int .i64 c5][o]? = some (.int .i64 k0) ∧
        [Value.int .i64 c0, .int .i64 c1, .int .i64 c2, .int .i64 c3, .int .i64 c4, .int .i64 c5][o + 1]? = some (.int .i64 k1) ∧ [Value.int .i64 c0, .int .i64 c1, .int .i64 c2, .int .i64 c3, .int .i64 c4, .int .i64 c5][o + 2]? = some (.int .i64 k2)) ∧
      (∃ o, indexAddr? Tab.env 32 (.pointer (some ⟨m2.n, 0, none⟩)) (.int .i64 (IntKind.i64.wrap (1 - (i : Int)))) = some (.pointer (some ⟨m2.n, o, none⟩)) ∧ [Value.int .i64 c0, .int .i64 c1, .int .i64 c2, .int .i64 c3, .int .i64 c4, .int .i64 c5][o]? = some (.int .i64 l0) ∧
        [Value.int .i64 c0, .int .i64 c1, .int .i64 c2, .int .i64 c3, .int .i64 c4, .int .i64 c5][o + 1]? = some (.int .i64 l1) ∧ [Value.int .i64 c0, .int .i64 c1, .int .i64 c2, .int .i64 c3, .int .i64 c4, .int .i64 c5][o + 2]? = some (.int .i64 l2)) := by
    match i, hlt with
    | 0, _ => exact ⟨c0, c1, c2, c3, c4, c5, i0, i2, i3, i5, ⟨0, indexAddr_32_0, rfl, rfl, rfl⟩, ⟨3, by rw [wrap64 (by decide) (by decide)]; exact indexAddr_32_1, rfl, rfl, rfl⟩⟩
    | 1, _ => exact ⟨c3, c4, c5, c0, c1, c2, i3, i5, i0, i2, ⟨3, indexAddr_32_1, rfl, rfl, rfl⟩, ⟨0, by rw [wrap64 (by decide) (by decide)]; exact indexAddr_32_0, rfl, rfl, rfl⟩⟩
  rw [load_49, loadCells_of hd (by simp), Option.map_some, onS_some]
  simp only [xA, indexAddr_31_0, indexAddr_31_1, indexAddr_31_2, load_3, cellAt_of hch, Nat.add_zero, yA0, yA1, yA2, onS_some]
  obtain ⟨a1, b1, d1, g1, lst1, pv1, m105, hc105, hS105, hR105, hl105, he105⟩ := bentDecision_ok hX hSm hreal (by omega) (a := allowedS r w) (n := neededS r w) (d := deedS r w) (g := grantS r w) (k := k1) j0 j2
  refine onC_of (show C X (.func 14) [Value.agg (List.take 5 (List.drop 0 [Value.bool (allowedS r w), .bool (neededS r w), pv, .int .i64 (deedS r w), .int .i64 (grantS r w)])).toArray, _, _, _] mm mm.n _ m105 from hc105) ?_
  refine ⟨Nat.le_refl _, ?_⟩
  refine onM_push fun m107 hn107 hg107 hk107 => ?_
  refine on2_storeV ty_49 hg107 (by rfl) (by rfl) (by simp [cells_agg, hS105.one]; exact ⟨rfl, rfl, rfl, rfl⟩) fun m108 hn108 hg108 hk108 => ?_
  simp only [cells_agg] at hg108
  have he108 : Ext m105 m108 := ⟨by omega, fun b hb => by rw [hk108 b (by omega), hk107 b hb]⟩
  have hch108 := (he105.trans he108).cells hch
  have hS108 := hS105.keepE he108
  rw [load_49, loadCells_of hg108 (by simp), Option.map_some, onS_some]
  simp only [bin_sub, xB, indexAddr_31_0, indexAddr_31_1, indexAddr_31_2, load_3, cellAt_of hch108, Nat.add_zero, yB0, yB1, yB2, onS_some]
  obtain ⟨a2, b2, d2, g2, lst2, pv2, m124, hc124, hS124, hR124, hl124, he124⟩ := bentDecision_ok hX hS108 hR105 (by omega) (a := a1) (n := b1) (d := d1) (g := g1) (k := l1) q0 q2
  refine onC_of (show C X (.func 14) [Value.agg (List.take 5 (List.drop 0 [Value.bool a1, .bool b1, pv1, .int .i64 d1, .int .i64 g1])).toArray, _, _, _] m108 m108.n _ m124 from hc124) ?_
  refine ⟨Nat.le_refl _, ?_⟩
  refine onM_push fun m126 hn126 hg126 hk126 => ?_
  refine on2_storeV ty_49 hg126 (by rfl) (by rfl) (by simp [cells_agg, hS124.one]; exact ⟨rfl, rfl, rfl, rfl⟩) fun m127 hn127 hg127 hk127 => ?_
  simp only [cells_agg] at hg127
  have he127 : Ext m124 m127 := ⟨by omega, fun b hb => by rw [hk127 b (by omega), hk126 b hb]⟩
  have hg108' := (he124.trans he127).cells hg108
  have hS1 := hS108.keepE (he124.trans he127)
  have hS2 := hS124.keepE he127
  rw [load_49, loadCells_of hg108' (by simp), Option.map_some, onS_some, load_49, loadCells_of hg127 (by simp), Option.map_some, onS_some]
  simp only [List.drop_zero, List.take_succ_cons, List.take_zero]
  rw [buildSlice_d2, on2_some]
  have hsl := sl_two (x := ⟨a1, b1, lst1, d1, g1⟩) (y := ⟨a2, b2, lst2, d2, g2⟩) hS1 hS2
  have hE127 : Ext mm m127 := (he105.trans he108).trans (he124.trans he127)
  have hE132 : Ext mm (m127.push (.cells [.bool a1, .bool b1, pv1, .int .i64 d1, .int .i64 g1, .bool a2, .bool b2, pv2, .int .i64 d2, .int .i64 g2] 49 none)) := hE127.push
  have hlens : ∀ z ∈ [(⟨a1, b1, lst1, d1, g1⟩ : Dec), ⟨a2, b2, lst2, d2, g2⟩], z.lst.length < 1000 := fun z hz => by
    rcases List.mem_cons.1 hz with rfl | hz
    · show lst1.length < 1000
      omega
    · rw [List.mem_singleton.1 hz]
      show lst2.length < 1000
      omega
  have hl2 : [(⟨a1, b1, lst1, d1, g1⟩ : Dec), ⟨a2, b2, lst2, d2, g2⟩].length = 2 := rfl
  dsimp only at hsl
  generalize [(⟨a1, b1, lst1, d1, g1⟩ : Dec), ⟨a2, b2, lst2, d2, g2⟩] = two at hsl hlens hl2
  generalize m127.push (.cells [.bool a1, .bool b1, pv1, .int .i64 d1, .int .i64 g1, .bool a2, .bool b2, pv2, .int .i64 d2, .int .i64 g2] 49 none) = m132 at hsl hE132 ⊢
  rw [hsl.len slt_dec, on2_some, hl2]
  have hnn : m.n ≤ mm.n ∧ m.n ≤ m105.n ∧ m.n ≤ m108.n ∧ m.n ≤ m124.n := by have := he105.n; have := he108.n; have := he124.n; omega
  refine Lp.intro (γ := Nat) (fun j => 2 - j) (fun j vs mk lo => ∃ u, vs = [u, .int .i64 j] ∧ j ≤ 2 ∧ Ext m132 mk ∧ m.n ≤ lo) 0 ⟨_, rfl, by omega, .refl, by simp only [Nat.le_min, hlo, hnn, and_self]⟩ ?_
  rintro j vs mk lo' ⟨u', rfl, hj, hEk, hlo'⟩
  have hEm := hE132.trans hEk
  have hmk := hEm.n
  simp only [un_cons, bin_lss, onS_some, ifV_bool]
  refine ifB_intro (fun hc => ?_) (fun _ => ?_)
  · have hjl : j < two.length := by
      rw [hl2]
      have : (j : Int) < 2 := by simpa using hc
      omega
    have hx : two[j]? = some two[j] := List.getElem?_eq_getElem hjl
    have hzl := hlens _ (List.getElem_mem hjl)
    generalize two[j] = z at hx hzl
    obtain ⟨p, cs, e1, e2, pz, rfl, hSz⟩ := (hsl.keepE hEk).index slt_dec (k := .i64) hx
    rw [e1, onS_some, e2, onS_some, val_agg rfl]
    have hoz := hSz.one
    refine onM_push fun m146 hn146 hg146 hk146 => ?_
    refine on2_storeV ty_49 hg146 (by rfl) (by rfl) (by simp [cells_agg, hoz]; exact ⟨rfl, rfl, rfl, rfl⟩) fun m147 hn147 hg147 hk147 => ?_
    simp only [cells_agg] at hg147
    have he147 : Ext mk m147 := ⟨by omega, fun b hb => by rw [hk147 b (by omega), hk146 b hb]⟩
    have hEz := hEm.trans he147
    have hbrz := hEz.cells hbr
    have hbwz := hEz.cells hbw
    have hdz := hEz.cells hd
    have hrz := hrm.keepE hEz
    have hSz' := hSz.keepE he147
    have hnz := hEz.n
    refine jn_of (fun vs m' lo'' => vs = [.bool false] ∧ m147 = m' ∧ m.n ≤ lo'') (fun R hR => ?_) ?_
    · rw [load_42, loadCells_of hbrz (by simp), Option.map_some, onS_some, load_45, loadCells_of hbwz (by simp), Option.map_some, onS_some, load_49, loadCells_of hg147 (by simp), Option.map_some, onS_some]
      refine onC_of (show C X (.func 12) [Value.agg (List.take 5 (List.drop 0 [v1, v2, v3, v4, v5])).toArray, Value.agg (List.take 5 (List.drop 0 w.c)).toArray, Value.agg (List.take 5 (List.drop 0 [Value.bool z.a, .bool z.n, pz, .int .i64 z.d, .int .i64 z.g])).toArray] m147 m147.n _ m147 from pcheck_ok hX hrz hrs hro w hwo hSz' hzl) ?_
      rw [ifV_bool]
      have hl3 : m.n ≤ min (min lo' mk.n) m147.n := by have := he147.n; omega
      refine ifB_intro (fun hck => ?_) (fun _ => hR _ _ _ ⟨rfl, rfl, hl3⟩)
      obtain ⟨ea, en⟩ := check_sound hro hck
      simp only [fieldAddr_49_0, fieldAddr_49_1, load_4, cellAt_of hg147, cellAt_of hdz, bin_neqB, ea, en, beq_self_eq_true, Bool.not_true, onS_some, on2_some, onFn_func, ifV_bool, ifB_true, ifB_false, bin_leq, bin_lss, bin_geq, bin_gtr, bin_eql, bin_neq, un_not, ptrTo, nilck_ptr, nilck_func, Nat.zero_add, Nat.reduceAdd, List.getElem?_cons_zero, List.getElem?_cons_succ, List.drop_zero, List.drop_succ_cons, List.take_succ_cons, List.take_zero, Option.map_some, cells_agg, cells_int, cells_bool, cells_slice, cells_ptr, cells_map, cells_func]
      exact hR _ _ _ ⟨rfl, rfl, hl3⟩
    · rintro _ _ lo'' ⟨rfl, rfl, hlo''⟩
      simp only [un_cons, ifV_bool, ifB_false, bin_add, onS_some]
      refine ⟨j + 1, by omega, u', ?_, by omega, hEk.trans he147, hlo''⟩
      rw [wrap64 (by omega) (by omega)]; rfl
  · simp only [bin_add, onS_some]
    refine ⟨i + 1, by omega, u', ?_, by omega, hE.trans hEm, hlo'⟩
    rw [wrap64 (by omega) (by omega)]; rfl
end Go.Proofs.YtbpmlholiohkpaaGreatDoor
