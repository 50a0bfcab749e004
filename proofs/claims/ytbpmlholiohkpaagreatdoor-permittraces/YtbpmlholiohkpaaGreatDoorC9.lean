/- Contracts: Copy of a law, Like of decisions, late. A registry of the call's own, whose lists grow. pick, as the laws use it. -/
import Derived.Test.YtbpmlholiohkpaaGreatDoorC6
import Derived.Test.YtbpmlholiohkpaaGreatDoorC5
import Derived.Test.YtbpmlholiohkpaaGreatDoorFx
import Derived.Test.YtbpmlholiohkpaaGreatDoorC4
import Derived.Test.YtbpmlholiohkpaaGreatDoorFk6
/- Contracts: Copy of a law, Like of decisions, late. -/
namespace Go.D
open Go
/-- A slice of the call's own, or an empty one that points to an empty row. -/
def Ow0 {α : Type} [Rep α] (n1 : Nat) (m : M) (l : List α) (v : Value) : Prop :=
  Ow n1 m l v ∨ (l = [] ∧ ∃ b, v = .slice (some ⟨b, 0, none⟩) 0 0 ∧ n1 ≤ b ∧ m.get b = .cells [] (Rep.ty α) none)
section
variable {E : Env} {m : M} {T : TypeId} {α : Type} [Rep α] {n1 : Nat} {l ys : List α} {v y : Value}
theorem Ow0.sl (h : Ow0 n1 m l v) : Sl m l v := by
  rcases h with h | ⟨rfl, b, rfl, _, hb⟩
  · exact h.sl
  · exact .inr ⟨b, 0, 0, [], none, rfl, hb, by simp, fun i x hi => by simp at hi⟩
theorem Ow0.keep {m' : M} (h : Ow0 n1 m l v) (hk : ∀ b c t g, m.get b = .cells c t g → t ∈ Rep.ty α :: Rep.tys α → m'.get b = .cells c t g) : Ow0 n1 m' l v := by
  rcases h with h | ⟨rfl, b, rfl, h1, hb⟩
  · exact .inl (h.keep hk)
  · exact .inr ⟨rfl, b, rfl, h1, hk _ _ _ _ hb List.mem_cons_self⟩
theorem Ow0.keepE {m' : M} (h : Ow0 n1 m l v) (he : Ext m m') : Ow0 n1 m' l v := h.keep fun _ _ _ _ hb _ => he.cells hb
theorem Ow0.mono {n2 : Nat} (h : Ow0 n1 m l v) (hn : n2 ≤ n1) : Ow0 n2 m l v := by
  rcases h with h | ⟨rfl, b, rfl, h1, hb⟩
  · exact .inl (h.mono hn)
  · exact .inr ⟨rfl, b, rfl, by omega, hb⟩
theorem Ow0.append (hT : ApT E T α) (hty : Rep.ty α ∉ Rep.tys α) (h : Ow0 n1 m l v) (hy : Sl m ys y) (hn : n1 ≤ m.n) (hs : l.length + ys.length ≤ 1000000) :
    ∃ v' m1, builtin? E (m.wl m.n) .append [T, T] [v, y] = some (v', m1) ∧ Ow0 n1 m1 (l ++ ys) v' ∧ Fr' n1 m m1 ∧ n1 ≤ m1.low ∧ m.n ≤ m1.n := by
  rcases h with h | ⟨rfl, b, rfl, h1, hb⟩
  · obtain ⟨v', m1, e1, e2, e3, e4, e5⟩ := h.append hT hty hy hn (by omega)
    exact ⟨v', m1, e1, .inl e2, e3, e4, e3.n⟩
  · obtain ⟨v', m1, e1, e2, e3, e4⟩ := append_zero hT hb hy (by simpa using hs)
    refine ⟨v', m1, e1, ?_, e3.fr hn, by omega, e3.n⟩
    rcases e2 with ⟨rfl, rfl⟩ | ⟨_, e2⟩
    · exact .inr ⟨rfl, b, rfl, h1, e3.cells hb⟩
    · exact .inl (e2.mono hn)
/-- append to an empty slice of one's own, perhaps of nothing: a copy. -/
theorem append_zero' (hT : ApT E T α) {b : Nat} (h : m.get b = .cells [] (Rep.ty α) none) (hn : n1 ≤ b) (hy : Sl m ys y) (hs : ys.length ≤ 1000000) :
    ∃ v' m1, builtin? E (m.wl m.n) .append [T, T] [.slice (some ⟨b, 0, none⟩) 0 0, y] = some (v', m1) ∧ Ow0 n1 m1 ys v' ∧ Real v' ∧ Ext m m1 ∧ m1.low = m.n := by
  obtain ⟨v', m1, e1, e2, e3, e4⟩ := append_zero hT h hy hs
  have hbn := M.lt_of_get h
  refine ⟨v', m1, e1, ?_, ?_, e3, e4⟩
  · rcases e2 with ⟨rfl, rfl⟩ | ⟨_, e2⟩
    · exact .inr ⟨rfl, b, rfl, hn, e3.cells h⟩
    · exact .inl (e2.mono (by omega))
  · rcases e2 with ⟨rfl, rfl⟩ | ⟨hne, e2⟩
    · exact ⟨_, _, _, rfl⟩
    · exact e2.real hne
end
end Go.D
namespace Go.Proofs.YtbpmlholiohkpaaGreatDoor
open Go Go.D
variable {X : CallFn} {m : M}
theorem like_ok (hX : NoX X) {a n a' n' : Bool} {pv pv' : Value} {d g d' g' : Int} : C X (.func 18) [decV a n pv d g, decV a' n' pv' d' g'] m m.n (.bool ((a == a') && ((n == n') && (decide (d = d') && decide (g = g'))))) m := by
  refine Cl.flat (hX.no 18 rfl) fn_18 rfl rfl ?_
  rw [F18]
  refine onM_push fun m1 hn1 hg1 hk1 => ?_
  refine onM_push fun m2 hn2 hg2 hk2 => ?_
  have hb0 := (hk2 m.n (by omega)).trans hg1
  simp only [cells_agg] at hb0 hg2
  simp only [fieldAddr_49_0, fieldAddr_49_1, fieldAddr_49_3, fieldAddr_49_4, load_4, load_3, cellAt_of hb0, cellAt_of hg2, bin_eqlB, onS_some, on2_some, onFn_func, ifV_bool, ifB_true, ifB_false, bin_leq, bin_lss, bin_geq, bin_gtr, bin_eql, bin_neq, un_not, ptrTo, nilck_ptr, nilck_func, Nat.zero_add, Nat.reduceAdd, List.getElem?_cons_zero, List.getElem?_cons_succ, List.drop_zero, List.drop_succ_cons, List.take_succ_cons, List.take_zero, Option.map_some, cells_agg, cells_int, cells_bool, cells_slice, cells_ptr, cells_map, cells_func]
  refine ifB_intro (fun h1 => ?_) (fun h => ⟨by rw [mkres, h]; rfl, Nat.le_refl _⟩)
  refine ifB_intro (fun h2 => ?_) (fun h => ⟨by rw [mkres, h1, h]; rfl, Nat.le_refl _⟩)
  refine ifB_intro (fun h3 => ?_) (fun h => ⟨by rw [mkres, h1, h2, h]; rfl, Nat.le_refl _⟩)
  exact ⟨by rw [mkres, h1, h2, h3]; rfl, Nat.le_refl _⟩
theorem buildSlice_i0 : buildSlice? Tab.env m 26 0 [] = some (.slice (some ⟨m.n, 0, none⟩) 0 0, m.push (.cells [] 3 none)) := by
  simp only [buildSlice?, show Tab.env.ty.get 26 = some Tab.t26 by kernel_rfl, Tab.t26, zero?, show Tab.env.ty.get 3 = some Tab.t3 by kernel_rfl, Tab.t3, Option.bind_some, cells_int]
  rfl
theorem buildSlice_r0 : buildSlice? Tab.env m 35 0 [] = some (.slice (some ⟨m.n, 0, none⟩) 0 0, m.push (.cells [] 92 none)) := by
  simp only [buildSlice?, show Tab.env.ty.get 35 = some Tab.t35 by kernel_rfl, Tab.t35, show zero? Tab.env 92 = some (.agg #[.int .i64 0, .int .i64 0, .int .i64 0]) by kernel_rfl, cells_agg]
  rfl
theorem buildSlice_fa0 : buildSlice? Tab.env m 36 0 [] = some (.slice (some ⟨m.n, 0, none⟩) 0 0, m.push (.cells [] 66 none)) := by
  simp only [buildSlice?, show Tab.env.ty.get 36 = some Tab.t36 by kernel_rfl, Tab.t36, show zero? Tab.env 66 = some (.agg #[.int .i64 0, .int .i64 0, .int .i64 0, .int .i64 0, .int .i64 0, .int .i64 0]) by kernel_rfl, cells_agg]
  rfl
/-- A copy of a law, all of it the call's own. -/
theorem copy_ok' (hX : NoX X) {l : Law} {v1 v2 v3 : Value} (hl : LawV m l v1 v2 v3) (hlw : l.ok = true) :
    ∃ w1 w2 w3 m', C X (.func 15) [.agg #[v1, v2, v3]] m m.n (.agg #[w1, w2, w3]) m' ∧ LawV m' l w1 w2 w3 ∧ Ow m.n m' l.clauses w1 ∧ Ow0 m.n m' l.facts w3 ∧ Ow0 m.n m' l.repeals w2 ∧ Ext m m' := by
  have hsz := law_sizes hlw
  have key := Cl.heap (E := Tab.env) (X := X) (f := 15) (args := [.agg #[v1, v2, v3]]) (m := m) (R := fun v m' b => ∃ w1 w2 w3, v = .agg #[w1, w2, w3] ∧ b = m.n ∧ LawV m' l w1 w2 w3 ∧ Ow m.n m' l.clauses w1 ∧ Ow0 m.n m' l.facts w3 ∧ Ow0 m.n m' l.repeals w2 ∧ Ext m m') (hX.no 15 rfl) fn_15 rfl ?_
  · obtain ⟨v, m', b, hc, w1, w2, w3, rfl, rfl, h⟩ := key
    exact ⟨w1, w2, w3, m', hc, h⟩
  rw [F15]
  refine onM_push fun m1 hn1 hg1 hk1 => ?_
  refine onM_push fun m2 hn2 hg2 hk2 => ?_
  refine onM_push fun m3 hn3 hg3 hk3 => ?_
  have hb0 := (hk3 m.n (by omega)).trans ((hk2 m.n (by omega)).trans hg1)
  have hb1 := (hk3 m1.n (by omega)).trans hg2
  simp only [cells_agg] at hb0
  have he3 : Ext m m3 := ⟨by omega, fun b hb => by rw [hk3 b (by omega), hk2 b (by omega), hk1 b hb]⟩
  clear hg1 hg2 hk1 hk2 hk3
  have hl3 := hl.keepE he3
  simp only [ptrTo]
  refine Lp.intro (γ := Nat) (fun i => l.clauses.length - i) (fun i vs mm lo => vs = [.int .i64 i] ∧ i ≤ l.clauses.length ∧ KX m2.n m3 mm ∧ m.n ≤ lo ∧ ∃ vc, mm.get m2.n = .cells [vc, .slice none 0 0, .slice none 0 0] 38 none ∧ Ow m3.n mm (l.clauses.take i) vc) 0 ⟨rfl, Nat.zero_le _, .refl, Nat.le_refl _, _, hg3, .nil⟩ ?_
  rintro i vs mm lo ⟨rfl, hi, hK, hlo, vc, hbox, hOw⟩
  have hb0m := hK.cells hb0 (by omega)
  have hb1m := hK.cells hb1 (by omega)
  have hE := hK.ext he3 (by omega)
  have hlm := hl.keepE hE
  have hmn := hK.n
  simp only [un_cons, fieldAddr_38_0, load_34, cellAt_of hb0m, hlm.clauses.len slt_clause, onS_some, on2_some, onFn_func, ifV_bool, ifB_true, ifB_false, bin_leq, bin_lss, bin_geq, bin_gtr, bin_eql, bin_neq, un_not, ptrTo, nilck_ptr, nilck_func, Nat.zero_add, Nat.reduceAdd, List.getElem?_cons_zero, List.getElem?_cons_succ, List.drop_zero, List.drop_succ_cons, List.take_succ_cons, List.take_zero, Option.map_some, cells_agg, cells_int, cells_bool, cells_slice, cells_ptr, cells_map, cells_func]
  refine ifB_intro (fun hc => ?_) (fun hc => ?_)
  · have hlt : i < l.clauses.length := by simpa using hc
    have hx : l.clauses[i]? = some l.clauses[i] := List.getElem?_eq_getElem hlt
    have hxo := clause_ok hlw hx
    have htk : l.clauses.take (i + 1) = l.clauses.take i ++ [l.clauses[i]] := by rw [List.take_add_one, hx]; rfl
    generalize l.clauses[i] = x at hx hxo htk
    obtain ⟨_, _, _, _, hnl, hbl⟩ := clause_bounds hxo
    obtain ⟨p, cs, e1, e2, vn, vb, rfl, hvn, hvb⟩ := hlm.clauses.index slt_clause (k := .i64) hx
    rw [e1, onS_some, e2, onS_some, val_agg rfl]
    have on1 := hvn.one
    have on2' := hvb.one
    refine onM_push fun m19 hn19 hg19 hk19 => ?_
    refine on2_storeV ty_64 hg19 (by rfl) (by rfl) (by simp only [cells_agg, Clause.cs, List.all_cons, List.all_nil, on1, on2']; rfl) fun m20 hn20 hg20 hk20 => ?_
    simp only [cells_agg, Clause.cs] at hg20
    have he20 : Ext mm m20 := ⟨by omega, fun b hb => by rw [hk20 b (by omega), hk19 b hb]⟩
    rw [buildSlice_i0, on2_some]
    have he23 : Ext m20 (m20.push (.cells [] 3 none)) := Ext.refl.push
    have hrow23 : (m20.push (.cells [] 3 none)).get m20.n = .cells [] 3 none := M.get_push_new
    have hn23 : (m20.push (.cells [] 3 none)).n = m20.n + 1 := M.push_n
    generalize m20.push (.cells [] 3 none) = m23 at he23 hrow23 hn23 ⊢
    have hg23 := he23.cells hg20
    simp only [fieldAddr_64_2, load_26, cellAt_of hg23, onS_some, on2_some, onFn_func, ifV_bool, ifB_true, ifB_false, bin_leq, bin_lss, bin_geq, bin_gtr, bin_eql, bin_neq, un_not, ptrTo, nilck_ptr, nilck_func, Nat.zero_add, Nat.reduceAdd, List.getElem?_cons_zero, List.getElem?_cons_succ, List.drop_zero, List.drop_succ_cons, List.take_succ_cons, List.take_zero, Option.map_some, cells_agg, cells_int, cells_bool, cells_slice, cells_ptr, cells_map, cells_func]
    obtain ⟨vn', m27, e27, hOn, hRn, he27, hlow27⟩ := append_zero' (n1 := m20.n) (m := m23) apt_int hrow23 (Nat.le_refl _) ((hvn.keepE he20).keepE he23) (by omega)
    rw [e27, on2_some]
    have hn27 := he27.n
    have hg27 := he27.cells hg23
    have hcn : cells vn' = [vn'] := hOn.sl.cells
    have hon := hOn.sl.one
    refine on2_store ty_26 hg27 (by rw [hcn]; rfl) (by rw [hcn]; simp) (by rw [hcn]; simp [hon]) fun m29 hn29 hg29 hk29 => ?_
    rw [hcn] at hg29
    have hg29' : m29.get mm.n = .cells [.int .i64 x.pub, .int .i64 x.sp.f, .int .i64 x.sp.t, vn', vb, .int .i64 x.gives] 64 none := hg29
    have hK29 : KX mm.n m27 m29 := ⟨by omega, fun c _ hne => hk29 c hne⟩
    have hOn29 : Sl m29 x.needs vn' := hOn.sl.keep (hK29.keep hg27 (by simp [Rep.tys, Rep.ty]))
    have hvb29 : Sl m29 x.bars vb := ((((hvb.keepE he20).keepE he23).keepE he27)).keep (hK29.keep hg27 (by simp [Rep.tys, Rep.ty]))
    rw [buildSlice_i0, on2_some]
    have he32 : Ext m29 (m29.push (.cells [] 3 none)) := Ext.refl.push
    have hrow32 : (m29.push (.cells [] 3 none)).get m29.n = .cells [] 3 none := M.get_push_new
    have hn32 : (m29.push (.cells [] 3 none)).n = m29.n + 1 := M.push_n
    generalize m29.push (.cells [] 3 none) = m32 at he32 hrow32 hn32 ⊢
    have hg32 := he32.cells hg29'
    simp only [fieldAddr_64_3, load_26, cellAt_of hg32, onS_some, on2_some, onFn_func, ifV_bool, ifB_true, ifB_false, bin_leq, bin_lss, bin_geq, bin_gtr, bin_eql, bin_neq, un_not, ptrTo, nilck_ptr, nilck_func, Nat.zero_add, Nat.reduceAdd, List.getElem?_cons_zero, List.getElem?_cons_succ, List.drop_zero, List.drop_succ_cons, List.take_succ_cons, List.take_zero, Option.map_some, cells_agg, cells_int, cells_bool, cells_slice, cells_ptr, cells_map, cells_func]
    obtain ⟨vb', m36, e36, hOb, hRb, he36, hlow36⟩ := append_zero' (n1 := m29.n) (m := m32) apt_int hrow32 (Nat.le_refl _) (hvb29.keepE he32) (by omega)
    rw [e36, on2_some]
    have hn36 := he36.n
    have hg36 := he36.cells hg32
    have hcb : cells vb' = [vb'] := hOb.sl.cells
    have hob := hOb.sl.one
    refine on2_store ty_26 hg36 (by rw [hcb]; rfl) (by rw [hcb]; simp) (by rw [hcb]; simp [hob]) fun m38 hn38 hg38 hk38 => ?_
    rw [hcb] at hg38
    have hg38' : m38.get mm.n = .cells [.int .i64 x.pub, .int .i64 x.sp.f, .int .i64 x.sp.t, vn', vb', .int .i64 x.gives] 64 none := hg38
    have hK38 : KX mm.n m36 m38 := ⟨by omega, fun c _ hne => hk38 c hne⟩
    have hOb38 : Sl m38 x.bars vb' := hOb.sl.keep (hK38.keep hg36 (by simp [Rep.tys, Rep.ty]))
    have hOn38 : Sl m38 x.needs vn' := (((hOn29.keepE he32).keepE he36)).keep (hK38.keep hg36 (by simp [Rep.tys, Rep.ty]))
    -- what was there before the round
    have hEr : Ext mm m38 := ⟨by omega, fun c hc => by
      rw [hk38 c (by omega), he36.get c (by omega), he32.get c (by omega), hk29 c (by omega), he27.get c (by omega), he23.get c (by omega), he20.get c hc]⟩
    have hbox38 := hEr.cells hbox
    simp only [fieldAddr_38_0, load_34, cellAt_of hbox38, onS_some, on2_some, onFn_func, ifV_bool, ifB_true, ifB_false, bin_leq, bin_lss, bin_geq, bin_gtr, bin_eql, bin_neq, un_not, ptrTo, nilck_ptr, nilck_func, Nat.zero_add, Nat.reduceAdd, List.getElem?_cons_zero, List.getElem?_cons_succ, List.drop_zero, List.drop_succ_cons, List.take_succ_cons, List.take_zero, Option.map_some, cells_agg, cells_int, cells_bool, cells_slice, cells_ptr, cells_map, cells_func]
    rw [load_64, loadCells_of hg38' (by simp), Option.map_some, onS_some]
    simp only [List.drop_zero, List.take_succ_cons, List.take_zero]
    rw [buildSlice_c, on2_some]
    have hrep : Rep.rep m38 x [.int .i64 x.pub, .int .i64 x.sp.f, .int .i64 x.sp.t, vn', vb', .int .i64 x.gives] := ⟨vn', vb', rfl, hOn38, hOb38⟩
    have hsl44 := sl_one (m := m38) hrep
    have he44 : Ext m38 (m38.push (.cells [.int .i64 x.pub, .int .i64 x.sp.f, .int .i64 x.sp.t, vn', vb', .int .i64 x.gives] 64 none)) := Ext.refl.push
    have hn44 : (m38.push (.cells [.int .i64 x.pub, .int .i64 x.sp.f, .int .i64 x.sp.t, vn', vb', .int .i64 x.gives] 64 none)).n = m38.n + 1 := M.push_n
    change Sl (m38.push (.cells [.int .i64 x.pub, .int .i64 x.sp.f, .int .i64 x.sp.t, vn', vb', .int .i64 x.gives] 64 none)) [x] _ at hsl44
    generalize m38.push (.cells [.int .i64 x.pub, .int .i64 x.sp.f, .int .i64 x.sp.t, vn', vb', .int .i64 x.gives] 64 none) = m44 at hsl44 he44 hn44 ⊢
    have htl : (l.clauses.take i).length = i := by rw [List.length_take]; omega
    have hErn := hEr.n
    obtain ⟨v45, m46, e46, hOw46, hFr46, hlow46, hm46⟩ := Ow.append (m := m44) apt_clause (by simp [Rep.tys, Rep.ty]) (hOw.keepE (hEr.trans he44)) hsl44 (by omega) (by rw [htl]; simp; omega)
    rw [e46, on2_some]
    have hFn := hFr46.n
    have h46get : ∀ c, c < m3.n → m46.get c = mm.get c := fun c hc => by rw [hFr46.get c hc, he44.get c (by omega), hEr.get c (by omega)]
    have hbox46 : m46.get m2.n = .cells [vc, .slice none 0 0, .slice none 0 0] 38 none := by rw [h46get _ (by omega), hbox]
    have hc45 : cells v45 = [v45] := hOw46.sl.cells
    refine on2_store ty_34 hbox46 (by rw [hc45]; rfl) (by rw [hc45]; simp) (by rw [hc45]; simp [hOw46.sl.one]) fun m48 hn48 hg48 hk48 => ?_
    rw [hc45] at hg48
    simp only [bin_add, onS_some]
    have hlo' : m.n ≤ m27.low ∧ m.n ≤ m36.low ∧ m.n ≤ m46.low ∧ m.n ≤ mm.n ∧ m.n ≤ m2.n := by omega
    refine ⟨i + 1, by omega, ?_, by omega, hK.step (by omega) h46get hk48, by simp only [Nat.le_min, hlo, hlo', and_self], v45, by rw [hg48]; rfl, ?_⟩
    · rw [wrap64 (by omega) (by omega)]; rfl
    · rw [htk]
      exact hOw46.keep ((KX.mk (Nat.le_of_eq hn48.symm) fun c _ hne => hk48 c hne : KX m2.n m46 m48).keep hbox46 (by simp [Rep.tys, Rep.ty]))
  · have hge : i = l.clauses.length := by
      have : ¬ ((i : Int) < (l.clauses.length : Int)) := by simpa using hc
      omega
    subst hge
    clear hc
    rw [List.take_length] at hOw
    rw [buildSlice_r0, on2_some]
    have he52 : Ext mm (mm.push (.cells [] 92 none)) := Ext.refl.push
    have hrow52 : (mm.push (.cells [] 92 none)).get mm.n = .cells [] 92 none := M.get_push_new
    have hn52 : (mm.push (.cells [] 92 none)).n = mm.n + 1 := M.push_n
    generalize mm.push (.cells [] 92 none) = m52 at he52 hrow52 hn52 ⊢
    have hb052 := he52.cells hb0m
    simp only [fieldAddr_38_1, load_35, cellAt_of hb052, onS_some, on2_some, onFn_func, ifV_bool, ifB_true, ifB_false, bin_leq, bin_lss, bin_geq, bin_gtr, bin_eql, bin_neq, un_not, ptrTo, nilck_ptr, nilck_func, Nat.zero_add, Nat.reduceAdd, List.getElem?_cons_zero, List.getElem?_cons_succ, List.drop_zero, List.drop_succ_cons, List.take_succ_cons, List.take_zero, Option.map_some, cells_agg, cells_int, cells_bool, cells_slice, cells_ptr, cells_map, cells_func]
    obtain ⟨w2, m56, e56, hO2, _, he56, hlow56⟩ := append_zero' (n1 := mm.n) (m := m52) apt_repeal hrow52 (Nat.le_refl _) (hlm.repeals.keepE he52) (by omega)
    rw [e56, on2_some]
    have hn56 := he56.n
    have hE56 := he52.trans he56
    have hbox56 := hE56.cells hbox
    have hc2 : cells w2 = [w2] := hO2.sl.cells
    refine on2_store ty_35 hbox56 (by rw [hc2]; rfl) (by rw [hc2]; simp) (by rw [hc2]; simp [hO2.sl.one]) fun m58 hn58 hg58 hk58 => ?_
    rw [hc2] at hg58
    have hg58' : m58.get m2.n = .cells [vc, w2, .slice none 0 0] 38 none := hg58
    have hK58 : KX m2.n m56 m58 := ⟨by omega, fun c _ hne => hk58 c hne⟩
    have hO2' : Ow0 mm.n m58 l.repeals w2 := hO2.keep (hK58.keep hbox56 (by simp [Rep.tys, Rep.ty]))
    have hOw58 : Ow m3.n m58 l.clauses vc := (hOw.keepE hE56).keep (hK58.keep hbox56 (by simp [Rep.tys, Rep.ty]))
    have hf58 : Sl m58 l.facts v3 := (hlm.facts.keepE hE56).keep (hK58.keep hbox56 (by simp [Rep.tys, Rep.ty]))
    have hb058 := hK58.cells (he56.cells hb052) (by omega)
    have hb158 := hK58.cells (hE56.cells hb1m) (by omega)
    rw [buildSlice_fa0, on2_some]
    have he61 : Ext m58 (m58.push (.cells [] 66 none)) := Ext.refl.push
    have hrow61 : (m58.push (.cells [] 66 none)).get m58.n = .cells [] 66 none := M.get_push_new
    have hn61 : (m58.push (.cells [] 66 none)).n = m58.n + 1 := M.push_n
    generalize m58.push (.cells [] 66 none) = m61 at he61 hrow61 hn61 ⊢
    have hb061 := he61.cells hb058
    simp only [fieldAddr_38_2, load_36, cellAt_of hb061, onS_some, on2_some, onFn_func, ifV_bool, ifB_true, ifB_false, bin_leq, bin_lss, bin_geq, bin_gtr, bin_eql, bin_neq, un_not, ptrTo, nilck_ptr, nilck_func, Nat.zero_add, Nat.reduceAdd, List.getElem?_cons_zero, List.getElem?_cons_succ, List.drop_zero, List.drop_succ_cons, List.take_succ_cons, List.take_zero, Option.map_some, cells_agg, cells_int, cells_bool, cells_slice, cells_ptr, cells_map, cells_func]
    obtain ⟨w3, m65, e65, hO3, hR3, he65, hlow65⟩ := append_zero' (n1 := m58.n) (m := m61) apt_fact hrow61 (Nat.le_refl _) (hf58.keepE he61) (by omega)
    rw [e65, on2_some]
    have hn65 := he65.n
    have hE65 := he61.trans he65
    have hbox65 := hE65.cells hg58'
    have hc3 : cells w3 = [w3] := hO3.sl.cells
    refine on2_store ty_36 hbox65 (by rw [hc3]; rfl) (by rw [hc3]; simp) (by rw [hc3]; simp [hO3.sl.one]) fun m67 hn67 hg67 hk67 => ?_
    rw [hc3] at hg67
    have hg67' : m67.get m2.n = .cells [vc, w2, w3] 38 none := hg67
    have hK67 : KX m2.n m65 m67 := ⟨by omega, fun c _ hne => hk67 c hne⟩
    have hOc : Ow m3.n m67 l.clauses vc := (hOw58.keepE hE65).keep (hK67.keep hbox65 (by simp [Rep.tys, Rep.ty]))
    have hOr : Ow0 mm.n m67 l.repeals w2 := (hO2'.keepE hE65).keep (hK67.keep hbox65 (by simp [Rep.tys, Rep.ty]))
    have hOf : Ow0 m58.n m67 l.facts w3 := hO3.keep (hK67.keep hbox65 (by simp [Rep.tys, Rep.ty]))
    have hb167 := hK67.cells (hE65.cells hb158) (by omega)
    have x1 := hOc.sl.one
    have x2 := hOr.sl.one
    have x3 := hOf.sl.one
    rw [load_38, loadCells_of hg67' (by simp), Option.map_some, onS_some]
    refine on2_storeV ty_38 hb167 (by rfl) (by rfl) (by simp [cells_agg, x1, x2, x3]) fun m70 hn70 hg70 hk70 => ?_
    simp only [cells_agg, List.drop_zero, List.take_succ_cons, List.take_zero] at hg70
    rw [load_38, loadCells_of hg70 (by simp), Option.map_some, onS_some]
    have hK70 : KX m1.n m67 m70 := ⟨by omega, fun c _ hne => hk70 c hne⟩
    have hOc' : Ow m3.n m70 l.clauses vc := hOc.keep (hK70.keep hb167 (by simp [Rep.tys, Rep.ty]))
    have hOr' : Ow0 mm.n m70 l.repeals w2 := hOr.keep (hK70.keep hb167 (by simp [Rep.tys, Rep.ty]))
    have hOf' : Ow0 m58.n m70 l.facts w3 := hOf.keep (hK70.keep hb167 (by simp [Rep.tys, Rep.ty]))
    have hlo' : m.n ≤ m56.low ∧ m.n ≤ m65.low ∧ m.n ≤ m2.n ∧ m.n ≤ m1.n := by omega
    have hlast : m.n ≤ min (min (min (min (min lo m56.low) m2.n) m65.low) m2.n) m1.n := by simp only [Nat.le_min, hlo, hlo', and_self]
    refine ⟨.inl ?_, vc, w2, w3, rfl, by omega, ⟨hOc'.sl, hOr'.sl, hOf'.sl⟩, hOc'.mono (by omega), hOf'.mono (by omega), hOr'.mono (by omega), ⟨by omega, fun c hc => ?_⟩⟩
    · obtain ⟨_, _, _, rfl⟩ := hR3
      rcases hOc' with ⟨h1, _⟩ | ⟨_, _, h1, _⟩ <;> rcases hOr' with (⟨h2, _⟩ | ⟨_, _, h2, _⟩) | ⟨_, _, h2, _⟩ <;> rw [h1, h2] <;> rfl
    · rw [hk70 c (by omega), hk67 c (by omega), hE65.get c (by omega), hk58 c (by omega), hE56.get c (by omega), hE.get c hc]
theorem copy_ok (hX : NoX X) {l : Law} {v1 v2 v3 : Value} (hl : LawV m l v1 v2 v3) (hlw : l.ok = true) :
    ∃ w1 w2 w3 m', C X (.func 15) [.agg #[v1, v2, v3]] m m.n (.agg #[w1, w2, w3]) m' ∧ LawV m' l w1 w2 w3 ∧ Ow m.n m' l.clauses w1 ∧ Ow0 m.n m' l.facts w3 ∧ Ext m m' := by
  obtain ⟨w1, w2, w3, m', h1, h2, h3, h4, _, h5⟩ := copy_ok' hX hl hlw
  exact ⟨w1, w2, w3, m', h1, h2, h3, h4, h5⟩
end Go.Proofs.YtbpmlholiohkpaaGreatDoor

/- A registry of the call's own, whose lists grow. -/
namespace Go.D
open Go
section
variable {E : Env} {m : M} {T : TypeId} {α : Type} [Rep α] {n1 : Nat} {l ys : List α} {v y : Value}
/-- append, and what it leaves. -/
theorem Ow0.append' (hT : ApT E T α) (hty : Rep.ty α ∉ Rep.tys α) (h : Ow0 n1 m l v) (hy : Sl m ys y) (hn : n1 ≤ m.n) (hs : l.length + ys.length ≤ 1000000) :
    ∃ v' m1, builtin? E (m.wl m.n) .append [T, T] [v, y] = some (v', m1) ∧ Ow0 n1 m1 (l ++ ys) v' ∧ (∀ c, c < n1 → m1.get c = m.get c) ∧ n1 ≤ m1.low ∧ m.n ≤ m1.n ∧
      (∀ c cs t g, m.get c = .cells cs t g → t ≠ Rep.ty α → m1.get c = .cells cs t g) := by
  obtain ⟨v', m1, e1, e2, e3, e4, e5⟩ := h.append hT hty hy hn hs
  refine ⟨v', m1, e1, e2, e3.get, e4, e5, fun c cs t g hc ht => ?_⟩
  rw [append_other e1 (M.lt_of_get hc) fun a n k hv e => ?_, hc]
  rcases h with (⟨rfl, _⟩ | ⟨b, cs', rfl, _, _, hb, _⟩) | ⟨_, b, rfl, _, hb⟩
  · cases hv
  · cases hv
    subst e
    rw [hb] at hc
    cases hc
    exact ht rfl
  · cases hv
    subst e
    rw [hb] at hc
    cases hc
    exact ht rfl
end
end Go.D
namespace Go.Proofs.YtbpmlholiohkpaaGreatDoor
open Go Go.D
variable {X : CallFn} {m : M}
/-- A registry in a row of the call's own, all its lists the call's own but for the repeals. -/
structure OwR (n0 nb : Nat) (L : Registry) (w1 w2 w3 w4 w5 : Value) (m : M) : Prop where
  box : m.get nb = .cells [w1, w2, w3, w4, w5] 42 none
  cl : Ow0 n0 m L.law.clauses w1
  rp : Sl m L.law.repeals w2
  fa : Ow0 n0 m L.law.facts w3
  de : Ow0 n0 m L.deeds w4
  gr : Ow0 n0 m L.grants w5
section
variable {n0 nb : Nat} {L : Registry} {w1 w2 w3 w4 w5 : Value}
theorem OwR.keepE {m' : M} (h : OwR n0 nb L w1 w2 w3 w4 w5 m) (he : Ext m m') : OwR n0 nb L w1 w2 w3 w4 w5 m' :=
  ⟨he.cells h.box, h.cl.keepE he, h.rp.keepE he, h.fa.keepE he, h.de.keepE he, h.gr.keepE he⟩
theorem OwR.reg (h : OwR n0 nb L w1 w2 w3 w4 w5 m) : RegV m L w1 w2 w3 w4 w5 := ⟨⟨h.cl.sl, h.rp, h.fa.sl⟩, h.de.sl, h.gr.sl⟩

theorem OwR.clause (h : OwR n0 nb L w1 w2 w3 w4 w5 m) {ys : List Clause} {y : Value} (hy : Sl m ys y) (hn : n0 ≤ m.n) (hs : L.law.clauses.length + ys.length ≤ 1000000) (hb : n0 ≤ nb) {P : Value → M → M → Nat → Prop}
    (hP : ∀ (v : Value) (m1 m2 : M), m2.n = m1.n → m.n ≤ m1.n → (∀ c, c < n0 → m2.get c = m.get c) → OwR n0 nb ⟨⟨L.law.clauses ++ ys, L.law.repeals, L.law.facts⟩, L.deeds, L.grants⟩ v w2 w3 w4 w5 m2 → n0 ≤ m1.low → P v m1 m2 nb) :
    on2 (builtin? Tab.env (m.wl m.n) .append [34, 34] [w1, y]) fun v m1 => on2 (store? Tab.env m1 34 (.pointer (some ⟨nb, 0, none⟩)) v) fun m2 b => P v m1 m2 b := by
  obtain ⟨v, m1, e1, e2, e3, e4, e5, e6⟩ := h.cl.append' apt_clause (by simp [Rep.tys, Rep.ty]) hy hn hs
  rw [e1, on2_some]
  have hbox := e6 _ _ _ _ h.box (by simp [Rep.ty])
  have hc : cells v = [v] := e2.sl.cells
  refine on2_store ty_34 hbox (by rw [hc]; rfl) (by rw [hc]; simp) (by rw [hc]; simp [e2.sl.one]) fun m2 hn2 hg2 hk2 => ?_
  rw [hc] at hg2
  have hk : ∀ c cs t g, m1.get c = .cells cs t g → t ≠ 42 → m2.get c = .cells cs t g := fun c cs t g hc ht => by
    rw [hk2 c fun e => ?_, hc]
    subst e
    rw [hbox] at hc
    cases hc
    exact ht rfl
  have h1 : ∀ c cs t g, m.get c = .cells cs t g → t ≠ 42 → t ≠ 64 → m2.get c = .cells cs t g := fun c cs t g hc ht ht' => hk _ _ _ _ (e6 _ _ _ _ hc (by simpa [Rep.ty] using ht')) ht
  refine hP v m1 m2 hn2 e5 (fun c hc => by rw [hk2 c (by omega), e3 c hc]) ⟨hg2, e2.keep fun c cs t g hc ht => hk _ _ _ _ hc (by rintro rfl; simp [Rep.tys, Rep.ty] at ht), h.rp.keep fun c cs t g hc ht => h1 _ _ _ _ hc (by rintro rfl; simp [Rep.tys, Rep.ty] at ht) (by rintro rfl; simp [Rep.tys, Rep.ty] at ht), h.fa.keep fun c cs t g hc ht => h1 _ _ _ _ hc (by rintro rfl; simp [Rep.tys, Rep.ty] at ht) (by rintro rfl; simp [Rep.tys, Rep.ty] at ht), h.de.keep fun c cs t g hc ht => h1 _ _ _ _ hc (by rintro rfl; simp [Rep.tys, Rep.ty] at ht) (by rintro rfl; simp [Rep.tys, Rep.ty] at ht), h.gr.keep fun c cs t g hc ht => h1 _ _ _ _ hc (by rintro rfl; simp [Rep.tys, Rep.ty] at ht) (by rintro rfl; simp [Rep.tys, Rep.ty] at ht)⟩ e4

theorem OwR.fact (h : OwR n0 nb L w1 w2 w3 w4 w5 m) {ys : List Fact} {y : Value} (hy : Sl m ys y) (hn : n0 ≤ m.n) (hs : L.law.facts.length + ys.length ≤ 1000000) (hb : n0 ≤ nb) {P : Value → M → M → Nat → Prop}
    (hP : ∀ (v : Value) (m1 m2 : M), m2.n = m1.n → m.n ≤ m1.n → (∀ c, c < n0 → m2.get c = m.get c) → OwR n0 nb ⟨⟨L.law.clauses, L.law.repeals, L.law.facts ++ ys⟩, L.deeds, L.grants⟩ w1 w2 v w4 w5 m2 → n0 ≤ m1.low → P v m1 m2 nb) :
    on2 (builtin? Tab.env (m.wl m.n) .append [36, 36] [w3, y]) fun v m1 => on2 (store? Tab.env m1 36 (.pointer (some ⟨nb, 2, none⟩)) v) fun m2 b => P v m1 m2 b := by
  obtain ⟨v, m1, e1, e2, e3, e4, e5, e6⟩ := h.fa.append' apt_fact (by simp [Rep.tys, Rep.ty]) hy hn hs
  rw [e1, on2_some]
  have hbox := e6 _ _ _ _ h.box (by simp [Rep.ty])
  have hc : cells v = [v] := e2.sl.cells
  refine on2_store ty_36 hbox (by rw [hc]; rfl) (by rw [hc]; simp) (by rw [hc]; simp [e2.sl.one]) fun m2 hn2 hg2 hk2 => ?_
  rw [hc] at hg2
  have hk : ∀ c cs t g, m1.get c = .cells cs t g → t ≠ 42 → m2.get c = .cells cs t g := fun c cs t g hc ht => by
    rw [hk2 c fun e => ?_, hc]
    subst e
    rw [hbox] at hc
    cases hc
    exact ht rfl
  have h1 : ∀ c cs t g, m.get c = .cells cs t g → t ≠ 42 → t ≠ 66 → m2.get c = .cells cs t g := fun c cs t g hc ht ht' => hk _ _ _ _ (e6 _ _ _ _ hc (by simpa [Rep.ty] using ht')) ht
  refine hP v m1 m2 hn2 e5 (fun c hc => by rw [hk2 c (by omega), e3 c hc]) ⟨hg2, h.cl.keep fun c cs t g hc ht => h1 _ _ _ _ hc (by rintro rfl; simp [Rep.tys, Rep.ty] at ht) (by rintro rfl; simp [Rep.tys, Rep.ty] at ht), h.rp.keep fun c cs t g hc ht => h1 _ _ _ _ hc (by rintro rfl; simp [Rep.tys, Rep.ty] at ht) (by rintro rfl; simp [Rep.tys, Rep.ty] at ht), e2.keep fun c cs t g hc ht => hk _ _ _ _ hc (by rintro rfl; simp [Rep.tys, Rep.ty] at ht), h.de.keep fun c cs t g hc ht => h1 _ _ _ _ hc (by rintro rfl; simp [Rep.tys, Rep.ty] at ht) (by rintro rfl; simp [Rep.tys, Rep.ty] at ht), h.gr.keep fun c cs t g hc ht => h1 _ _ _ _ hc (by rintro rfl; simp [Rep.tys, Rep.ty] at ht) (by rintro rfl; simp [Rep.tys, Rep.ty] at ht)⟩ e4

theorem OwR.deed (h : OwR n0 nb L w1 w2 w3 w4 w5 m) {ys : List Deed} {y : Value} (hy : Sl m ys y) (hn : n0 ≤ m.n) (hs : L.deeds.length + ys.length ≤ 1000000) (hb : n0 ≤ nb) {P : Value → M → M → Nat → Prop}
    (hP : ∀ (v : Value) (m1 m2 : M), m2.n = m1.n → m.n ≤ m1.n → (∀ c, c < n0 → m2.get c = m.get c) → OwR n0 nb ⟨L.law, L.deeds ++ ys, L.grants⟩ w1 w2 w3 v w5 m2 → n0 ≤ m1.low → P v m1 m2 nb) :
    on2 (builtin? Tab.env (m.wl m.n) .append [39, 39] [w4, y]) fun v m1 => on2 (store? Tab.env m1 39 (.pointer (some ⟨nb, 3, none⟩)) v) fun m2 b => P v m1 m2 b := by
  obtain ⟨v, m1, e1, e2, e3, e4, e5, e6⟩ := h.de.append' apt_deed (by simp [Rep.tys, Rep.ty]) hy hn hs
  rw [e1, on2_some]
  have hbox := e6 _ _ _ _ h.box (by simp [Rep.ty])
  have hc : cells v = [v] := e2.sl.cells
  refine on2_store ty_39 hbox (by rw [hc]; rfl) (by rw [hc]; simp) (by rw [hc]; simp [e2.sl.one]) fun m2 hn2 hg2 hk2 => ?_
  rw [hc] at hg2
  have hk : ∀ c cs t g, m1.get c = .cells cs t g → t ≠ 42 → m2.get c = .cells cs t g := fun c cs t g hc ht => by
    rw [hk2 c fun e => ?_, hc]
    subst e
    rw [hbox] at hc
    cases hc
    exact ht rfl
  have h1 : ∀ c cs t g, m.get c = .cells cs t g → t ≠ 42 → t ≠ 69 → m2.get c = .cells cs t g := fun c cs t g hc ht ht' => hk _ _ _ _ (e6 _ _ _ _ hc (by simpa [Rep.ty] using ht')) ht
  refine hP v m1 m2 hn2 e5 (fun c hc => by rw [hk2 c (by omega), e3 c hc]) ⟨hg2, h.cl.keep fun c cs t g hc ht => h1 _ _ _ _ hc (by rintro rfl; simp [Rep.tys, Rep.ty] at ht) (by rintro rfl; simp [Rep.tys, Rep.ty] at ht), h.rp.keep fun c cs t g hc ht => h1 _ _ _ _ hc (by rintro rfl; simp [Rep.tys, Rep.ty] at ht) (by rintro rfl; simp [Rep.tys, Rep.ty] at ht), h.fa.keep fun c cs t g hc ht => h1 _ _ _ _ hc (by rintro rfl; simp [Rep.tys, Rep.ty] at ht) (by rintro rfl; simp [Rep.tys, Rep.ty] at ht), e2.keep fun c cs t g hc ht => hk _ _ _ _ hc (by rintro rfl; simp [Rep.tys, Rep.ty] at ht), h.gr.keep fun c cs t g hc ht => h1 _ _ _ _ hc (by rintro rfl; simp [Rep.tys, Rep.ty] at ht) (by rintro rfl; simp [Rep.tys, Rep.ty] at ht)⟩ e4

theorem OwR.grant (h : OwR n0 nb L w1 w2 w3 w4 w5 m) {ys : List Grant} {y : Value} (hy : Sl m ys y) (hn : n0 ≤ m.n) (hs : L.grants.length + ys.length ≤ 1000000) (hb : n0 ≤ nb) {P : Value → M → M → Nat → Prop}
    (hP : ∀ (v : Value) (m1 m2 : M), m2.n = m1.n → m.n ≤ m1.n → (∀ c, c < n0 → m2.get c = m.get c) → OwR n0 nb ⟨L.law, L.deeds, L.grants ++ ys⟩ w1 w2 w3 w4 v m2 → n0 ≤ m1.low → P v m1 m2 nb) :
    on2 (builtin? Tab.env (m.wl m.n) .append [40, 40] [w5, y]) fun v m1 => on2 (store? Tab.env m1 40 (.pointer (some ⟨nb, 4, none⟩)) v) fun m2 b => P v m1 m2 b := by
  obtain ⟨v, m1, e1, e2, e3, e4, e5, e6⟩ := h.gr.append' apt_grant (by simp [Rep.tys, Rep.ty]) hy hn hs
  rw [e1, on2_some]
  have hbox := e6 _ _ _ _ h.box (by simp [Rep.ty])
  have hc : cells v = [v] := e2.sl.cells
  refine on2_store ty_40 hbox (by rw [hc]; rfl) (by rw [hc]; simp) (by rw [hc]; simp [e2.sl.one]) fun m2 hn2 hg2 hk2 => ?_
  rw [hc] at hg2
  have hk : ∀ c cs t g, m1.get c = .cells cs t g → t ≠ 42 → m2.get c = .cells cs t g := fun c cs t g hc ht => by
    rw [hk2 c fun e => ?_, hc]
    subst e
    rw [hbox] at hc
    cases hc
    exact ht rfl
  have h1 : ∀ c cs t g, m.get c = .cells cs t g → t ≠ 42 → t ≠ 71 → m2.get c = .cells cs t g := fun c cs t g hc ht ht' => hk _ _ _ _ (e6 _ _ _ _ hc (by simpa [Rep.ty] using ht')) ht
  refine hP v m1 m2 hn2 e5 (fun c hc => by rw [hk2 c (by omega), e3 c hc]) ⟨hg2, h.cl.keep fun c cs t g hc ht => h1 _ _ _ _ hc (by rintro rfl; simp [Rep.tys, Rep.ty] at ht) (by rintro rfl; simp [Rep.tys, Rep.ty] at ht), h.rp.keep fun c cs t g hc ht => h1 _ _ _ _ hc (by rintro rfl; simp [Rep.tys, Rep.ty] at ht) (by rintro rfl; simp [Rep.tys, Rep.ty] at ht), h.fa.keep fun c cs t g hc ht => h1 _ _ _ _ hc (by rintro rfl; simp [Rep.tys, Rep.ty] at ht) (by rintro rfl; simp [Rep.tys, Rep.ty] at ht), h.de.keep fun c cs t g hc ht => h1 _ _ _ _ hc (by rintro rfl; simp [Rep.tys, Rep.ty] at ht) (by rintro rfl; simp [Rep.tys, Rep.ty] at ht), e2.keep fun c cs t g hc ht => hk _ _ _ _ hc (by rintro rfl; simp [Rep.tys, Rep.ty] at ht)⟩ e4

end
end Go.Proofs.YtbpmlholiohkpaaGreatDoor

/- pick, as the laws use it. -/
namespace Go.Proofs.YtbpmlholiohkpaaGreatDoor
open Go Go.D
variable {X : CallFn} {m : M}
theorem pick19_ok (hX : NoX X) {c n : Int} (hc : InR c) (hn : 0 < n) : C X (.func 19) [.int .i64 c, .int .i64 n] m m.n (.int .i64 (pickS c n)) m := by
  refine Cl.flatJ (hX.no 19 rfl) fn_19 rfl rfl ?_
  rw [FJ19]; dsimp only [plainW]
  unfold InR at hc
  simp only [bin_lss, onS_some, ifV_bool]
  refine ifB_intro (fun h => ?_) (fun h => ?_)
  · have h : c < 0 := by simpa using h
    simp only [bin_add, un_neg, onS_some]
    rw [wrap64 (x := c + 1) (by omega) (by omega), wrap64 (by omega) (by omega), bin_rem (by omega), onS_some]
    exact ⟨by rw [mkres, pickS, if_pos h], Nat.le_refl _⟩
  · have h : ¬ c < 0 := by simpa using h
    rw [bin_rem (by omega), onS_some]
    exact ⟨by rw [mkres, pickS, if_neg h], Nat.le_refl _⟩
end Go.Proofs.YtbpmlholiohkpaaGreatDoor
