/- Contracts: the number of a unit, which of two is before the other; a drawing made cell by cell. What functions of the program come to, their temporaries gone (made off the translation; each proved by the kernel, word by word). Contracts: picks, drawings that are valid, that are the same, what a cell shows. From the model's arguments to D's store. The arguments as the memory holds them; from a contract to the call. -/
import Derived.Test.YtjecgmfildhpiaaGreatDoorG7J
import Derived.Test.YtjecgmfildhpiaaGreatDoorG5J
import Derived.OpenShut
import Derived.ChangeArms
import Derived.Below
/- Contracts: the number of a unit, which of two is before the other; a drawing made cell by cell. -/
namespace Go.Proofs.YtjecgmfildhpiaaGreatDoor
open Go Go.D
variable {X : CallFn} {m : M}

def idZ (o : Option Un) : Int := match o with | some u => u.id | none => -1
theorem id_ok (hX : NoX X) {o : Option Un} {v : Value} (h : OptV m o v) : C X (.func 97) [v, .bool o.isSome] m m.n (.int .i64 (idZ o)) m := by
  refine Cl.flat (hX.no _ rfl) fn_97 rfl rfl ?_
  rw [F97]; dsimp only [plainW]
  refine onM_push fun m1 hn1 hg1 hk1 => ?_
  cases o with
  | none =>
    simp only [Option.isSome_none, un_not, onS_some, ifV_bool, Bool.not_false, ifB_true]
    exact ⟨rfl, Nat.le_refl _⟩
  | some u =>
    obtain ⟨w, rfl, hw⟩ := h
    simp only [cells_agg] at hg1
    simp only [Option.isSome_some, un_not, onS_some, ifV_bool, Bool.not_true, ifB_false, onS_some, on2_some, onFn_func, ifV_bool, ifB_true, ifB_false, bin_leq, bin_lss, bin_geq, bin_gtr, bin_eql, bin_neq, un_not, ptrTo, nilck_ptr, nilck_func, Nat.zero_add, Nat.reduceAdd, List.getElem?_cons_zero, List.getElem?_cons_succ, List.drop_zero, List.drop_succ_cons, List.take_succ_cons, List.take_zero, Option.map_some, cells_agg, cells_int, cells_bool, cells_slice, cells_ptr, cells_map, cells_func, fieldAddr_57_0, load_3, cellAt_of hg1]
    exact ⟨rfl, Nat.le_refl _⟩
theorem backs_ok (hX : NoX X) (a b : Un) (wa wb : Value) : C X (.func 99) [a.v wa, b.v wb] m m.n (.bool (decide (a.back < b.back))) m := by
  refine Cl.flat (hX.no _ rfl) fn_99 rfl rfl ?_
  rw [F99]; dsimp only [plainW]
  refine onM_push fun m1 hn1 hg1 hk1 => ?_
  refine onM_push fun m2 hn2 hg2 hk2 => ?_
  have g1 := (hk2 m.n (by omega)).trans hg1
  simp only [cells_agg] at g1 hg2
  simp only [onS_some, on2_some, onFn_func, ifV_bool, ifB_true, ifB_false, bin_leq, bin_lss, bin_geq, bin_gtr, bin_eql, bin_neq, un_not, ptrTo, nilck_ptr, nilck_func, Nat.zero_add, Nat.reduceAdd, List.getElem?_cons_zero, List.getElem?_cons_succ, List.drop_zero, List.drop_succ_cons, List.take_succ_cons, List.take_zero, Option.map_some, cells_agg, cells_int, cells_bool, cells_slice, cells_ptr, cells_map, cells_func, fieldAddr_57_4, load_3, cellAt_of g1, cellAt_of hg2]
  exact ⟨rfl, Nat.le_refl _⟩
theorem fronts_ok (hX : NoX X) (a b : Un) (wa wb : Value) : C X (.func 100) [a.v wa, b.v wb] m m.n (.bool (decide (b.front < a.front))) m := by
  refine Cl.flat (hX.no _ rfl) fn_100 rfl rfl ?_
  rw [F100]; dsimp only [plainW]
  refine onM_push fun m1 hn1 hg1 hk1 => ?_
  refine onM_push fun m2 hn2 hg2 hk2 => ?_
  have g1 := (hk2 m.n (by omega)).trans hg1
  simp only [cells_agg] at g1 hg2
  simp only [onS_some, on2_some, onFn_func, ifV_bool, ifB_true, ifB_false, bin_leq, bin_lss, bin_geq, bin_gtr, bin_eql, bin_neq, un_not, ptrTo, nilck_ptr, nilck_func, Nat.zero_add, Nat.reduceAdd, List.getElem?_cons_zero, List.getElem?_cons_succ, List.drop_zero, List.drop_succ_cons, List.take_succ_cons, List.take_zero, Option.map_some, cells_agg, cells_int, cells_bool, cells_slice, cells_ptr, cells_map, cells_func, fieldAddr_57_5, load_3, cellAt_of g1, cellAt_of hg2]
  exact ⟨rfl, Nat.le_refl _⟩
/-- A list of one number, in a row of its own. -/
theorem one_int {n : Int} : buildSlice? Tab.env m 25 1 [(0, .int .i64 n)] = some (.slice (some ⟨m.n, 0, none⟩) 1 1, m.push (.cells [.int .i64 n] 3 none)) := by kernel_rfl
theorem sl_one_int {n : Int} {b : Nat} {g : Option Nat} (h : m.get b = .cells [.int .i64 n] 3 g) : Sl m [n] (.slice (some ⟨b, 0, none⟩) 1 1) :=
  .inr ⟨b, 0, 1, _, g, rfl, h, Nat.le_refl _, fun i x hi => by
    match i with
    | 0 => cases hi; rfl
    | i + 1 => cases hi⟩
/-- One number more. -/
theorem _root_.Go.D.Ow.add_int {n1 : Nat} {l : List Int} {v : Value} {n : Int} {P : Value → M → Prop} (h : Ow n1 m l v) (hn : n1 ≤ m.n) (hs : l.length < 268435456)
    (hP : ∀ v1 m1, Ow n1 m1 (l ++ [n]) v1 → Fr' n1 m m1 → n1 ≤ m1.low → m.n ≤ m1.n → P v1 m1) :
    on2 (buildSlice? Tab.env m 25 1 [(0, .int .i64 n)]) fun a m1 => on2 (builtin? Tab.env (m1.wl m1.n) .append [25, 25] [v, a]) P := by
  rw [one_int, on2_some]
  have hx : Ext m (m.push (.cells [.int .i64 n] 3 none)) := Ext.refl.push
  have hpn : (m.push (.cells [.int .i64 n] 3 none)).n = m.n + 1 := rfl
  obtain ⟨v1, m1, e1, ho, hf, hl, _⟩ := (h.keepE hx).append apt_int (by simp [Rep.ty, Rep.tys]) (sl_one_int (m := m.push (.cells [.int .i64 n] 3 none)) M.get_push_new) (by omega) (by simp; omega)
  rw [e1, on2_some]
  exact hP v1 m1 ho ((hx.fr hn).trans hf) hl (by have := hf.n; omega)
/-- The cells of a drawing, row by row from below. -/
def rowZ (g : Nat → Nat → Int) (w j : Nat) : List Int := (List.range w).map fun i => g i j
def gridZ (g : Nat → Nat → Int) (w h : Nat) : List Int := (List.range h).flatMap (rowZ g w)
theorem rowZ_succ {g : Nat → Nat → Int} {i j : Nat} : rowZ g (i + 1) j = rowZ g i j ++ [g i j] := by simp [rowZ, List.range_succ]
theorem gridZ_succ {g : Nat → Nat → Int} {w j : Nat} : gridZ g w (j + 1) = gridZ g w j ++ rowZ g w j := by simp [gridZ, List.range_succ]
theorem rowZ_len {g : Nat → Nat → Int} {w j : Nat} : (rowZ g w j).length = w := by simp [rowZ]
theorem gridZ_len {g : Nat → Nat → Int} {w : Nat} : ∀ h, (gridZ g w h).length = h * w
  | 0 => by simp [gridZ]
  | h + 1 => by rw [gridZ_succ, List.length_append, gridZ_len h, rowZ_len, Nat.add_mul, Nat.one_mul]
abbrev drV (w h : Int) (v : Value) : Value := .agg #[.int .i64 w, .int .i64 h, v]
theorem made_ok (hX : NoX X) {w h : Nat} (hw : w ≤ 1000) (hh : h ≤ 1000) {g : Fn} {fi ca : Array Value} (gz : Nat → Nat → Int)
    (hg : ∀ i j m1, i < w → j < h → Ext m m1 → C X g (fi.toList ++ ([.int .i64 i, .int .i64 j] ++ ca.toList)) m1 m1.n (.int .i64 (gz i j)) m1) (hpos : 0 < w ∧ 0 < h) :
    ∃ v m', C X (.func 56) [.int .i64 w, .int .i64 h, .func g fi ca] m m.n (drV w h v) m' ∧ Ext m m' ∧ Ow m.n m' (gridZ gz w h) v := by
  have key := Cl.heap (E := Tab.env) (X := X) (f := 56) (args := [.int .i64 w, .int .i64 h, .func g fi ca]) (m := m) (R := fun v' m' b => b = m.n ∧ Ext m m' ∧ ∃ v, v' = drV w h v ∧ Ow m.n m' (gridZ gz w h) v) (hX.no _ rfl) fn_56 rfl ?_
  · obtain ⟨v', m', b, hc, rfl, hx, v, rfl, hr⟩ := key
    exact ⟨v, m', hc, hx, hr⟩
  rw [F56]; dsimp only [plainW]
  refine onM_push fun m1 hn1 hg1 hk1 => ?_
  rw [build_27_0_1 rfl rfl, onS_some]
  refine onM_push fun m3 hn3 hg3 hk3 => ?_
  simp only [ptrTo]
  refine on2_storeV ty_27 hg3 rfl rfl rfl fun m4 hn4 hg4 hk4 => ?_
  have hx4 : Ext m m4 := ⟨by omega, fun b hb => by rw [hk4 b (by omega), hk3 b (by omega), hk1 b hb]⟩
  have g04 : m4.get m.n = .cells [.int .i64 0, .int .i64 0, .slice none 0 0] 27 none := by rw [hk4 _ (by omega), hk3 _ (by omega), hg1]
  refine Lp.intro (γ := Nat) (fun j => h - j) (fun j vs m8 lo => vs = [.int .i64 j] ∧ j ≤ h ∧ Ext m m8 ∧ m.n + 2 ≤ m8.n ∧ m.n ≤ lo ∧ (∃ v, m8.get m1.n = .cells [.int .i64 w, .int .i64 h, v] 27 none ∧ Ow (m.n + 2) m8 (gridZ gz w j) v) ∧ ∃ cs, m8.get m.n = .cells cs 27 none ∧ cs.length = 3) 0
    ⟨rfl, Nat.zero_le _, hx4, by omega, by omega, ⟨_, hg4, Ow.nil⟩, _, g04, rfl⟩ ?_
  rintro j vs m8 lo8 ⟨rfl, hj, hx8, hn8, hlo8, ⟨v8, hb8, ho8⟩, cs8, hz8, hcl8⟩
  simp only [un_cons, bin_lss, onS_some, ifV_bool]
  refine ifB_intro (fun hlt => ?_) (fun hge => ?_)
  · have hlt : j < h := by simpa using hlt
    refine Lp.intro (γ := Nat) (fun i => w - i) (fun i vs m9 lo => vs = [.int .i64 i] ∧ i ≤ w ∧ Ext m m9 ∧ m.n + 2 ≤ m9.n ∧ m.n ≤ lo ∧ (∃ v, m9.get m1.n = .cells [.int .i64 w, .int .i64 h, v] 27 none ∧ Ow (m.n + 2) m9 (gridZ gz w j ++ rowZ gz i j) v) ∧ ∃ cs, m9.get m.n = .cells cs 27 none ∧ cs.length = 3) 0
      ⟨rfl, Nat.zero_le _, hx8, hn8, hlo8, ⟨v8, hb8, by simpa [rowZ] using ho8⟩, cs8, hz8, hcl8⟩ ?_
    rintro i vs m9 lo9 ⟨rfl, hi, hx9, hn9, hlo9, ⟨v9, hb9, ho9⟩, cs9, hz9, hcl9⟩
    simp only [un_cons, bin_lss, onS_some, ifV_bool]
    refine ifB_intro (fun hlt2 => ?_) (fun hge2 => ?_)
    · have hlt2 : i < w := by simpa using hlt2
      rw [fieldAddr_27_2, onS_some, load_25, cellAt_of hb9]
      simp only [Nat.zero_add, List.getElem?_cons_zero, List.getElem?_cons_succ, onS_some, onFn_func]
      refine onC_of (hg i j m9 hlt2 hlt hx9) ⟨Nat.le_refl _, ?_⟩
      have hsz : (gridZ gz w j ++ rowZ gz i j).length < 268435456 := by
        rw [List.length_append, gridZ_len, rowZ_len]
        have : j * w ≤ 1000 * 1000 := Nat.mul_le_mul (by omega) hw
        omega
      refine ho9.add_int hn9 hsz fun v10 m10 ho10 hf10 hlow hn10 => ?_
      have hb10 : m10.get m1.n = .cells [.int .i64 w, .int .i64 h, v9] 27 none := by rw [hf10.get _ (by omega), hb9]
      have hz10 : m10.get m.n = .cells cs9 27 none := by rw [hf10.get _ (by omega), hz9]
      have hcv : cells v10 = [v10] := ho10.sl.cells
      refine on2_store ty_25 hb10 (by rw [hcv]; rfl) (by rw [hcv]; exact Nat.le_refl _) (by rw [hcv]; simp [ho10.sl.one]) fun m11 hn11 hg11 hk11 => ?_
      simp only [bin_add, onS_some]
      rw [wrap64 (by omega) (by omega)]
      rw [hcv] at hg11
      refine ⟨i + 1, by omega, by simp, by omega, ⟨by have := hx9.n; omega, fun b hb => by rw [hk11 b (by omega), hf10.get b (by omega), hx9.get b hb]⟩, by omega, by omega, ⟨v10, hg11, ?_⟩, cs9, by rw [hk11 _ (by omega), hz10], hcl9⟩
      rw [rowZ_succ, ← List.append_assoc]
      refine ho10.keep fun b c t g hb ht => ?_
      by_cases hbm : b = m1.n
      · subst hbm
        rw [hb10] at hb
        cases hb
        simp [Rep.ty, Rep.tys] at ht
      · rw [hk11 b hbm, hb]
    · have hi' : i = w := by
        have : ¬ (i : Int) < (w : Int) := by simpa using hge2
        omega
      simp only [bin_add, onS_some]
      rw [wrap64 (by omega) (by omega)]
      exact ⟨j + 1, by omega, by simp, by omega, hx9, hn9, hlo9, ⟨v9, hb9, by rw [gridZ_succ]; rw [hi'] at ho9; exact ho9⟩, cs9, hz9, hcl9⟩
  · have hj' : j = h := by
      have : ¬ (j : Int) < (h : Int) := by simpa using hge
      omega
    subst hj'
    have e : load? Tab.env m8 27 (.pointer (some ⟨m1.n, 0, none⟩)) = some (drV w j v8) := by rw [load_27, loadCells_of hb8 (by simp)]; rfl
    rw [e, onS_some]
    have hone : one v8 = true := ho8.sl.one
    refine on2_storeV ty_27 hz8 rfl (by rw [hcl8]; rfl) (by show (true && (true && (one v8 && true))) = true; rw [hone]; rfl) fun m12 hn12 hg12 hk12 => ?_
    have e2 : load? Tab.env m12 27 (.pointer (some ⟨m.n, 0, none⟩)) = some (drV w j v8) := by rw [load_27, loadCells_of hg12 (by simp [cells_agg])]; rfl
    rw [e2, onS_some]
    have ho12 : Ow (m.n + 2) m12 (gridZ gz w j) v8 := ho8.keep fun b c t g hb ht => by
      by_cases hbm : b = m.n
      · subst hbm
        rw [hz8] at hb
        cases hb
        simp [Rep.ty, Rep.tys] at ht
      · rw [hk12 b hbm, hb]
    have hfl : flat2 (mkres [drV w j v8]) = false := by
      have hne : gridZ gz w j ≠ [] := fun e => by
        have := congrArg List.length e
        rw [gridZ_len] at this
        have := Nat.mul_pos hpos.2 hpos.1
        simp at *
        omega
      rcases ho12 with ⟨_, h0⟩ | ⟨b, cs, rfl, _⟩
      · exact absurd h0 hne
      · rfl
    exact ⟨.inl hfl, by omega, ⟨by have := hx8.n; omega, fun b hb => by rw [hk12 b (by omega), hx8.get b hb]⟩, v8, rfl, ho12.mono (by omega)⟩
end Go.Proofs.YtjecgmfildhpiaaGreatDoor

/- What functions of the program come to, their temporaries gone (made off the translation; each proved by the kernel, word by word). -/
namespace Go.Proofs.YtjecgmfildhpiaaGreatDoor
open Go Go.D

set_option maxRecDepth 100000 in
/-- putlog/putlogref41.Ints -/
theorem F53 {W : Words} {x0 x1 : Value} {m : M} {R : List Value → M → Nat → Prop} : vcF Tab.env W Tryz.f53 [x0, x1] m R =
(W.on2 (builtin? Tab.env m .len [25] [x0]) fun v1 _ => (W.on2 (builtin? Tab.env m .len [25] [x1]) fun v2 _ => (W.onS (bin? Tab.env .neq 3 v1 v2) fun v3 => (ifV v3
(R [(.bool false)] m (M.n m))
(W.Lp (fun P4 vs5 m6 lo7 => W.un vs5 fun v8 r9 => W.un r9 fun v10 r11 => (W.on2 (builtin? Tab.env m6 .len [25] [x0]) fun v12 _ => (W.onS (bin? Tab.env .lss 3 v10 v12) fun v13 => (ifV v13
(W.onS (indexAddr? Tab.env 25 x0 v10) fun v14 => (W.onS (load? Tab.env m6 3 v14) fun v15 => (W.onS (indexAddr? Tab.env 25 x1 v10) fun v16 => (W.onS (load? Tab.env m6 3 v16) fun v17 => (W.onS (bin? Tab.env .neq 3 v15 v17) fun v18 => (ifV v18
(R [(.bool false)] m6 lo7)
(W.onS (bin? Tab.env .add 3 v10 (.int .i64 1)) fun v19 => (P4 [v8, v19] m6 lo7))))))))
(R [(.bool true)] m6 lo7))))) [(.bool false), (.int .i64 0)] m (M.n m)))))) := by kernel_rfl

set_option maxRecDepth 100000 in
/-- putlog/putlogref41.Same -/
theorem F14 {W : Words} {x0 x1 : Value} {m : M} {R : List Value → M → Nat → Prop} : vcF Tab.env W Tryz.f14 [x0, x1] m R =
(W.onM (M.push m (.cells (cells x0) 27 none)) fun m1 => (W.onM (M.push m1 (.cells (cells x1) 27 none)) fun m2 => (W.jn (fun R3 => (W.onS (fieldAddr? Tab.env 27 (ptrTo (M.n m)) 0) fun v7 => (W.onS (load? Tab.env m2 3 v7) fun v8 => (W.onS (fieldAddr? Tab.env 27 (ptrTo (M.n m1)) 0) fun v9 => (W.onS (load? Tab.env m2 3 v9) fun v10 => (W.onS (bin? Tab.env .eql 3 v8 v10) fun v11 => (ifV v11
(W.onS (fieldAddr? Tab.env 27 (ptrTo (M.n m)) 1) fun v12 => (W.onS (load? Tab.env m2 3 v12) fun v13 => (W.onS (fieldAddr? Tab.env 27 (ptrTo (M.n m1)) 1) fun v14 => (W.onS (load? Tab.env m2 3 v14) fun v15 => (W.onS (bin? Tab.env .eql 3 v13 v15) fun v16 => (ifV v16
(W.onS (fieldAddr? Tab.env 27 (ptrTo (M.n m)) 2) fun v17 => (W.onS (load? Tab.env m2 25 v17) fun v18 => (W.onS (fieldAddr? Tab.env 27 (ptrTo (M.n m1)) 2) fun v19 => (W.onS (load? Tab.env m2 25 v19) fun v20 => (W.onC (.func 53) [v18, v20] m2 fun v21 m22 b23 => (R3 [v21] m22 (min (M.n m) b23)))))))
(R3 [(.bool false)] m2 (M.n m))))))))
(R3 [(.bool false)] m2 (M.n m)))))))))
(fun vs4 m5 lo6 => W.un vs4 fun v24 r25 => (R [v24] m5 lo6))))) := by kernel_rfl

set_option maxRecDepth 100000 in
/-- putlog/draw.within -/
theorem F54 {W : Words} {x0 x1 x2 : Value} {m : M} {R : List Value → M → Nat → Prop} : vcF Tab.env W Tryz.f54 [x0, x1, x2] m R =
(W.jn (fun R1 => (W.onS (bin? Tab.env .leq 3 x1 x0) fun v5 => (ifV v5
(W.onS (bin? Tab.env .leq 3 x0 x2) fun v6 => (R1 [v6] m (M.n m)))
(R1 [(.bool false)] m (M.n m)))))
(fun vs2 m3 lo4 => W.un vs2 fun v7 r8 => (R [v7] m3 lo4))) := by kernel_rfl

set_option maxRecDepth 100000 in
/-- putlog/putloglaw41.shown -/
theorem F31 {W : Words} {x0 x1 x2 : Value} {m : M} {R : List Value → M → Nat → Prop} : vcF Tab.env W Tryz.f31 [x0, x1, x2] m R =
(W.onM (M.push m (.cells (cells x0) 27 none)) fun m1 => (W.jn (fun R2 => (W.onS (bin? Tab.env .lss 3 x1 (.int .i64 0)) fun v6 => (ifV v6
(R2 [(.bool true)] m1 (M.n m))
(W.onS (fieldAddr? Tab.env 27 (ptrTo (M.n m)) 0) fun v7 => (W.onS (load? Tab.env m1 3 v7) fun v8 => (W.onS (bin? Tab.env .geq 3 x1 v8) fun v9 => (ifV v9
(R2 [(.bool true)] m1 (M.n m))
(W.onS (bin? Tab.env .lss 3 x2 (.int .i64 0)) fun v10 => (ifV v10
(R2 [(.bool true)] m1 (M.n m))
(W.onS (fieldAddr? Tab.env 27 (ptrTo (M.n m)) 1) fun v11 => (W.onS (load? Tab.env m1 3 v11) fun v12 => (W.onS (bin? Tab.env .geq 3 x2 v12) fun v13 => (ifV v13
(R2 [(.bool true)] m1 (M.n m))
(W.onS (fieldAddr? Tab.env 27 (ptrTo (M.n m)) 0) fun v14 => (W.onS (load? Tab.env m1 3 v14) fun v15 => (W.onS (bin? Tab.env .mul 3 x2 v15) fun v16 => (W.onS (bin? Tab.env .add 3 v16 x1) fun v17 => (W.onS (fieldAddr? Tab.env 27 (ptrTo (M.n m)) 2) fun v18 => (W.onS (load? Tab.env m1 25 v18) fun v19 => (W.on2 (builtin? Tab.env m1 .len [25] [v19]) fun v20 _ => (W.onS (bin? Tab.env .geq 3 v17 v20) fun v21 => (R2 [v21] m1 (M.n m)))))))))))))))))))))))
(fun vs3 m4 lo5 => W.un vs3 fun v22 r23 => (ifV v22
(R [(.int .i64 (-2))] m4 lo5)
(W.onS (fieldAddr? Tab.env 27 (ptrTo (M.n m)) 2) fun v24 => (W.onS (load? Tab.env m4 25 v24) fun v25 => (W.onS (fieldAddr? Tab.env 27 (ptrTo (M.n m)) 0) fun v26 => (W.onS (load? Tab.env m4 3 v26) fun v27 => (W.onS (bin? Tab.env .mul 3 x2 v27) fun v28 => (W.onS (bin? Tab.env .add 3 v28 x1) fun v29 => (W.onS (indexAddr? Tab.env 25 v25 v29) fun v30 => (W.onS (load? Tab.env m4 3 v30) fun v31 => (R [v31] m4 lo5))))))))))))) := by kernel_rfl

set_option maxRecDepth 100000 in
/-- putlog/putloglaw41.pick -/
theorem F15 {W : Words} {x0 x1 : Value} {m : M} {R : List Value → M → Nat → Prop} : vcF Tab.env W Tryz.f15 [x0, x1] m R =
(W.onS (bin? Tab.env .lss 3 x0 (.int .i64 0)) fun v1 => (ifV v1
(W.onS (bin? Tab.env .add 3 x0 (.int .i64 1)) fun v2 => (W.onS (un? .neg v2) fun v3 => (W.onS (bin? Tab.env .rem 3 v3 x1) fun v4 => (R [v4] m (M.n m)))))
(W.onS (bin? Tab.env .rem 3 x0 x1) fun v5 => (R [v5] m (M.n m))))) := by kernel_rfl

end Go.Proofs.YtjecgmfildhpiaaGreatDoor

/- Contracts: picks, drawings that are valid, that are the same, what a cell shows. -/
namespace Go.Proofs.YtjecgmfildhpiaaGreatDoor
open Go Go.D
variable {X : CallFn} {m : M}

def pickZ (c n : Int) : Int := if c < 0 then (-(c + 1)) % n else c % n
theorem pickZ_lt {c n : Int} (hn : 0 < n) : 0 ≤ pickZ c n ∧ pickZ c n < n := by
  unfold pickZ
  split
  · exact ⟨Int.emod_nonneg _ (by omega), Int.emod_lt_of_pos _ hn⟩
  · exact ⟨Int.emod_nonneg _ (by omega), Int.emod_lt_of_pos _ hn⟩
def R64 (c : Int) : Prop := -9223372036854775808 ≤ c ∧ c < 9223372036854775808
theorem pick_form {c n : Int} (hc : R64 c) (hn : 0 < n) {P : Value → Prop} (h : P (.int .i64 (pickZ c n))) :
    onS (bin? Tab.env .lss 3 (.int .i64 c) (.int .i64 0)) fun v1 => ifV v1
      (onS (bin? Tab.env .add 3 (.int .i64 c) (.int .i64 1)) fun v2 => onS (un? .neg v2) fun v3 => onS (bin? Tab.env .rem 3 v3 (.int .i64 n)) fun v4 => P v4)
      (onS (bin? Tab.env .rem 3 (.int .i64 c) (.int .i64 n)) fun v5 => P v5) := by
  obtain ⟨h1, h2⟩ := hc
  simp only [bin_lss, onS_some, ifV_bool]
  refine ifB_intro (fun hl => ?_) (fun hl => ?_)
  · have hl : c < 0 := by simpa using hl
    simp only [bin_add, onS_some]
    rw [wrap64 (by omega) (by omega), un_neg, onS_some, wrap64 (by omega) (by omega), bin_rem (by omega), onS_some]
    have : pickZ c n = (0 - (c + 1)).tmod n := by
      unfold pickZ
      rw [if_pos hl, Int.tmod_eq_emod_of_nonneg (by omega), Int.zero_sub]
    rw [← this]; exact h
  · have hl : ¬ c < 0 := by simpa using hl
    rw [bin_rem (by omega), onS_some]
    have : pickZ c n = c.tmod n := by
      unfold pickZ
      rw [if_neg hl, Int.tmod_eq_emod_of_nonneg (by omega)]
    rw [← this]; exact h
theorem pickLaw_ok (hX : NoX X) {c n : Int} (hc : R64 c) (hn : 0 < n) : C X (.func 15) [.int .i64 c, .int .i64 n] m m.n (.int .i64 (pickZ c n)) m := by
  refine Cl.flat (hX.no _ rfl) fn_15 rfl rfl ?_
  rw [F15]; dsimp only [plainW]
  exact pick_form hc hn (P := fun v => mkres [v] = .int .i64 (pickZ c n) ∧ m.n ≤ m.n) ⟨rfl, Nat.le_refl _⟩
def inB (n lo hi : Int) : Bool := decide (lo ≤ n) && decide (n ≤ hi)
theorem within_ok (hX : NoX X) (n lo hi : Int) : C X (.func 54) [.int .i64 n, .int .i64 lo, .int .i64 hi] m m.n (.bool (inB n lo hi)) m := by
  refine Cl.flat (hX.no _ rfl) fn_54 rfl rfl ?_
  rw [F54]; dsimp only [plainW]
  refine jn_of (fun vs m2 lo' => vs = [.bool (inB n lo hi)] ∧ m.n ≤ lo') (fun R hR => ?_) ?_
  · simp only [bin_leq, onS_some, ifV_bool]
    refine ifB_intro (fun h => hR _ _ _ ⟨by simp [inB, h], Nat.le_refl _⟩) (fun h => hR _ _ _ ⟨by simp [inB, h], Nat.le_refl _⟩)
  · rintro _ m2 lo' ⟨rfl, hl⟩
    rw [un_cons]
    exact ⟨rfl, hl⟩
/-- A drawing. -/
def drB (w h : Int) (l : List Int) : Bool := inB w 1 40 && inB h 1 40 && decide ((l.length : Int) = w * h) && !(l.any fun n => !(inB n (-1) 99))
end Go.Proofs.YtjecgmfildhpiaaGreatDoor

/- From the model's arguments to D's store. -/
namespace Go.Proofs.YtjecgmfildhpiaaGreatDoor
open Go Go.D Go.ChangeShapes
/-- A row, read only: what is no value without an address is not known. -/
noncomputable def roCells (c : Array Value) : List Value := c.toList.map fun v => bif flat0 v then v else undef
noncomputable def obOf : Option Obj → Ob
  | some (.cells c _ _) => .ro (roCells c)
  | _ => .dead
noncomputable def mOf (W : World) : Nat → M
  | 0 => { st := .e, n := 0, low := 0 }
  | k + 1 => (mOf W k).push (obOf W.heap[k]?)
theorem mOf_n (W : World) : ∀ k, (mOf W k).n = k
  | 0 => rfl
  | k + 1 => by
    show (mOf W k).n + 1 = k + 1
    rw [mOf_n W k]
theorem mOf_get (W : World) : ∀ k b, b < k → (mOf W k).get b = obOf W.heap[b]?
  | k + 1, b, h => by
    show ((mOf W k).push (obOf W.heap[k]?)).get b = _
    by_cases hb : b = k
    · subst hb
      have := M.get_push_new (m := mOf W b) (o := obOf W.heap[b]?)
      rw [mOf_n] at this
      exact this
    · rw [M.get_push_lt (by rw [mOf_n]; omega)]
      exact mOf_get W k b (by omega)
/-- The store that shows the memory as it is when the call begins. -/
noncomputable def storeOf (W : World) : M := (mOf W W.heap.size).wl W.heap.size
theorem storeOf_n (W : World) : (storeOf W).n = W.heap.size := mOf_n W _
theorem storeOf_get (W : World) {b : Nat} (h : b < W.heap.size) : (storeOf W).get b = obOf W.heap[b]? := mOf_get W _ b h
noncomputable def sgOf (W : World) : Sg := fun b => if b < W.heap.size then some ⟨b, none⟩ else none
theorem sgOf_some {W : World} {b : Nat} {i : BI} (h : sgOf W b = some i) : b < W.heap.size ∧ i = ⟨b, none⟩ := by
  unfold sgOf at h
  by_cases hb : b < W.heap.size
  · rw [if_pos hb] at h; cases h; exact ⟨hb, rfl⟩
  · rw [if_neg hb] at h; cases h
theorem sim_storeOf {W : World} (hW : 2 < W.heap.size) : Sim Tryz.prog (sgOf W) (storeOf W) W := by
  refine ⟨fun b i hb => ?_, fun b i hb => ?_, fun b i hb => ?_, fun b b' i i' hb hb' _ _ he => ?_, fun g hg => ?_⟩
  · rw [storeOf_n]; exact (sgOf_some hb).1
  · obtain ⟨h, rfl⟩ := sgOf_some hb
    rw [storeOf_get W h]
    cases ho : W.heap[b]? with
    | none => trivial
    | some o =>
      cases o with
      | cells c e fz =>
        refine ⟨rfl, c, e, fz, ho, by simp [roCells], fun j u u' hu hu' h1 => ?_⟩
        have hu2 : (roCells c)[j]? = some (bif flat0 u' then u' else undef) := by
          unfold roCells
          rw [List.getElem?_map, Array.getElem?_toList, hu']
          rfl
        rw [hu] at hu2
        simp only [Option.some.injEq] at hu2
        subst hu2
        cases hf : flat0 u' with
        | true => exact .flat _ hf
        | false => rw [hf] at h1; cases h1
      | _ => trivial
  · obtain ⟨h, rfl⟩ := sgOf_some hb
    exact h
  · obtain ⟨_, rfl⟩ := sgOf_some hb
    obtain ⟨_, rfl⟩ := sgOf_some hb'
    exact he
  · have hgs : Tryz.prog.globals.size = 3 := by kernel_rfl
    rw [hgs] at hg
    unfold sgOf
    rw [if_pos (by omega)]
/-- A list whose elements are as asked. -/
theorem exists_list {α : Type} {Q : Nat → α → Prop} : ∀ n, (∀ i, i < n → ∃ y, Q i y) → ∃ l : List α, l.length = n ∧ ∀ i y, l[i]? = some y → Q i y
  | 0, _ => ⟨[], rfl, fun i y h => by simp at h⟩
  | n + 1, h => by
    obtain ⟨l, hl, hq⟩ := exists_list n fun i hi => h i (by omega)
    obtain ⟨y, hy⟩ := h n (by omega)
    refine ⟨l ++ [y], by simp [hl], fun i z hz => ?_⟩
    by_cases hi : i < n
    · rw [List.getElem?_append_left (by omega)] at hz
      exact hq i z hz
    · rw [List.getElem?_append_right (by omega), hl] at hz
      obtain rfl : i = n := by
        have := (List.getElem?_eq_some_iff.1 hz).1
        simp at this; omega
      simp at hz
      subst hz
      exact hy
section
variable {H : Type} {enc : TypeId × Value → H} {W : World} {sp : Nat → Bool} {held : Bool} {base : Nat}
set_option maxRecDepth 10000 in
theorem slI_of {t e : TypeId} {α : Type} [Rep α] {Py : α → Prop} {v : Value} {fuel : Nat} {x : DataW H × List MemPlace} (ht : Tryz.prog.underlying t = some (.slice e)) (hce : Tryz.prog.cellsOf e = Rep.sz α)
    (hel : ∀ fuel cs x, DataW.trod enc Tryz.prog W 0 sp held fuel e cs = some x → ∃ y : α, Py y ∧ (∀ m, Rep.rep m y cs) ∧ ∀ u ∈ cs, flat0 u = true)
    (hok : Cell.okWide Tryz.prog W .any base t v) (h : DataW.trod enc Tryz.prog W 0 sp held fuel t [v] = some x) :
    VRel (sgOf W) v v ∧ ∃ l : List α, SlI (storeOf W) l v ∧ l.length < 9223372036854775808 ∧ ∀ y ∈ l, Py y := by
  rcases DataW.trod_slice ht h with ⟨hv, _⟩ | ⟨a, len, cap, elems, rest, n, rfl, hv, rfl, hb, hl, hm, hlen, hels, _, _⟩
  · simp only [List.cons.injEq, and_true] at hv
    subst hv
    exact ⟨.flat _ rfl, [], .inl ⟨rfl, rfl⟩, by simp, fun y hy => by cases hy⟩
  · simp only [List.cons.injEq, and_true] at hv
    subst hv
    simp only [Cell.okWide, Cell.ok, ht] at hok
    obtain ⟨_, _, _, hspot, row, cells, hsh, _⟩ := hok
    obtain ⟨blk, off, spt⟩ := a
    dsimp only at hspot hsh hb
    subst hspot
    unfold World.shape? at hsh
    cases ho : W.heap[blk]? with
    | none => rw [ho] at hsh; cases hsh
    | some o =>
      rw [ho] at hsh
      cases o with
      | cells c e' fz =>
        have hlt : blk < W.heap.size := (Array.getElem?_eq_some_iff.1 ho).1
        have hsg : sgOf W blk = some ⟨blk, none⟩ := by unfold sgOf; rw [if_pos hlt]
        refine ⟨.slice ⟨blk, off, none⟩ ⟨blk, none⟩ len cap hsg rfl rfl, ?_⟩
        have hpos := Rep.pos (α := α)
        obtain ⟨l, hll, hq⟩ := exists_list (Q := fun i (y : α) => Py y ∧ off + i * Rep.sz α + Rep.sz α ≤ (roCells c).length ∧ Rep.rep (storeOf W) y (((roCells c).drop (off + i * Rep.sz α)).take (Rep.sz α))) len fun i hi => by
          have he := hels i hi
          rw [List.getElem?_eq_getElem (by omega)] at he
          obtain ⟨cs', hcs, htr⟩ := Option.bind_eq_some_iff.1 he
          obtain ⟨y, hy, hrep, hfl⟩ := hel _ _ _ htr
          obtain ⟨_, hcl, hat⟩ := World.cells?_some hcs
          rw [hce] at hcl hat
          have hat' : ∀ j, j < Rep.sz α → c[off + i * Rep.sz α + j]? = cs'[j]? := fun j hj => by
            have := hat j hj
            rw [D.add_off, D.add_off] at this
            rw [← this]
            simp only [World.cell?, ho]
            rfl
          have hbound : off + i * Rep.sz α + Rep.sz α ≤ (roCells c).length := by
            have := hat' (Rep.sz α - 1) (by omega)
            rw [List.getElem?_eq_getElem (by omega)] at this
            have := (Array.getElem?_eq_some_iff.1 this).1
            unfold roCells
            rw [List.length_map, Array.length_toList]
            omega
          refine ⟨y, hy, hbound, ?_⟩
          have : ((roCells c).drop (off + i * Rep.sz α)).take (Rep.sz α) = cs' := by
            apply List.ext_getElem?
            intro j
            by_cases hj : j < Rep.sz α
            · rw [List.getElem?_take_of_lt hj, List.getElem?_drop]
              unfold roCells
              rw [List.getElem?_map, Array.getElem?_toList, hat' j hj]
              cases hu : cs'[j]? with
              | none => rfl
              | some u =>
                rw [Option.map_some, hfl u (List.mem_of_getElem? hu)]
                rfl
            · rw [List.getElem?_eq_none (by rw [List.length_take]; omega), List.getElem?_eq_none (by omega)]
          rw [this]
          exact hrep _
        refine ⟨l, .inr ⟨blk, off, cap, roCells c, by rw [hll], ?_, fun i y hi => ⟨(hq i y hi).2.1, (hq i y hi).2.2⟩⟩, ?_, fun y hy => ?_⟩
        · rw [storeOf_get W hlt, ho]
          rfl
        · have : maxLen < 9223372036854775808 := by unfold maxLen; decide
          omega
        · obtain ⟨i, hi⟩ := List.mem_iff_getElem?.1 hy
          exact (hq i y hi).1
      | _ => cases hsh
/-- An array of integers. -/
theorem ints_of {t : TypeId} {n : Nat} {cs : List Value} {fuel : Nat} {x : DataW H × List MemPlace} (ht : Tryz.prog.underlying t = some (.array n 3)) (hct : Tryz.prog.cellsOf t = n)
    (h : DataW.trod enc Tryz.prog W 0 sp held fuel t cs = some x) : ∃ l : List Int, cs = l.map (.int .i64) ∧ l.length = n ∧ ∀ z ∈ l, R64 z := by
  obtain ⟨xs, m, rfl, rfl, hcl, hxl, hel⟩ := DataW.trod_array ht h
  rw [hct] at hcl
  have h3 : Tryz.prog.underlying 3 = some (.int .i64) := by kernel_rfl
  have hc3 : Tryz.prog.cellsOf 3 = 1 := by kernel_rfl
  obtain ⟨l, hl, hq⟩ := exists_list (Q := fun i (z : Int) => cs[i]? = some (.int .i64 z) ∧ R64 z) n fun i hi => by
    have := hel i hi
    rw [hc3, List.getElem?_eq_getElem (by omega)] at this
    obtain ⟨z, hz, _, hwf⟩ := DataW.trod_int h3 this
    refine ⟨z, ?_, ?_⟩
    · have := congrArg (fun q : List Value => q[0]?) hz
      simpa [List.getElem?_take_of_lt, List.getElem?_drop] using this
    · have hmm : IntKind.i64.min = -9223372036854775808 ∧ IntKind.i64.max = 9223372036854775807 := ⟨by decide, by decide⟩
      simp only [Lit.wf, Bool.and_eq_true, decide_eq_true_eq, hmm] at hwf
      unfold R64
      omega
  refine ⟨l, ?_, hl, fun z hz => ?_⟩
  · apply List.ext_getElem?
    intro i
    by_cases hi : i < n
    · have hz : l[i]? = some l[i] := List.getElem?_eq_getElem (by omega)
      rw [(hq i _ hz).1, List.getElem?_map, hz]
      rfl
    · rw [List.getElem?_eq_none (by omega), List.getElem?_eq_none (by rw [List.length_map]; omega)]
  · obtain ⟨i, hi⟩ := List.mem_iff_getElem?.1 hz
    exact (hq i z hi).2
end
end Go.Proofs.YtjecgmfildhpiaaGreatDoor

/- The arguments as the memory holds them; from a contract to the call. -/
namespace Go.Proofs.YtjecgmfildhpiaaGreatDoor
open Go Go.D Go.ChangeShapes
theorem u_int : Tryz.prog.underlying 3 = some (.int .i64) := by kernel_rfl
theorem u_bool : Tryz.prog.underlying 4 = some .bool := by kernel_rfl
theorem wf_R64 {k : Int} (h : (Lit.int .i64 k).wf = true) : R64 k := by
  have hmm : IntKind.i64.min = -9223372036854775808 ∧ IntKind.i64.max = 9223372036854775807 := ⟨by decide, by decide⟩
  simp only [Lit.wf, Bool.and_eq_true, decide_eq_true_eq, hmm] at h
  unfold R64
  omega
section
variable {H : Type} {enc : TypeId × Value → H} {W : World} {sp : Nat → Bool} {held : Bool} {base : Nat}
set_option maxRecDepth 100000 in
theorem int_of {v : Value} {d : DataW H} {ps : List MemPlace} (hok : Value.okWide Tryz.prog W .any base 3 v) (h : DataW.Trod enc Tryz.prog W 0 sp held 3 v d ps) :
    VRel (sgOf W) v v ∧ ∃ z, v = .int .i64 z ∧ R64 z := by
  obtain ⟨fuel, h⟩ := h
  obtain ⟨z, hz, _, hwf⟩ := DataW.trod_int u_int h
  have hv : v = .int .i64 z := by
    simp only [Value.okWide, u_int] at hok
    cases v with
    | agg cs =>
      exfalso
      revert hok
      simp [Cell.okWide, Cell.ok, u_int]
    | int k n => simpa [Value.cells] using hz
    | _ => simp [Value.cells] at hz
  subst hv
  exact ⟨VRel.of_flat1 rfl, z, rfl, wf_R64 hwf⟩
end
/-- What a contract says of the call. -/
theorem calls_of_cl {X : CallFn} (hX : CallOK Tryz.prog X) {W : World} (hW : 2 < W.heap.size) {f : Nat} {args : List Value} {args' : Array Value} {m' : M} {b : Bool} (h : C X (.func f) args (storeOf W) (storeOf W).n (.bool b) m') (hl : LRel (sgOf W) args args'.toList) :
    Calls Tryz.prog f args' W fun e W' => e = .returned (.bool b) ∧ Go.RowKit.Below W.heap.size W W' := by
  obtain ⟨hn, _, n0, hc⟩ := h
  have h1 := hc n0 (Nat.le_refl _) (storeOf W).n (Nat.le_refl _)
  have hsim : Sim Tryz.prog (sgOf W) ((storeOf W).wl (storeOf W).n) W := by
    have := sim_storeOf hW
    exact ⟨this.dom, this.obj, this.lt, this.inj, this.glob⟩
  refine (calls_of_run Tab.ok hX h1 hsim hl).mono fun e w' he => ?_
  obtain ⟨v', σ', rfl, hv, hev⟩ := he
  have hv' := hv.eq_of_flat0 rfl
  subst hv'
  refine ⟨rfl, hev.os, hev.tape, hev.output, hev.hle, fun B hB => hev.heap B hB fun b i hb hi => ?_⟩
  have := (sgOf_some hb).1
  show b < min (storeOf W).n (storeOf W).n
  rw [storeOf_n]
  omega
end Go.Proofs.YtjecgmfildhpiaaGreatDoor
