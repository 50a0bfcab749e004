/- Contracts: spells, days, papers, laws and registries that are valid. Contracts: laws and registries that are valid; wishes; which papers apply. Contracts: laws and registries that are valid; wishes; which papers apply. Contracts: wishes, queries, which papers apply. Contracts: which facts and clauses apply. Contracts: which facts and clauses apply. Contracts: the facts and the clauses that apply. -/
import Derived.Test.YtbpmlholiohkpaaGreatDoorC1
/- Contracts: spells, days, papers, laws and registries that are valid. -/
namespace Go.Proofs.YtbpmlholiohkpaaGreatDoor
open Go Go.D
variable {X : CallFn} {m : M}

def inB (n lo hi : Int) : Bool := decide (lo ≤ n) && decide (n ≤ hi)
theorem isIn46_ok (hX : NoX X) (n lo hi : Int) : C X (.func 46) [.int .i64 n, .int .i64 lo, .int .i64 hi] m m.n (.bool (inB n lo hi)) m := by
  refine Cl.flat (hX.no 46 rfl) fn_46 rfl rfl ?_
  rw [F46]
  simp only [onS_some, on2_some, onFn_func, ifV_bool, ifB_true, ifB_false, bin_leq, bin_lss, bin_geq, bin_gtr, bin_eql, bin_neq, un_not, ptrTo, nilck_ptr, nilck_func, Nat.zero_add, Nat.reduceAdd, List.getElem?_cons_zero, List.getElem?_cons_succ, List.drop_zero, List.drop_succ_cons, List.take_succ_cons, List.take_zero, Option.map_some, cells_agg, cells_int, cells_bool, cells_slice, cells_ptr, cells_map, cells_func]
  refine ifB_intro (fun h => ?_) (fun h => ?_)
  · exact ⟨by simp [mkres, inB, h], Nat.le_refl _⟩
  · exact ⟨by simp [mkres, inB, h], Nat.le_refl _⟩
theorem isIn70_ok (hX : NoX X) (n lo hi : Int) : C X (.func 70) [.int .i64 n, .int .i64 lo, .int .i64 hi] m m.n (.bool (inB n lo hi)) m := by
  refine Cl.flat (hX.no 70 rfl) fn_70 rfl rfl ?_
  rw [F70]
  simp only [onS_some, on2_some, onFn_func, ifV_bool, ifB_true, ifB_false, bin_leq, bin_lss, bin_geq, bin_gtr, bin_eql, bin_neq, un_not, ptrTo, nilck_ptr, nilck_func, Nat.zero_add, Nat.reduceAdd, List.getElem?_cons_zero, List.getElem?_cons_succ, List.drop_zero, List.drop_succ_cons, List.take_succ_cons, List.take_zero, Option.map_some, cells_agg, cells_int, cells_bool, cells_slice, cells_ptr, cells_map, cells_func]
  refine ifB_intro (fun h => ?_) (fun h => ?_)
  · exact ⟨by simp [mkres, inB, h], Nat.le_refl _⟩
  · exact ⟨by simp [mkres, inB, h], Nat.le_refl _⟩
/-- A spell of days. -/
def spB (f t : Int) : Bool := decide (0 ≤ f) && (decide (f < t) && decide (t ≤ 800000))
def Spell.ok (s : Spell) : Bool := spB s.f s.t
theorem isSpell72_ok (hX : NoX X) (f t : Int) : C X (.func 72) [.agg #[.int .i64 f, .int .i64 t]] m m.n (.bool (spB f t)) m := by
  refine Cl.flat (hX.no 72 rfl) fn_72 rfl rfl ?_
  rw [F72]
  refine onM_push fun m1 hn hg hk => ?_
  simp only [cells_agg] at hg
  simp only [onS_some, on2_some, onFn_func, ifV_bool, ifB_true, ifB_false, bin_leq, bin_lss, bin_geq, bin_gtr, bin_eql, bin_neq, un_not, ptrTo, nilck_ptr, nilck_func, Nat.zero_add, Nat.reduceAdd, List.getElem?_cons_zero, List.getElem?_cons_succ, List.drop_zero, List.drop_succ_cons, List.take_succ_cons, List.take_zero, Option.map_some, cells_agg, cells_int, cells_bool, cells_slice, cells_ptr, cells_map, cells_func, fieldAddr_62_0, fieldAddr_62_1, load_3, cellAt_of hg]
  refine ifB_intro (fun h1 => ?_) (fun h => ?_)
  · refine ifB_intro (fun h2 => ?_) (fun h => ?_)
    · exact ⟨by simp [mkres, spB, h1, h2], Nat.le_refl _⟩
    · exact ⟨by simp [mkres, spB, h], Nat.le_refl _⟩
  · exact ⟨by simp [mkres, spB, h], Nat.le_refl _⟩
theorem isDay_ok (hX : NoX X) (n : Int) : C X (.func 75) [.int .i64 n] m m.n (.bool (inB n 0 799999)) m := by
  refine Cl.flat (hX.no 75 rfl) fn_75 rfl rfl ?_
  rw [F75]
  refine onC_of (isIn70_ok hX _ _ _) ?_
  exact ⟨rfl, by omega⟩
theorem isSpell76_ok (hX : NoX X) (f t : Int) : C X (.func 76) [.agg #[.int .i64 f, .int .i64 t]] m m.n (.bool (spB f t)) m := by
  refine Cl.flat (hX.no 76 rfl) fn_76 rfl rfl ?_
  rw [F76]
  refine onM_push fun m1 hn hg hk => ?_
  simp only [cells_agg] at hg
  simp only [onS_some, on2_some, onFn_func, ifV_bool, ifB_true, ifB_false, bin_leq, bin_lss, bin_geq, bin_gtr, bin_eql, bin_neq, un_not, ptrTo, nilck_ptr, nilck_func, Nat.zero_add, Nat.reduceAdd, List.getElem?_cons_zero, List.getElem?_cons_succ, List.drop_zero, List.drop_succ_cons, List.take_succ_cons, List.take_zero, Option.map_some, cells_agg, cells_int, cells_bool, cells_slice, cells_ptr, cells_map, cells_func, fieldAddr_62_0, fieldAddr_62_1, load_3, cellAt_of hg]
  refine onC_of (isDay_ok hX _) ?_
  simp only [onS_some, on2_some, onFn_func, ifV_bool, ifB_true, ifB_false, bin_leq, bin_lss, bin_geq, bin_gtr, bin_eql, bin_neq, un_not, ptrTo, nilck_ptr, nilck_func, Nat.zero_add, Nat.reduceAdd, List.getElem?_cons_zero, List.getElem?_cons_succ, List.drop_zero, List.drop_succ_cons, List.take_succ_cons, List.take_zero, Option.map_some, cells_agg, cells_int, cells_bool, cells_slice, cells_ptr, cells_map, cells_func, fieldAddr_62_0, fieldAddr_62_1, load_3, cellAt_of hg]
  refine ifB_intro (fun h1 => ?_) (fun h => ?_)
  · simp only [inB, Bool.and_eq_true, decide_eq_true_eq] at h1
    simp only [bin_add, onS_some]
    rw [wrap64 (by omega) (by omega)]
    refine onC_of (isIn70_ok hX _ _ _) ?_
    refine ⟨?_, by omega⟩
    simp only [mkres, spB, inB, Value.bool.injEq]
    have e1 : decide (0 ≤ f) = true := by simp [h1.1]
    have e2 : decide (f + 1 ≤ t) = decide (f < t) := by by_cases h : f < t <;> simp [h] <;> omega
    rw [e1, e2, Bool.true_and]
  · refine ⟨?_, by omega⟩
    simp only [mkres, spB, Value.bool.injEq]
    simp only [inB, Bool.and_eq_false_iff, decide_eq_false_iff_not] at h
    symm
    simp only [Bool.and_eq_false_iff, decide_eq_false_iff_not]
    omega
/-- The fields that deeds and grants have in common. -/
def paperB (u o : Int) (s k : Spell) : Bool := inB u 0 99 && (inB o 0 50 && (s.ok && k.ok))
theorem isPaper_ok (hX : NoX X) (u o : Int) (s k : Spell) : C X (.func 44) [.int .i64 u, .int .i64 o, s.v, k.v] m m.n (.bool (paperB u o s k)) m := by
  refine Cl.flat (hX.no 44 rfl) fn_44 rfl rfl ?_
  rw [F44]
  refine onM_push fun m1 hn1 hg1 hk1 => ?_
  refine onM_push fun m2 hn2 hg2 hk2 => ?_
  have hg1' := (hk2 m.n (by omega)).trans hg1
  simp only [cells_agg] at hg1' hg2
  refine onC_of (isIn46_ok hX _ _ _) ?_
  simp only [ifV_bool]
  refine ifB_intro (fun h1 => ?_) (fun h => ⟨by simp [mkres, paperB, h], by omega⟩)
  refine onC_of (isIn46_ok hX _ _ _) ?_
  simp only [ifV_bool]
  refine ifB_intro (fun h2 => ?_) (fun h => ⟨by simp [mkres, paperB, h], by omega⟩)
  rw [show load? Tab.env m2 62 (ptrTo m.n) = some s.v by rw [ptrTo, load_62, loadCells_of hg1' (by simp)]; rfl, onS_some]
  refine onC_of (isSpell72_ok hX _ _) ?_
  simp only [ifV_bool]
  refine ifB_intro (fun h3 => ?_) (fun h => ⟨by simp [mkres, paperB, Spell.ok, h], by omega⟩)
  rw [show load? Tab.env m2 62 (ptrTo m1.n) = some k.v by rw [ptrTo, load_62, loadCells_of hg2 (by simp)]; rfl, onS_some]
  refine onC_of (isSpell72_ok hX _ _) ?_
  exact ⟨by simp [mkres, paperB, Spell.ok, h1, h2, h3], by omega⟩
def Deed.ok (d : Deed) : Bool := paperB d.unit d.owner d.sp d.kn
def Grant.ok (g : Grant) : Bool := paperB g.unit g.owner g.sp g.kn && inB g.kind 1 9
theorem badDeed_ok (hX : NoX X) (d : Deed) : C X (.func 43) [.agg d.c.toArray] m m.n (.bool (!d.ok)) m := by
  refine Cl.flat (hX.no 43 rfl) fn_43 rfl rfl ?_
  rw [F43]
  refine onM_push fun m1 hn1 hg1 hk1 => ?_
  simp only [cells_agg] at hg1
  simp only [onS_some, on2_some, onFn_func, ifV_bool, ifB_true, ifB_false, bin_leq, bin_lss, bin_geq, bin_gtr, bin_eql, bin_neq, un_not, ptrTo, nilck_ptr, nilck_func, Nat.zero_add, Nat.reduceAdd, List.getElem?_cons_zero, List.getElem?_cons_succ, List.drop_zero, List.drop_succ_cons, List.take_succ_cons, List.take_zero, Option.map_some, cells_agg, cells_int, cells_bool, cells_slice, cells_ptr, cells_map, cells_func, fieldAddr_69_0, fieldAddr_69_1, fieldAddr_69_2, fieldAddr_69_3, load_3, load_62, cellAt_of hg1]
  rw [loadCells_of hg1 (by simp), loadCells_of hg1 (by simp)]
  simp only [onS_some, on2_some, onFn_func, ifV_bool, ifB_true, ifB_false, bin_leq, bin_lss, bin_geq, bin_gtr, bin_eql, bin_neq, un_not, ptrTo, nilck_ptr, nilck_func, Nat.zero_add, Nat.reduceAdd, List.getElem?_cons_zero, List.getElem?_cons_succ, List.drop_zero, List.drop_succ_cons, List.take_succ_cons, List.take_zero, Option.map_some, cells_agg, cells_int, cells_bool, cells_slice, cells_ptr, cells_map, cells_func]
  refine onC_of (isPaper_ok hX d.unit d.owner d.sp d.kn) ?_
  simp only [onS_some, on2_some, onFn_func, ifV_bool, ifB_true, ifB_false, bin_leq, bin_lss, bin_geq, bin_gtr, bin_eql, bin_neq, un_not, ptrTo, nilck_ptr, nilck_func, Nat.zero_add, Nat.reduceAdd, List.getElem?_cons_zero, List.getElem?_cons_succ, List.drop_zero, List.drop_succ_cons, List.take_succ_cons, List.take_zero, Option.map_some, cells_agg, cells_int, cells_bool, cells_slice, cells_ptr, cells_map, cells_func]
  exact ⟨by simp [mkres, Deed.ok], by omega⟩
theorem badGrant_ok (hX : NoX X) (d : Grant) : C X (.func 45) [.agg d.c.toArray] m m.n (.bool (!d.ok)) m := by
  refine Cl.flat (hX.no 45 rfl) fn_45 rfl rfl ?_
  rw [F45]
  refine onM_push fun m1 hn1 hg1 hk1 => ?_
  simp only [cells_agg] at hg1
  simp only [onS_some, on2_some, onFn_func, ifV_bool, ifB_true, ifB_false, bin_leq, bin_lss, bin_geq, bin_gtr, bin_eql, bin_neq, un_not, ptrTo, nilck_ptr, nilck_func, Nat.zero_add, Nat.reduceAdd, List.getElem?_cons_zero, List.getElem?_cons_succ, List.drop_zero, List.drop_succ_cons, List.take_succ_cons, List.take_zero, Option.map_some, cells_agg, cells_int, cells_bool, cells_slice, cells_ptr, cells_map, cells_func, fieldAddr_71_0, fieldAddr_71_1, fieldAddr_71_2, fieldAddr_71_3, fieldAddr_71_4, load_3, load_62, cellAt_of hg1]
  rw [loadCells_of hg1 (by simp), loadCells_of hg1 (by simp)]
  simp only [onS_some, on2_some, onFn_func, ifV_bool, ifB_true, ifB_false, bin_leq, bin_lss, bin_geq, bin_gtr, bin_eql, bin_neq, un_not, ptrTo, nilck_ptr, nilck_func, Nat.zero_add, Nat.reduceAdd, List.getElem?_cons_zero, List.getElem?_cons_succ, List.drop_zero, List.drop_succ_cons, List.take_succ_cons, List.take_zero, Option.map_some, cells_agg, cells_int, cells_bool, cells_slice, cells_ptr, cells_map, cells_func]
  refine onC_of (isPaper_ok hX d.unit d.owner d.sp d.kn) ?_
  simp only [onS_some, on2_some, onFn_func, ifV_bool, ifB_true, ifB_false, bin_leq, bin_lss, bin_geq, bin_gtr, bin_eql, bin_neq, un_not, ptrTo, nilck_ptr, nilck_func, Nat.zero_add, Nat.reduceAdd, List.getElem?_cons_zero, List.getElem?_cons_succ, List.drop_zero, List.drop_succ_cons, List.take_succ_cons, List.take_zero, Option.map_some, cells_agg, cells_int, cells_bool, cells_slice, cells_ptr, cells_map, cells_func, fieldAddr_71_0, fieldAddr_71_1, fieldAddr_71_2, fieldAddr_71_3, fieldAddr_71_4, load_3, load_62, cellAt_of hg1]
  refine ifB_intro (fun h1 => ?_) (fun h => ?_)
  · exact ⟨by simp only [Bool.not_eq_true'] at h1; simp [mkres, Grant.ok, h1], by omega⟩
  · refine onC_of (isIn46_ok hX _ _ _) ?_
    simp only [onS_some, on2_some, onFn_func, ifV_bool, ifB_true, ifB_false, bin_leq, bin_lss, bin_geq, bin_gtr, bin_eql, bin_neq, un_not, ptrTo, nilck_ptr, nilck_func, Nat.zero_add, Nat.reduceAdd, List.getElem?_cons_zero, List.getElem?_cons_succ, List.drop_zero, List.drop_succ_cons, List.take_succ_cons, List.take_zero, Option.map_some, cells_agg, cells_int, cells_bool, cells_slice, cells_ptr, cells_map, cells_func]
    exact ⟨by simp only [Bool.not_eq_false'] at h; simp [mkres, Grant.ok, h], by omega⟩
end Go.Proofs.YtbpmlholiohkpaaGreatDoor

/- Contracts: laws and registries that are valid; wishes; which papers apply. -/
namespace Go.Proofs.YtbpmlholiohkpaaGreatDoor
open Go Go.D
variable {X : CallFn} {m : M}

/-- The closure of ascends: it remembers the number. -/
theorem ascends1_ok (hX : NoX X) {bl bb : Nat} {last below n : Int} {e1 e2 : TypeId} {g1 g2 : Option Nat} (hl : m.get bl = .cells [.int .i64 last] e1 g1) (hb : m.get bb = .cells [.int .i64 below] e2 g2) (hne : bb ≠ bl) (h1 : -1000 ≤ last ∧ last ≤ 1000) (h2 : -1000 ≤ below ∧ below ≤ 1000) :
    ∃ m', C X (.func 127) [.int .i64 n, ptrTo bl, ptrTo bb] m bl (.bool (!(inB n (last + 1) (below - 1)))) m' ∧ m'.n = m.n ∧ m'.get bl = .cells [.int .i64 n] e1 g1 ∧ ∀ c, c ≠ bl → m'.get c = m.get c := by
  have hlt := M.lt_of_get hl
  have key := Cl.heap (E := Tab.env) (X := X) (f := 127) (args := [.int .i64 n, ptrTo bl, ptrTo bb]) (m := m) (R := fun v m' b => v = .bool (!(inB n (last + 1) (below - 1))) ∧ b = bl ∧ m'.n = m.n ∧ m'.get bl = .cells [.int .i64 n] e1 g1 ∧ ∀ c, c ≠ bl → m'.get c = m.get c) (hX.no 127 rfl) fn_127 rfl ?_
  · obtain ⟨v, m', b, hc, rfl, rfl, h3⟩ := key
    exact ⟨m', hc, h3⟩
  · rw [F127]
    simp only [ptrTo, load_3, cellAt_of hl, List.getElem?_cons_zero, onS_some]
    refine on2_store ty_3 hl (by rfl) (by simp [cells_int]) rfl fun m1 hn hg hk => ?_
    have hb' := (hk bb hne).trans hb
    simp only [onS_some, on2_some, onFn_func, ifV_bool, ifB_true, ifB_false, bin_leq, bin_lss, bin_geq, bin_gtr, bin_eql, bin_neq, un_not, ptrTo, nilck_ptr, nilck_func, Nat.zero_add, Nat.reduceAdd, List.getElem?_cons_zero, List.getElem?_cons_succ, List.drop_zero, List.drop_succ_cons, List.take_succ_cons, List.take_zero, Option.map_some, cells_agg, cells_int, cells_bool, cells_slice, cells_ptr, cells_map, cells_func, load_3, ty_3, cellAt_of hb', bin_add, bin_sub]
    rw [wrap64 (by omega) (by omega), wrap64 (by omega) (by omega)]
    refine onC_of (isIn70_ok hX _ _ _) ?_
    simp only [onS_some, on2_some, onFn_func, ifV_bool, ifB_true, ifB_false, bin_leq, bin_lss, bin_geq, bin_gtr, bin_eql, bin_neq, un_not, ptrTo, nilck_ptr, nilck_func, Nat.zero_add, Nat.reduceAdd, List.getElem?_cons_zero, List.getElem?_cons_succ, List.drop_zero, List.drop_succ_cons, List.take_succ_cons, List.take_zero, Option.map_some, cells_agg, cells_int, cells_bool, cells_slice, cells_ptr, cells_map, cells_func]
    exact ⟨.inr (by omega), by rw [mkres], by omega, hn, by simpa [cells_int] using hg, hk⟩
/-- Strictly ascending numbers between two others. -/
def ascB (below : Int) : Int → List Int → Bool
  | _, [] => true
  | p, n :: r => inB n (p + 1) (below - 1) && ascB below n r
def ascends (l : List Int) (below : Int) : Bool := decide (l.length ≤ 4) && ascB below (-1) l
/-- The number before the i-th. -/
def before (l : List Int) (i : Nat) : Int := if i = 0 then -1 else (l[i - 1]?).getD 0
theorem ascB_iff (below : Int) : ∀ (l : List Int) (p : Int), ascB below p l = true ↔ ∀ i n, l[i]? = some n → inB n ((if i = 0 then p else (l[i - 1]?).getD 0) + 1) (below - 1) = true
  | [], p => by simp [ascB]
  | x :: l, p => by
    simp only [ascB, Bool.and_eq_true, ascB_iff below l x]
    constructor
    · rintro ⟨h1, h2⟩ i n hi
      cases i with
      | zero => simp at hi; subst hi; simpa using h1
      | succ i =>
        have := h2 i n (by simpa using hi)
        cases i with
        | zero => simpa using this
        | succ i => simpa using this
    · intro h
      refine ⟨by simpa using h 0 x rfl, fun i n hi => ?_⟩
      have := h (i + 1) n (by simpa using hi)
      cases i with
      | zero => simpa using this
      | succ i => simpa using this
theorem ascends_ok (hX : NoX X) {l : List Int} {v : Value} {below : Int} (hl : Sl m l v) (h2 : -1000 ≤ below ∧ below ≤ 1000) : C X (.func 77) [v, .int .i64 below] m m.n (.bool (ascends l below)) m := by
  refine Cl.flat (hX.no 77 rfl) fn_77 rfl rfl ?_
  rw [F77]
  refine onM_push fun m1 hn1 hg1 hk1 => ?_
  refine onM_push fun m2 hn2 hg2 hk2 => ?_
  have hg1' := (hk2 m.n (by omega)).trans hg1
  rw [cells_int] at hg1'
  rw [ptrTo]
  refine on2_store ty_3 hg2 (by rfl) (by simp [cells_int]) rfl fun m3 hn3 hg3 hk3 => ?_
  have hb3 := (hk3 m.n (by omega)).trans hg1'
  have he : Ext m m3 := ⟨by omega, fun b hb => by rw [hk3 b (by omega), hk2 b (by omega), hk1 b hb]⟩
  have hl3 := hl.keepE he
  rw [hl3.len slt_int, on2_some]
  simp only [onS_some, on2_some, onFn_func, ifV_bool, ifB_true, ifB_false, bin_leq, bin_lss, bin_geq, bin_gtr, bin_eql, bin_neq, un_not, ptrTo, nilck_ptr, nilck_func, Nat.zero_add, Nat.reduceAdd, List.getElem?_cons_zero, List.getElem?_cons_succ, List.drop_zero, List.drop_succ_cons, List.take_succ_cons, List.take_zero, Option.map_some, cells_agg, cells_int, cells_bool, cells_slice, cells_ptr, cells_map, cells_func, len_26, ty_3]
  refine ifB_intro (fun h => ?_) (fun h => ⟨by simp [mkres, ascends]; simp at h; omega, by omega⟩)
  have hlen : l.length ≤ 4 := by simp at h; omega
  -- the loop
  let p : Nat → Bool := fun i => !(inB ((l[i]?).getD 0) (before l i + 1) (below - 1))
  have hidx : ∃ r m' b, C X (.func 154) [v, .func (.func 127) #[] #[ptrTo m1.n, ptrTo m.n]] m3 b (.int .i64 r) m' ∧ decide (0 ≤ r) = !(ascB below (-1) l) ∧ m.n ≤ b := by
    have key := Cl.gen (E := Tab.env) (X := X) (f := 154) (args := [v, .func (.func 127) #[] #[ptrTo m1.n, ptrTo m.n]]) (m := m3) (R := fun w m' b => ∃ r, w = .int .i64 r ∧ decide (0 ≤ r) = !(ascB below (-1) l) ∧ m.n ≤ b) (hX.no 154 rfl) fn_154 rfl ?_
    · obtain ⟨w, m', b, hc, r, rfl, h3⟩ := key
      exact ⟨r, m', b, hc, h3⟩
    · have hcase : ∀ lo : Nat, m.n ≤ lo → ∀ r : Int, ∀ m' : M, decide (0 ≤ r) = !(ascB below (-1) l) → (flat2 (mkres [.int .i64 r]) = true ∧ m3.n ≤ lo ∧ ∃ r', mkres [.int .i64 r] = .int .i64 r' ∧ decide (0 ≤ r') = !(ascB below (-1) l) ∧ m.n ≤ m3.n) ∨ ((flat2 (mkres [.int .i64 r]) = false ∨ lo < m3.n) ∧ ∃ r', mkres [.int .i64 r] = .int .i64 r' ∧ decide (0 ≤ r') = !(ascB below (-1) l) ∧ m.n ≤ min m3.n lo) := by
        intro lo hlo r m' hr
        by_cases hc : m3.n ≤ lo
        · exact .inl ⟨rfl, hc, r, rfl, hr, by omega⟩
        · exact .inr ⟨.inr (by omega), r, rfl, hr, by omega⟩
      refine indexFunc154_vc (l := l) (fun i mm lo => mm.n = m3.n ∧ m.n ≤ lo ∧ mm.get m1.n = .cells [.int .i64 (before l i)] 3 none ∧ (∀ c, c ≠ m1.n → mm.get c = m3.get c) ∧ ∀ j, j < i → p j = false) (fun i mm lo => m.n ≤ lo ∧ p i = true ∧ i < l.length) p (by omega) ?_ ?_ ?_ ?_ ?_
      · rintro i mm lo ⟨hn, hlo, hg, hk, _⟩
        refine hl.keepE ⟨by omega, fun b hb => by rw [hk b (by omega), he.get b hb]⟩
      · rintro i x mm lo hx ⟨hn, hlo, hg, hk, hp⟩ cs rfl
        have hbe : -1 ≤ before l i ∧ before l i ≤ below - 1 ∨ i = 0 := by
          cases i with
          | zero => exact .inr rfl
          | succ i =>
            have := hp i (by omega)
            simp only [p, Bool.not_eq_false'] at this
            have hlt := (List.getElem?_eq_some_iff.1 hx).1
            have hge : ∀ j, j < i + 1 → -1 ≤ before l (j + 1) := by
              intro j
              induction j with
              | zero =>
                intro hj
                have := hp 0 (by omega)
                simp only [p, Bool.not_eq_false', inB, before, Bool.and_eq_true, decide_eq_true_eq] at this
                simp only [before]
                simp at this ⊢
                omega
              | succ j ih =>
                intro hj
                have h5 := ih (by omega)
                have := hp (j + 1) (by omega)
                simp only [p, Bool.not_eq_false', inB, Bool.and_eq_true, decide_eq_true_eq] at this
                simp only [before, Nat.add_eq_zero_iff, Nat.one_ne_zero, and_false, if_false, Nat.add_sub_cancel]
                omega
            simp only [inB, Bool.and_eq_true, decide_eq_true_eq] at this
            refine .inl ⟨hge i (by omega), ?_⟩
            simp only [before, Nat.add_eq_zero_iff, Nat.one_ne_zero, and_false, if_false, Nat.add_sub_cancel]
            omega
        have hbd : -1000 ≤ before l i ∧ before l i ≤ 1000 := by
          rcases hbe with h5 | rfl
          · omega
          · simp [before]
        obtain ⟨m', hc, q1, q2, q3⟩ := ascends1_ok hX (n := x) hg ((hk m.n (by omega)).trans hb3) (by omega) hbd h2
        have hpi : p i = !(inB x (before l i + 1) (below - 1)) := by simp only [p, hx, Option.getD_some]
        refine ⟨_, m', by rw [hpi]; exact hc, fun h5 => ⟨by omega, h5, (List.getElem?_eq_some_iff.1 hx).1⟩, fun h5 => ⟨by omega, by omega, ?_, fun c hc => by rw [q3 c hc, hk c hc], fun j hj => ?_⟩⟩
        · rw [q2]
          simp only [before, Nat.add_eq_zero_iff, Nat.one_ne_zero, and_false, if_false, Nat.add_sub_cancel, hx, Option.getD_some]
        · by_cases e : j = i
          · subst e; exact h5
          · exact hp j (by omega)
      · refine ⟨rfl, by omega, ?_, fun c _ => rfl, fun j hj => by omega⟩
        rw [hg3]; simp [cells_int, before]
      · rintro i m2' lo2 hi hp ⟨hlo, _, _⟩
        refine hcase lo2 hlo _ m2' ?_
        have : ascB below (-1) l = false := by
          cases hc : ascB below (-1) l with
          | false => rfl
          | true =>
            have := (ascB_iff below l (-1)).1 hc i l[i] (List.getElem?_eq_getElem hi)
            simp only [p, before, List.getElem?_eq_getElem hi, Option.getD_some, Bool.not_eq_true'] at hp
            rw [hp] at this; cases this
        rw [this]; simp
      · rintro m2' lo2 ⟨_, hlo, _, _, hp⟩
        refine hcase lo2 hlo _ m2' ?_
        have : ascB below (-1) l = true := by
          rw [ascB_iff]
          intro i n hi
          have := hp i (List.getElem?_eq_some_iff.1 hi).1
          simpa only [p, before, hi, Option.getD_some, Bool.not_eq_false'] using this
        rw [this]; rfl
  obtain ⟨r, m', b, hc, hr, hb⟩ := hidx
  have hcon : ∃ m9 b9, C X (.func 118) [v, .func (.func 127) #[] #[ptrTo m1.n, ptrTo m.n]] m3 b9 (.bool (!(ascB below (-1) l))) m9 ∧ m.n ≤ b9 := by
    have key := Cl.gen (E := Tab.env) (X := X) (f := 118) (args := [v, .func (.func 127) #[] #[ptrTo m1.n, ptrTo m.n]]) (m := m3) (R := fun w m' b => w = .bool (!(ascB below (-1) l)) ∧ m.n ≤ b) (hX.no 118 rfl) fn_118 rfl ?_
    · obtain ⟨w, m', b, hc, rfl, h3⟩ := key
      exact ⟨m', b, hc, h3⟩
    · rw [F118]
      refine onC_of hc ?_
      simp only [bin_geq, onS_some, hr]
      by_cases hcc : m3.n ≤ min m3.n b
      · exact .inl ⟨rfl, hcc, rfl, by omega⟩
      · exact .inr ⟨.inr (by omega), rfl, by omega⟩
  obtain ⟨m9, b9, hc9, hb9⟩ := hcon
  refine onC_of hc9 ?_
  simp only [un_not, onS_some, Bool.not_not]
  refine ⟨?_, by omega⟩
  simp [mkres, ascends, hlen]
end Go.Proofs.YtbpmlholiohkpaaGreatDoor

/- Contracts: laws and registries that are valid; wishes; which papers apply. -/
namespace Go.Proofs.YtbpmlholiohkpaaGreatDoor
open Go Go.D
variable {X : CallFn} {m : M}

def Clause.ok (x : Clause) : Bool := inB x.pub 0 799999 && (x.sp.ok && (inB x.gives 0 19 && (ascends x.needs x.gives && ascends x.bars x.gives)))
theorem badClause_ok (hX : NoX X) {x : Clause} {cs : List Value} (hr : Rep.rep m x cs) : C X (.func 74) [.agg cs.toArray] m m.n (.bool (!x.ok)) m := by
  obtain ⟨vn, vb, rfl, hn, hb⟩ := hr
  refine Cl.flat (hX.no 74 rfl) fn_74 rfl rfl ?_
  rw [F74]
  refine onM_push fun m1 hn1 hg1 hk1 => ?_
  simp only [cells_agg, Clause.cs] at hg1
  have he : Ext m m1 := ⟨by omega, hk1⟩
  simp only [onS_some, on2_some, onFn_func, ifV_bool, ifB_true, ifB_false, bin_leq, bin_lss, bin_geq, bin_gtr, bin_eql, bin_neq, un_not, ptrTo, nilck_ptr, nilck_func, Nat.zero_add, Nat.reduceAdd, List.getElem?_cons_zero, List.getElem?_cons_succ, List.drop_zero, List.drop_succ_cons, List.take_succ_cons, List.take_zero, Option.map_some, cells_agg, cells_int, cells_bool, cells_slice, cells_ptr, cells_map, cells_func, fieldAddr_64_0, fieldAddr_64_1, fieldAddr_64_2, fieldAddr_64_3, fieldAddr_64_4, load_26, load_3, load_62, cellAt_of hg1]
  refine onC_of (isDay_ok hX _) ?_
  simp only [onS_some, on2_some, onFn_func, ifV_bool, ifB_true, ifB_false, bin_leq, bin_lss, bin_geq, bin_gtr, bin_eql, bin_neq, un_not, ptrTo, nilck_ptr, nilck_func, Nat.zero_add, Nat.reduceAdd, List.getElem?_cons_zero, List.getElem?_cons_succ, List.drop_zero, List.drop_succ_cons, List.take_succ_cons, List.take_zero, Option.map_some, cells_agg, cells_int, cells_bool, cells_slice, cells_ptr, cells_map, cells_func, fieldAddr_64_0, fieldAddr_64_1, fieldAddr_64_2, fieldAddr_64_3, fieldAddr_64_4, load_26, load_3, load_62, cellAt_of hg1]
  refine ifB_intro (fun h => ⟨by simp only [Bool.not_eq_true'] at h; simp [mkres, Clause.ok, h], by omega⟩) (fun h1 => ?_)
  rw [loadCells_of hg1 (by simp)]
  simp only [onS_some, on2_some, onFn_func, ifV_bool, ifB_true, ifB_false, bin_leq, bin_lss, bin_geq, bin_gtr, bin_eql, bin_neq, un_not, ptrTo, nilck_ptr, nilck_func, Nat.zero_add, Nat.reduceAdd, List.getElem?_cons_zero, List.getElem?_cons_succ, List.drop_zero, List.drop_succ_cons, List.take_succ_cons, List.take_zero, Option.map_some, cells_agg, cells_int, cells_bool, cells_slice, cells_ptr, cells_map, cells_func]
  refine onC_of (isSpell76_ok hX _ _) ?_
  simp only [onS_some, on2_some, onFn_func, ifV_bool, ifB_true, ifB_false, bin_leq, bin_lss, bin_geq, bin_gtr, bin_eql, bin_neq, un_not, ptrTo, nilck_ptr, nilck_func, Nat.zero_add, Nat.reduceAdd, List.getElem?_cons_zero, List.getElem?_cons_succ, List.drop_zero, List.drop_succ_cons, List.take_succ_cons, List.take_zero, Option.map_some, cells_agg, cells_int, cells_bool, cells_slice, cells_ptr, cells_map, cells_func, fieldAddr_64_0, fieldAddr_64_1, fieldAddr_64_2, fieldAddr_64_3, fieldAddr_64_4, load_26, load_3, load_62, cellAt_of hg1]
  refine ifB_intro (fun h => ⟨by simp only [Bool.not_eq_true'] at h; simp [mkres, Clause.ok, Spell.ok, h], by omega⟩) (fun h2 => ?_)
  refine onC_of (isIn70_ok hX _ _ _) ?_
  simp only [onS_some, on2_some, onFn_func, ifV_bool, ifB_true, ifB_false, bin_leq, bin_lss, bin_geq, bin_gtr, bin_eql, bin_neq, un_not, ptrTo, nilck_ptr, nilck_func, Nat.zero_add, Nat.reduceAdd, List.getElem?_cons_zero, List.getElem?_cons_succ, List.drop_zero, List.drop_succ_cons, List.take_succ_cons, List.take_zero, Option.map_some, cells_agg, cells_int, cells_bool, cells_slice, cells_ptr, cells_map, cells_func, fieldAddr_64_0, fieldAddr_64_1, fieldAddr_64_2, fieldAddr_64_3, fieldAddr_64_4, load_26, load_3, load_62, cellAt_of hg1]
  refine ifB_intro (fun h => ⟨by simp only [Bool.not_eq_true'] at h; simp [mkres, Clause.ok, h], by omega⟩) (fun h3 => ?_)
  simp only [Bool.not_eq_false'] at h1 h2 h3
  have hgv : -1000 ≤ x.gives ∧ x.gives ≤ 1000 := by simp only [inB, Bool.and_eq_true, decide_eq_true_eq] at h3; omega
  refine onC_of (ascends_ok hX (hn.keepE he) hgv) ?_
  simp only [onS_some, on2_some, onFn_func, ifV_bool, ifB_true, ifB_false, bin_leq, bin_lss, bin_geq, bin_gtr, bin_eql, bin_neq, un_not, ptrTo, nilck_ptr, nilck_func, Nat.zero_add, Nat.reduceAdd, List.getElem?_cons_zero, List.getElem?_cons_succ, List.drop_zero, List.drop_succ_cons, List.take_succ_cons, List.take_zero, Option.map_some, cells_agg, cells_int, cells_bool, cells_slice, cells_ptr, cells_map, cells_func, fieldAddr_64_0, fieldAddr_64_1, fieldAddr_64_2, fieldAddr_64_3, fieldAddr_64_4, load_26, load_3, load_62, cellAt_of hg1]
  refine ifB_intro (fun h => ⟨by simp only [Bool.not_eq_true'] at h; simp [mkres, Clause.ok, h], by omega⟩) (fun h4 => ?_)
  refine onC_of (ascends_ok hX (hb.keepE he) hgv) ?_
  simp only [Bool.not_eq_false'] at h4
  simp only [onS_some, on2_some, onFn_func, ifV_bool, ifB_true, ifB_false, bin_leq, bin_lss, bin_geq, bin_gtr, bin_eql, bin_neq, un_not, ptrTo, nilck_ptr, nilck_func, Nat.zero_add, Nat.reduceAdd, List.getElem?_cons_zero, List.getElem?_cons_succ, List.drop_zero, List.drop_succ_cons, List.take_succ_cons, List.take_zero, Option.map_some, cells_agg, cells_int, cells_bool, cells_slice, cells_ptr, cells_map, cells_func]
  exact ⟨by simp [mkres, Clause.ok, Spell.ok, h1, h2, h3, h4], by omega⟩
def Repeal.ok (n : Nat) (x : Repeal) : Bool := inB x.cl 0 (n - 1) && (inB x.pub 0 799999 && inB x.from' 0 799999)
theorem badRepeal_ok (hX : NoX X) (x : Repeal) {l : Law} {v1 v2 v3 : Value} {bc : Nat} {e : TypeId} {g : Option Nat} (hl : Sl m l.clauses v1) (hlen : l.clauses.length ≤ 1000) (hb : m.get bc = .cells [v1, v2, v3] e g) :
    C X (.func 79) [.agg x.c.toArray, ptrTo bc] m m.n (.bool (!(x.ok l.clauses.length))) m := by
  refine Cl.flat (hX.no 79 rfl) fn_79 rfl rfl ?_
  rw [F79]
  refine onM_push fun m1 hn1 hg1 hk1 => ?_
  simp only [cells_agg] at hg1
  have he : Ext m m1 := ⟨by omega, hk1⟩
  have hb1 := he.cells hb
  simp only [onS_some, on2_some, onFn_func, ifV_bool, ifB_true, ifB_false, bin_leq, bin_lss, bin_geq, bin_gtr, bin_eql, bin_neq, un_not, ptrTo, nilck_ptr, nilck_func, Nat.zero_add, Nat.reduceAdd, List.getElem?_cons_zero, List.getElem?_cons_succ, List.drop_zero, List.drop_succ_cons, List.take_succ_cons, List.take_zero, Option.map_some, cells_agg, cells_int, cells_bool, cells_slice, cells_ptr, cells_map, cells_func, fieldAddr_38_0, fieldAddr_92_0, fieldAddr_92_1, fieldAddr_92_2, len_34, load_3, load_34, cellAt_of hg1, cellAt_of hb1]
  rw [(hl.keepE he).len slt_clause]
  simp only [on2_some, bin_sub, onS_some]
  rw [wrap64 (by omega) (by omega)]
  refine onC_of (isIn70_ok hX _ _ _) ?_
  simp only [onS_some, on2_some, onFn_func, ifV_bool, ifB_true, ifB_false, bin_leq, bin_lss, bin_geq, bin_gtr, bin_eql, bin_neq, un_not, ptrTo, nilck_ptr, nilck_func, Nat.zero_add, Nat.reduceAdd, List.getElem?_cons_zero, List.getElem?_cons_succ, List.drop_zero, List.drop_succ_cons, List.take_succ_cons, List.take_zero, Option.map_some, cells_agg, cells_int, cells_bool, cells_slice, cells_ptr, cells_map, cells_func, fieldAddr_38_0, fieldAddr_92_0, fieldAddr_92_1, fieldAddr_92_2, len_34, load_3, load_34, cellAt_of hg1]
  refine ifB_intro (fun h => ⟨by simp only [Bool.not_eq_true'] at h; simp [mkres, Repeal.ok, h], by omega⟩) (fun h1 => ?_)
  refine onC_of (isDay_ok hX _) ?_
  simp only [onS_some, on2_some, onFn_func, ifV_bool, ifB_true, ifB_false, bin_leq, bin_lss, bin_geq, bin_gtr, bin_eql, bin_neq, un_not, ptrTo, nilck_ptr, nilck_func, Nat.zero_add, Nat.reduceAdd, List.getElem?_cons_zero, List.getElem?_cons_succ, List.drop_zero, List.drop_succ_cons, List.take_succ_cons, List.take_zero, Option.map_some, cells_agg, cells_int, cells_bool, cells_slice, cells_ptr, cells_map, cells_func, fieldAddr_38_0, fieldAddr_92_0, fieldAddr_92_1, fieldAddr_92_2, len_34, load_3, load_34, cellAt_of hg1]
  refine ifB_intro (fun h => ⟨by simp only [Bool.not_eq_true'] at h; simp [mkres, Repeal.ok, h], by omega⟩) (fun h2 => ?_)
  refine onC_of (isDay_ok hX _) ?_
  simp only [Bool.not_eq_false'] at h1 h2
  simp only [onS_some, on2_some, onFn_func, ifV_bool, ifB_true, ifB_false, bin_leq, bin_lss, bin_geq, bin_gtr, bin_eql, bin_neq, un_not, ptrTo, nilck_ptr, nilck_func, Nat.zero_add, Nat.reduceAdd, List.getElem?_cons_zero, List.getElem?_cons_succ, List.drop_zero, List.drop_succ_cons, List.take_succ_cons, List.take_zero, Option.map_some, cells_agg, cells_int, cells_bool, cells_slice, cells_ptr, cells_map, cells_func]
  exact ⟨by simp [mkres, Repeal.ok, h1, h2], by omega⟩
def Fact.ok (x : Fact) : Bool := inB x.thing 0 99 && (inB x.says 0 19 && (x.sp.ok && x.kn.ok))
theorem badFact_ok (hX : NoX X) (x : Fact) : C X (.func 81) [.agg x.c.toArray] m m.n (.bool (!x.ok)) m := by
  refine Cl.flat (hX.no 81 rfl) fn_81 rfl rfl ?_
  rw [F81]
  refine onM_push fun m1 hn1 hg1 hk1 => ?_
  simp only [cells_agg] at hg1
  simp only [onS_some, on2_some, onFn_func, ifV_bool, ifB_true, ifB_false, bin_leq, bin_lss, bin_geq, bin_gtr, bin_eql, bin_neq, un_not, ptrTo, nilck_ptr, nilck_func, Nat.zero_add, Nat.reduceAdd, List.getElem?_cons_zero, List.getElem?_cons_succ, List.drop_zero, List.drop_succ_cons, List.take_succ_cons, List.take_zero, Option.map_some, cells_agg, cells_int, cells_bool, cells_slice, cells_ptr, cells_map, cells_func, fieldAddr_66_0, fieldAddr_66_1, fieldAddr_66_2, fieldAddr_66_3, load_3, load_62, cellAt_of hg1]
  refine onC_of (isIn70_ok hX _ _ _) ?_
  simp only [onS_some, on2_some, onFn_func, ifV_bool, ifB_true, ifB_false, bin_leq, bin_lss, bin_geq, bin_gtr, bin_eql, bin_neq, un_not, ptrTo, nilck_ptr, nilck_func, Nat.zero_add, Nat.reduceAdd, List.getElem?_cons_zero, List.getElem?_cons_succ, List.drop_zero, List.drop_succ_cons, List.take_succ_cons, List.take_zero, Option.map_some, cells_agg, cells_int, cells_bool, cells_slice, cells_ptr, cells_map, cells_func, fieldAddr_66_0, fieldAddr_66_1, fieldAddr_66_2, fieldAddr_66_3, load_3, load_62, cellAt_of hg1]
  refine ifB_intro (fun h => ⟨by simp only [Bool.not_eq_true'] at h; simp [mkres, Fact.ok, h], by omega⟩) (fun h1 => ?_)
  refine onC_of (isIn70_ok hX _ _ _) ?_
  simp only [onS_some, on2_some, onFn_func, ifV_bool, ifB_true, ifB_false, bin_leq, bin_lss, bin_geq, bin_gtr, bin_eql, bin_neq, un_not, ptrTo, nilck_ptr, nilck_func, Nat.zero_add, Nat.reduceAdd, List.getElem?_cons_zero, List.getElem?_cons_succ, List.drop_zero, List.drop_succ_cons, List.take_succ_cons, List.take_zero, Option.map_some, cells_agg, cells_int, cells_bool, cells_slice, cells_ptr, cells_map, cells_func, fieldAddr_66_0, fieldAddr_66_1, fieldAddr_66_2, fieldAddr_66_3, load_3, load_62, cellAt_of hg1]
  refine ifB_intro (fun h => ⟨by simp only [Bool.not_eq_true'] at h; simp [mkres, Fact.ok, h], by omega⟩) (fun h2 => ?_)
  rw [loadCells_of hg1 (by simp)]
  simp only [onS_some, on2_some, onFn_func, ifV_bool, ifB_true, ifB_false, bin_leq, bin_lss, bin_geq, bin_gtr, bin_eql, bin_neq, un_not, ptrTo, nilck_ptr, nilck_func, Nat.zero_add, Nat.reduceAdd, List.getElem?_cons_zero, List.getElem?_cons_succ, List.drop_zero, List.drop_succ_cons, List.take_succ_cons, List.take_zero, Option.map_some, cells_agg, cells_int, cells_bool, cells_slice, cells_ptr, cells_map, cells_func]
  refine onC_of (isSpell76_ok hX _ _) ?_
  simp only [onS_some, on2_some, onFn_func, ifV_bool, ifB_true, ifB_false, bin_leq, bin_lss, bin_geq, bin_gtr, bin_eql, bin_neq, un_not, ptrTo, nilck_ptr, nilck_func, Nat.zero_add, Nat.reduceAdd, List.getElem?_cons_zero, List.getElem?_cons_succ, List.drop_zero, List.drop_succ_cons, List.take_succ_cons, List.take_zero, Option.map_some, cells_agg, cells_int, cells_bool, cells_slice, cells_ptr, cells_map, cells_func, fieldAddr_66_0, fieldAddr_66_1, fieldAddr_66_2, fieldAddr_66_3, load_3, load_62, cellAt_of hg1]
  refine ifB_intro (fun h => ⟨by simp only [Bool.not_eq_true'] at h; simp [mkres, Fact.ok, Spell.ok, h], by omega⟩) (fun h3 => ?_)
  rw [loadCells_of hg1 (by simp)]
  simp only [onS_some, on2_some, onFn_func, ifV_bool, ifB_true, ifB_false, bin_leq, bin_lss, bin_geq, bin_gtr, bin_eql, bin_neq, un_not, ptrTo, nilck_ptr, nilck_func, Nat.zero_add, Nat.reduceAdd, List.getElem?_cons_zero, List.getElem?_cons_succ, List.drop_zero, List.drop_succ_cons, List.take_succ_cons, List.take_zero, Option.map_some, cells_agg, cells_int, cells_bool, cells_slice, cells_ptr, cells_map, cells_func]
  refine onC_of (isSpell76_ok hX _ _) ?_
  simp only [Bool.not_eq_false'] at h1 h2 h3
  simp only [onS_some, on2_some, onFn_func, ifV_bool, ifB_true, ifB_false, bin_leq, bin_lss, bin_geq, bin_gtr, bin_eql, bin_neq, un_not, ptrTo, nilck_ptr, nilck_func, Nat.zero_add, Nat.reduceAdd, List.getElem?_cons_zero, List.getElem?_cons_succ, List.drop_zero, List.drop_succ_cons, List.take_succ_cons, List.take_zero, Option.map_some, cells_agg, cells_int, cells_bool, cells_slice, cells_ptr, cells_map, cells_func]
  exact ⟨by simp [mkres, Fact.ok, Spell.ok, h1, h2, h3], by omega⟩
def Law.ok (l : Law) : Bool := decide (l.clauses.length ≤ 20) && (decide (l.repeals.length ≤ 10) && (decide (l.facts.length ≤ 20) && (!(l.clauses.any fun x => !x.ok) && (!(l.repeals.any fun x => !(x.ok l.clauses.length)) && !(l.facts.any fun x => !x.ok)))))
theorem validLaw_ok (hX : NoX X) {l : Law} {v1 v2 v3 : Value} (hl : LawV m l v1 v2 v3) (hs : l.clauses.length < 4611686018427387904 ∧ l.repeals.length < 4611686018427387904 ∧ l.facts.length < 4611686018427387904) : C X (.func 47) [.agg #[v1, v2, v3]] m m.n (.bool l.ok) m := by
  refine Cl.flat (hX.no 47 rfl) fn_47 rfl rfl ?_
  rw [F47]
  refine onM_push fun m1 hn1 hg1 hk1 => ?_
  simp only [cells_agg] at hg1
  have he : Ext m m1 := ⟨by omega, hk1⟩
  have hl1 := hl.keepE he
  simp only [onS_some, on2_some, onFn_func, ifV_bool, ifB_true, ifB_false, bin_leq, bin_lss, bin_geq, bin_gtr, bin_eql, bin_neq, un_not, ptrTo, nilck_ptr, nilck_func, Nat.zero_add, Nat.reduceAdd, List.getElem?_cons_zero, List.getElem?_cons_succ, List.drop_zero, List.drop_succ_cons, List.take_succ_cons, List.take_zero, Option.map_some, cells_agg, cells_int, cells_bool, cells_slice, cells_ptr, cells_map, cells_func, fieldAddr_38_0, fieldAddr_38_1, fieldAddr_38_2, len_34, len_35, len_36, load_34, load_35, load_36, cellAt_of hg1, hl1.clauses.len slt_clause, hl1.repeals.len slt_repeal, hl1.facts.len slt_fact]
  refine ifB_intro (fun h => ⟨by simp at h; simp [mkres, Law.ok]; omega, by omega⟩) (fun h1 => ?_)
  refine ifB_intro (fun h => ⟨by simp at h; simp [mkres, Law.ok]; omega, by omega⟩) (fun h2 => ?_)
  refine ifB_intro (fun h => ⟨by simp at h; simp [mkres, Law.ok]; omega, by omega⟩) (fun h3 => ?_)
  have h1' : l.clauses.length ≤ 20 := by simp at h1; omega
  have h2' : l.repeals.length ≤ 10 := by simp at h2; omega
  have h3' : l.facts.length ≤ 20 := by simp at h3; omega
  refine onC_of (containsFunc73_ok hX (fun x => !x.ok) hs.1 hl1.clauses fun x _ cs hr => by rw [val_agg rfl]; exact badClause_ok hX hr) ?_
  simp only [onS_some, on2_some, onFn_func, ifV_bool, ifB_true, ifB_false, bin_leq, bin_lss, bin_geq, bin_gtr, bin_eql, bin_neq, un_not, ptrTo, nilck_ptr, nilck_func, Nat.zero_add, Nat.reduceAdd, List.getElem?_cons_zero, List.getElem?_cons_succ, List.drop_zero, List.drop_succ_cons, List.take_succ_cons, List.take_zero, Option.map_some, cells_agg, cells_int, cells_bool, cells_slice, cells_ptr, cells_map, cells_func, fieldAddr_38_0, fieldAddr_38_1, fieldAddr_38_2, len_34, len_35, len_36, load_34, load_35, load_36, cellAt_of hg1]
  refine ifB_intro (fun h4 => ?_) (fun h => ⟨by simp only [Bool.not_eq_false'] at h; simp [mkres, Law.ok, h], by omega⟩)
  refine onC_of (containsFunc78_ok hX (fun x => !(x.ok l.clauses.length)) hs.2.1 hl1.repeals fun x _ cs hr => by cases hr; rw [val_agg rfl]; exact badRepeal_ok hX x hl1.clauses (by omega) hg1) ?_
  simp only [onS_some, on2_some, onFn_func, ifV_bool, ifB_true, ifB_false, bin_leq, bin_lss, bin_geq, bin_gtr, bin_eql, bin_neq, un_not, ptrTo, nilck_ptr, nilck_func, Nat.zero_add, Nat.reduceAdd, List.getElem?_cons_zero, List.getElem?_cons_succ, List.drop_zero, List.drop_succ_cons, List.take_succ_cons, List.take_zero, Option.map_some, cells_agg, cells_int, cells_bool, cells_slice, cells_ptr, cells_map, cells_func, fieldAddr_38_0, fieldAddr_38_1, fieldAddr_38_2, len_34, len_35, len_36, load_34, load_35, load_36, cellAt_of hg1]
  refine ifB_intro (fun h5 => ?_) (fun h => ⟨by simp only [Bool.not_eq_false'] at h; simp [mkres, Law.ok, h], by omega⟩)
  refine onC_of (containsFunc80_ok hX (fun x => !x.ok) hs.2.2 hl1.facts fun x _ cs hr => by cases hr; rw [val_agg rfl]; exact badFact_ok hX x) ?_
  simp only [onS_some, on2_some, onFn_func, ifV_bool, ifB_true, ifB_false, bin_leq, bin_lss, bin_geq, bin_gtr, bin_eql, bin_neq, un_not, ptrTo, nilck_ptr, nilck_func, Nat.zero_add, Nat.reduceAdd, List.getElem?_cons_zero, List.getElem?_cons_succ, List.drop_zero, List.drop_succ_cons, List.take_succ_cons, List.take_zero, Option.map_some, cells_agg, cells_int, cells_bool, cells_slice, cells_ptr, cells_map, cells_func]
  refine ⟨?_, by omega⟩
  simp only [Bool.not_eq_true'] at h4 h5
  simp [mkres, Law.ok, h1', h2', h3', h4, h5]
/-- The lists of a registry are of lengths that an int can say. -/
structure Registry.Sized (r : Registry) : Prop where
  sc : r.law.clauses.length < 4611686018427387904
  sr : r.law.repeals.length < 4611686018427387904
  sf : r.law.facts.length < 4611686018427387904
  sd : r.deeds.length < 4611686018427387904
  sg : r.grants.length < 4611686018427387904
def Registry.ok (r : Registry) : Bool := r.law.ok && (decide (r.deeds.length ≤ 20) && (decide (r.grants.length ≤ 20) && (!(r.deeds.any fun x => !x.ok) && !(r.grants.any fun x => !x.ok))))
theorem validReg_ok (hX : NoX X) {r : Registry} {v1 v2 v3 v4 v5 : Value} (hr : RegV m r v1 v2 v3 v4 v5) (hs : r.Sized) : C X (.func 17) [.agg #[v1, v2, v3, v4, v5]] m m.n (.bool r.ok) m := by
  refine Cl.flat (hX.no 17 rfl) fn_17 rfl rfl ?_
  rw [F17]
  refine onM_push fun m1 hn1 hg1 hk1 => ?_
  simp only [cells_agg] at hg1
  have he : Ext m m1 := ⟨by omega, hk1⟩
  have hr1 := hr.keepE he
  simp only [onS_some, on2_some, onFn_func, ifV_bool, ifB_true, ifB_false, bin_leq, bin_lss, bin_geq, bin_gtr, bin_eql, bin_neq, un_not, ptrTo, nilck_ptr, nilck_func, Nat.zero_add, Nat.reduceAdd, List.getElem?_cons_zero, List.getElem?_cons_succ, List.drop_zero, List.drop_succ_cons, List.take_succ_cons, List.take_zero, Option.map_some, cells_agg, cells_int, cells_bool, cells_slice, cells_ptr, cells_map, cells_func, fieldAddr_42_0, fieldAddr_42_1, fieldAddr_42_2, len_39, len_40, load_38, load_39, load_40]
  rw [loadCells_of hg1 (by simp)]
  simp only [onS_some, on2_some, onFn_func, ifV_bool, ifB_true, ifB_false, bin_leq, bin_lss, bin_geq, bin_gtr, bin_eql, bin_neq, un_not, ptrTo, nilck_ptr, nilck_func, Nat.zero_add, Nat.reduceAdd, List.getElem?_cons_zero, List.getElem?_cons_succ, List.drop_zero, List.drop_succ_cons, List.take_succ_cons, List.take_zero, Option.map_some, cells_agg, cells_int, cells_bool, cells_slice, cells_ptr, cells_map, cells_func]
  refine onC_of (validLaw_ok hX hr1.law ⟨hs.sc, hs.sr, hs.sf⟩) ?_
  simp only [onS_some, on2_some, onFn_func, ifV_bool, ifB_true, ifB_false, bin_leq, bin_lss, bin_geq, bin_gtr, bin_eql, bin_neq, un_not, ptrTo, nilck_ptr, nilck_func, Nat.zero_add, Nat.reduceAdd, List.getElem?_cons_zero, List.getElem?_cons_succ, List.drop_zero, List.drop_succ_cons, List.take_succ_cons, List.take_zero, Option.map_some, cells_agg, cells_int, cells_bool, cells_slice, cells_ptr, cells_map, cells_func, fieldAddr_42_0, fieldAddr_42_1, fieldAddr_42_2, len_39, len_40, load_38, load_39, load_40, cellAt_of hg1, hr1.deeds.len slt_deed, hr1.grants.len slt_grant]
  refine ifB_intro (fun h1 => ?_) (fun h => ⟨by simp [mkres, Registry.ok, h], by omega⟩)
  refine ifB_intro (fun h2 => ?_) (fun h => ⟨by simp at h; simp [mkres, Registry.ok]; omega, by omega⟩)
  refine ifB_intro (fun h3 => ?_) (fun h => ⟨by simp at h; simp [mkres, Registry.ok]; omega, by omega⟩)
  refine onC_of (first33_ok hX (fun x => !x.ok) hs.sd hr1.deeds fun x _ cs hr => by cases hr; rw [val_agg rfl]; exact badDeed_ok hX x) ?_
  simp only [onS_some, on2_some, onFn_func, ifV_bool, ifB_true, ifB_false, bin_leq, bin_lss, bin_geq, bin_gtr, bin_eql, bin_neq, un_not, ptrTo, nilck_ptr, nilck_func, Nat.zero_add, Nat.reduceAdd, List.getElem?_cons_zero, List.getElem?_cons_succ, List.drop_zero, List.drop_succ_cons, List.take_succ_cons, List.take_zero, Option.map_some, cells_agg, cells_int, cells_bool, cells_slice, cells_ptr, cells_map, cells_func, fieldAddr_42_0, fieldAddr_42_1, fieldAddr_42_2, len_39, len_40, load_38, load_39, load_40, cellAt_of hg1, idx_neg]
  have h2' : r.deeds.length ≤ 20 := by simp at h2; omega
  have h3' : r.grants.length ≤ 20 := by simp at h3; omega
  refine ifB_intro (fun h4 => ?_) (fun h => ⟨by simp only [Bool.not_eq_false'] at h; simp [mkres, Registry.ok, h], by omega⟩)
  refine onC_of (first35_ok hX (fun x => !x.ok) hs.sg hr1.grants fun x _ cs hr => by cases hr; rw [val_agg rfl]; exact badGrant_ok hX x) ?_
  simp only [onS_some, on2_some, onFn_func, ifV_bool, ifB_true, ifB_false, bin_leq, bin_lss, bin_geq, bin_gtr, bin_eql, bin_neq, un_not, ptrTo, nilck_ptr, nilck_func, Nat.zero_add, Nat.reduceAdd, List.getElem?_cons_zero, List.getElem?_cons_succ, List.drop_zero, List.drop_succ_cons, List.take_succ_cons, List.take_zero, Option.map_some, cells_agg, cells_int, cells_bool, cells_slice, cells_ptr, cells_map, cells_func, fieldAddr_42_0, fieldAddr_42_1, fieldAddr_42_2, len_39, len_40, load_38, load_39, load_40, cellAt_of hg1, idx_neg]
  refine ⟨?_, by omega⟩
  simp only [Bool.not_eq_true'] at h4
  simp [mkres, Registry.ok, h1, h2', h3', h4]
end Go.Proofs.YtbpmlholiohkpaaGreatDoor

/- Contracts: wishes, queries, which papers apply. -/
namespace Go.Proofs.YtbpmlholiohkpaaGreatDoor
open Go Go.D
variable {X : CallFn} {m : M}
abbrev Wish.c (w : Wish) : List Value := [.int .i64 w.kind, .int .i64 w.unit, .int .i64 w.owner, .int .i64 w.day, .int .i64 w.known]
def Wish.ok (w : Wish) : Bool := inB w.day 0 799999 && (inB w.known 0 799999 && (inB w.kind 1 9 && (inB w.unit 0 99 && inB w.owner 0 50)))
theorem asks_ok (hX : NoX X) (w : Wish) : C X (.func 23) [w.v] m m.n (.bool w.ok) m := by
  refine Cl.flat (hX.no 23 rfl) fn_23 rfl rfl ?_
  rw [F23]
  refine onM_push fun m1 hn1 hg1 hk1 => ?_
  simp only [cells_agg] at hg1
  simp only [onS_some, on2_some, onFn_func, ifV_bool, ifB_true, ifB_false, bin_leq, bin_lss, bin_geq, bin_gtr, bin_eql, bin_neq, un_not, ptrTo, nilck_ptr, nilck_func, Nat.zero_add, Nat.reduceAdd, List.getElem?_cons_zero, List.getElem?_cons_succ, List.drop_zero, List.drop_succ_cons, List.take_succ_cons, List.take_zero, Option.map_some, cells_agg, cells_int, cells_bool, cells_slice, cells_ptr, cells_map, cells_func, fieldAddr_45_0, fieldAddr_45_1, fieldAddr_45_2, fieldAddr_45_3, fieldAddr_45_4, load_3, cellAt_of hg1]
  refine onC_of (isIn46_ok hX _ _ _) ?_
  simp only [onS_some, on2_some, onFn_func, ifV_bool, ifB_true, ifB_false, bin_leq, bin_lss, bin_geq, bin_gtr, bin_eql, bin_neq, un_not, ptrTo, nilck_ptr, nilck_func, Nat.zero_add, Nat.reduceAdd, List.getElem?_cons_zero, List.getElem?_cons_succ, List.drop_zero, List.drop_succ_cons, List.take_succ_cons, List.take_zero, Option.map_some, cells_agg, cells_int, cells_bool, cells_slice, cells_ptr, cells_map, cells_func, fieldAddr_45_0, fieldAddr_45_1, fieldAddr_45_2, fieldAddr_45_3, fieldAddr_45_4, load_3, cellAt_of hg1]
  refine ifB_intro (fun h1 => ?_) (fun h => ⟨by simp [mkres, Wish.ok, h], by omega⟩)
  refine onC_of (isIn46_ok hX _ _ _) ?_
  simp only [onS_some, on2_some, onFn_func, ifV_bool, ifB_true, ifB_false, bin_leq, bin_lss, bin_geq, bin_gtr, bin_eql, bin_neq, un_not, ptrTo, nilck_ptr, nilck_func, Nat.zero_add, Nat.reduceAdd, List.getElem?_cons_zero, List.getElem?_cons_succ, List.drop_zero, List.drop_succ_cons, List.take_succ_cons, List.take_zero, Option.map_some, cells_agg, cells_int, cells_bool, cells_slice, cells_ptr, cells_map, cells_func, fieldAddr_45_0, fieldAddr_45_1, fieldAddr_45_2, fieldAddr_45_3, fieldAddr_45_4, load_3, cellAt_of hg1]
  refine ifB_intro (fun h2 => ?_) (fun h => ⟨by simp [mkres, Wish.ok, h], by omega⟩)
  refine onC_of (isIn46_ok hX _ _ _) ?_
  simp only [onS_some, on2_some, onFn_func, ifV_bool, ifB_true, ifB_false, bin_leq, bin_lss, bin_geq, bin_gtr, bin_eql, bin_neq, un_not, ptrTo, nilck_ptr, nilck_func, Nat.zero_add, Nat.reduceAdd, List.getElem?_cons_zero, List.getElem?_cons_succ, List.drop_zero, List.drop_succ_cons, List.take_succ_cons, List.take_zero, Option.map_some, cells_agg, cells_int, cells_bool, cells_slice, cells_ptr, cells_map, cells_func, fieldAddr_45_0, fieldAddr_45_1, fieldAddr_45_2, fieldAddr_45_3, fieldAddr_45_4, load_3, cellAt_of hg1]
  refine ifB_intro (fun h3 => ?_) (fun h => ⟨by simp [mkres, Wish.ok, h], by omega⟩)
  refine onC_of (isIn46_ok hX _ _ _) ?_
  simp only [onS_some, on2_some, onFn_func, ifV_bool, ifB_true, ifB_false, bin_leq, bin_lss, bin_geq, bin_gtr, bin_eql, bin_neq, un_not, ptrTo, nilck_ptr, nilck_func, Nat.zero_add, Nat.reduceAdd, List.getElem?_cons_zero, List.getElem?_cons_succ, List.drop_zero, List.drop_succ_cons, List.take_succ_cons, List.take_zero, Option.map_some, cells_agg, cells_int, cells_bool, cells_slice, cells_ptr, cells_map, cells_func, fieldAddr_45_0, fieldAddr_45_1, fieldAddr_45_2, fieldAddr_45_3, fieldAddr_45_4, load_3, cellAt_of hg1]
  refine ifB_intro (fun h4 => ?_) (fun h => ⟨by simp [mkres, Wish.ok, h], by omega⟩)
  refine onC_of (isIn46_ok hX _ _ _) ?_
  exact ⟨by simp [mkres, Wish.ok, h1, h2, h3, h4], by omega⟩
def Wish.query (w : Wish) : Query := ⟨w.unit, 10 + w.kind, w.day, w.known⟩
/-- A value without an address, for the rule that the store is as it was. -/
theorem query_ok (hX : NoX X) (w : Wish) (hw : -1000 ≤ w.kind ∧ w.kind ≤ 1000) : ∃ m', C X (.func 32) [w.v] m m.n w.query.v m' ∧ Ext m m' := by
  have : C X (.func 32) [w.v] m m.n w.query.v m := by
    refine Cl.flat (hX.no 32 rfl) fn_32 rfl rfl ?_
    rw [F32]
    refine onM_push fun m1 hn1 hg1 hk1 => ?_
    refine onM_push fun m2 hn2 hg2 hk2 => ?_
    have hg1' := (hk2 m.n (by omega)).trans hg1
    simp only [cells_agg] at hg1'
    simp only [onS_some, on2_some, onFn_func, ifV_bool, ifB_true, ifB_false, bin_leq, bin_lss, bin_geq, bin_gtr, bin_eql, bin_neq, un_not, ptrTo, nilck_ptr, nilck_func, Nat.zero_add, Nat.reduceAdd, List.getElem?_cons_zero, List.getElem?_cons_succ, List.drop_zero, List.drop_succ_cons, List.take_succ_cons, List.take_zero, Option.map_some, cells_agg, cells_int, cells_bool, cells_slice, cells_ptr, cells_map, cells_func, build_55_0_1_2_3, fieldAddr_45_0, fieldAddr_45_1, fieldAddr_45_3, fieldAddr_45_4, load_3, load_55, ty_55, cellAt_of hg1', bin_add]
    rw [wrap64 (by omega) (by omega), build_55_0_1_2_3 rfl rfl rfl rfl, onS_some]
    refine on2_store ty_55 hg2 (by rfl) (by simp [cells_agg, cells_int]) rfl fun m3 hn3 hg3 hk3 => ?_
    rw [loadCells_of hg3 (by simp [cells_agg, cells_int])]
    exact ⟨rfl, by omega⟩
  exact ⟨m, this, .refl⟩
def hasB (s : Spell) (d : Int) : Bool := decide (s.f ≤ d) && decide (d < s.t)
theorem has66_ok (hX : NoX X) (s : Spell) (d : Int) : C X (.func 66) [s.v, .int .i64 d] m m.n (.bool (hasB s d)) m := by
  refine Cl.flat (hX.no 66 rfl) fn_66 rfl rfl ?_
  rw [F66]
  refine onM_push fun m1 hn1 hg1 hk1 => ?_
  simp only [cells_agg] at hg1
  simp only [onS_some, on2_some, onFn_func, ifV_bool, ifB_true, ifB_false, bin_leq, bin_lss, bin_geq, bin_gtr, bin_eql, bin_neq, un_not, ptrTo, nilck_ptr, nilck_func, Nat.zero_add, Nat.reduceAdd, List.getElem?_cons_zero, List.getElem?_cons_succ, List.drop_zero, List.drop_succ_cons, List.take_succ_cons, List.take_zero, Option.map_some, cells_agg, cells_int, cells_bool, cells_slice, cells_ptr, cells_map, cells_func, fieldAddr_62_0, fieldAddr_62_1, load_3, cellAt_of hg1]
  refine ifB_intro (fun h1 => ?_) (fun h => ?_)
  · exact ⟨by simp [mkres, hasB, h1], Nat.le_refl _⟩
  · exact ⟨by simp [mkres, hasB, h], Nat.le_refl _⟩
def deedB (w : Wish) (d : Deed) : Bool := decide (d.unit = w.unit) && (decide (d.owner = w.owner) && (hasB d.sp w.day && hasB d.kn w.known))
theorem deeds1_ok (hX : NoX X) (d : Deed) {w : Wish} {bw : Nat} {e : TypeId} {g : Option Nat} (hw : m.get bw = .cells w.c e g) : C X (.func 65) [.agg d.c.toArray, ptrTo bw] m m.n (.bool (deedB w d)) m := by
  refine Cl.flat (hX.no 65 rfl) fn_65 rfl rfl ?_
  rw [F65]
  refine onM_push fun m1 hn1 hg1 hk1 => ?_
  simp only [cells_agg] at hg1
  have hw1 := (Ext.mk (by omega) hk1 : Ext m m1).cells hw
  simp only [onS_some, on2_some, onFn_func, ifV_bool, ifB_true, ifB_false, bin_leq, bin_lss, bin_geq, bin_gtr, bin_eql, bin_neq, un_not, ptrTo, nilck_ptr, nilck_func, Nat.zero_add, Nat.reduceAdd, List.getElem?_cons_zero, List.getElem?_cons_succ, List.drop_zero, List.drop_succ_cons, List.take_succ_cons, List.take_zero, Option.map_some, cells_agg, cells_int, cells_bool, cells_slice, cells_ptr, cells_map, cells_func, fieldAddr_45_1, fieldAddr_45_2, fieldAddr_45_3, fieldAddr_45_4, fieldAddr_69_0, fieldAddr_69_1, fieldAddr_69_2, fieldAddr_69_3, load_3, load_62, cellAt_of hg1, cellAt_of hw1]
  refine ifB_intro (fun h1 => ?_) (fun h => ⟨by simp [mkres, deedB, h], by omega⟩)
  refine ifB_intro (fun h2 => ?_) (fun h => ⟨by simp [mkres, deedB, h], by omega⟩)
  rw [loadCells_of hg1 (by simp)]
  simp only [onS_some, on2_some, onFn_func, ifV_bool, ifB_true, ifB_false, bin_leq, bin_lss, bin_geq, bin_gtr, bin_eql, bin_neq, un_not, ptrTo, nilck_ptr, nilck_func, Nat.zero_add, Nat.reduceAdd, List.getElem?_cons_zero, List.getElem?_cons_succ, List.drop_zero, List.drop_succ_cons, List.take_succ_cons, List.take_zero, Option.map_some, cells_agg, cells_int, cells_bool, cells_slice, cells_ptr, cells_map, cells_func]
  refine onC_of (has66_ok hX d.sp _) ?_
  simp only [onS_some, on2_some, onFn_func, ifV_bool, ifB_true, ifB_false, bin_leq, bin_lss, bin_geq, bin_gtr, bin_eql, bin_neq, un_not, ptrTo, nilck_ptr, nilck_func, Nat.zero_add, Nat.reduceAdd, List.getElem?_cons_zero, List.getElem?_cons_succ, List.drop_zero, List.drop_succ_cons, List.take_succ_cons, List.take_zero, Option.map_some, cells_agg, cells_int, cells_bool, cells_slice, cells_ptr, cells_map, cells_func, fieldAddr_45_1, fieldAddr_45_2, fieldAddr_45_3, fieldAddr_45_4, fieldAddr_69_0, fieldAddr_69_1, fieldAddr_69_2, fieldAddr_69_3, load_3, load_62, cellAt_of hg1, cellAt_of hw1]
  refine ifB_intro (fun h3 => ?_) (fun h => ⟨by simp [mkres, deedB, h], by omega⟩)
  rw [loadCells_of hg1 (by simp)]
  simp only [onS_some, on2_some, onFn_func, ifV_bool, ifB_true, ifB_false, bin_leq, bin_lss, bin_geq, bin_gtr, bin_eql, bin_neq, un_not, ptrTo, nilck_ptr, nilck_func, Nat.zero_add, Nat.reduceAdd, List.getElem?_cons_zero, List.getElem?_cons_succ, List.drop_zero, List.drop_succ_cons, List.take_succ_cons, List.take_zero, Option.map_some, cells_agg, cells_int, cells_bool, cells_slice, cells_ptr, cells_map, cells_func]
  refine onC_of (has66_ok hX d.kn _) ?_
  exact ⟨by simp [mkres, deedB, h1, h2, h3], by omega⟩
def grantB (w : Wish) (d : Grant) : Bool := decide (d.kind = w.kind) && (decide (d.unit = w.unit) && (decide (d.owner = w.owner) && (hasB d.sp w.day && hasB d.kn w.known)))
theorem grants1_ok (hX : NoX X) (d : Grant) {w : Wish} {bw : Nat} {e : TypeId} {g : Option Nat} (hw : m.get bw = .cells w.c e g) : C X (.func 68) [.agg d.c.toArray, ptrTo bw] m m.n (.bool (grantB w d)) m := by
  refine Cl.flat (hX.no 68 rfl) fn_68 rfl rfl ?_
  rw [F68]
  refine onM_push fun m1 hn1 hg1 hk1 => ?_
  simp only [cells_agg] at hg1
  have hw1 := (Ext.mk (by omega) hk1 : Ext m m1).cells hw
  simp only [onS_some, on2_some, onFn_func, ifV_bool, ifB_true, ifB_false, bin_leq, bin_lss, bin_geq, bin_gtr, bin_eql, bin_neq, un_not, ptrTo, nilck_ptr, nilck_func, Nat.zero_add, Nat.reduceAdd, List.getElem?_cons_zero, List.getElem?_cons_succ, List.drop_zero, List.drop_succ_cons, List.take_succ_cons, List.take_zero, Option.map_some, cells_agg, cells_int, cells_bool, cells_slice, cells_ptr, cells_map, cells_func, fieldAddr_45_0, fieldAddr_45_1, fieldAddr_45_2, fieldAddr_45_3, fieldAddr_45_4, fieldAddr_71_0, fieldAddr_71_1, fieldAddr_71_2, fieldAddr_71_3, fieldAddr_71_4, load_3, load_62, cellAt_of hg1, cellAt_of hw1]
  refine ifB_intro (fun h1 => ?_) (fun h => ⟨by simp [mkres, grantB, h], by omega⟩)
  refine ifB_intro (fun h2 => ?_) (fun h => ⟨by simp [mkres, grantB, h], by omega⟩)
  refine ifB_intro (fun h3 => ?_) (fun h => ⟨by simp [mkres, grantB, h], by omega⟩)
  rw [loadCells_of hg1 (by simp)]
  simp only [onS_some, on2_some, onFn_func, ifV_bool, ifB_true, ifB_false, bin_leq, bin_lss, bin_geq, bin_gtr, bin_eql, bin_neq, un_not, ptrTo, nilck_ptr, nilck_func, Nat.zero_add, Nat.reduceAdd, List.getElem?_cons_zero, List.getElem?_cons_succ, List.drop_zero, List.drop_succ_cons, List.take_succ_cons, List.take_zero, Option.map_some, cells_agg, cells_int, cells_bool, cells_slice, cells_ptr, cells_map, cells_func]
  refine onC_of (has66_ok hX d.sp _) ?_
  simp only [onS_some, on2_some, onFn_func, ifV_bool, ifB_true, ifB_false, bin_leq, bin_lss, bin_geq, bin_gtr, bin_eql, bin_neq, un_not, ptrTo, nilck_ptr, nilck_func, Nat.zero_add, Nat.reduceAdd, List.getElem?_cons_zero, List.getElem?_cons_succ, List.drop_zero, List.drop_succ_cons, List.take_succ_cons, List.take_zero, Option.map_some, cells_agg, cells_int, cells_bool, cells_slice, cells_ptr, cells_map, cells_func, fieldAddr_45_0, fieldAddr_45_1, fieldAddr_45_2, fieldAddr_45_3, fieldAddr_45_4, fieldAddr_71_0, fieldAddr_71_1, fieldAddr_71_2, fieldAddr_71_3, fieldAddr_71_4, load_3, load_62, cellAt_of hg1, cellAt_of hw1]
  refine ifB_intro (fun h4 => ?_) (fun h => ⟨by simp [mkres, grantB, h], by omega⟩)
  rw [loadCells_of hg1 (by simp)]
  simp only [onS_some, on2_some, onFn_func, ifV_bool, ifB_true, ifB_false, bin_leq, bin_lss, bin_geq, bin_gtr, bin_eql, bin_neq, un_not, ptrTo, nilck_ptr, nilck_func, Nat.zero_add, Nat.reduceAdd, List.getElem?_cons_zero, List.getElem?_cons_succ, List.drop_zero, List.drop_succ_cons, List.take_succ_cons, List.take_zero, Option.map_some, cells_agg, cells_int, cells_bool, cells_slice, cells_ptr, cells_map, cells_func]
  refine onC_of (has66_ok hX d.kn _) ?_
  exact ⟨by simp [mkres, grantB, h1, h2, h3, h4], by omega⟩
/-- deeds and grants hand back a closure that knows the wish. -/
theorem deeds_ok (hX : NoX X) (w : Wish) : ∃ m', C X (.func 34) [w.v] m m.n (.func (.func 65) #[] #[ptrTo m.n]) m' ∧ Ext m m' ∧ m'.get m.n = .cells w.c 45 none := by
  have key := Cl.heap (E := Tab.env) (X := X) (f := 34) (args := [w.v]) (m := m) (R := fun v m' b => v = .func (.func 65) #[] #[ptrTo m.n] ∧ b = m.n ∧ Ext m m' ∧ m'.get m.n = .cells w.c 45 none) (hX.no 34 rfl) fn_34 rfl ?_
  · obtain ⟨v, m', b, hc, rfl, rfl, h3⟩ := key
    exact ⟨m', hc, h3⟩
  · rw [F34]
    refine onM_push fun m1 hn1 hg1 hk1 => ?_
    exact ⟨.inl rfl, rfl, by omega, ⟨by omega, hk1⟩, hg1⟩
theorem grants_ok (hX : NoX X) (w : Wish) : ∃ m', C X (.func 36) [w.v] m m.n (.func (.func 68) #[] #[ptrTo m.n]) m' ∧ Ext m m' ∧ m'.get m.n = .cells w.c 45 none := by
  have key := Cl.heap (E := Tab.env) (X := X) (f := 36) (args := [w.v]) (m := m) (R := fun v m' b => v = .func (.func 68) #[] #[ptrTo m.n] ∧ b = m.n ∧ Ext m m' ∧ m'.get m.n = .cells w.c 45 none) (hX.no 36 rfl) fn_36 rfl ?_
  · obtain ⟨v, m', b, hc, rfl, rfl, h3⟩ := key
    exact ⟨m', hc, h3⟩
  · rw [F36]
    refine onM_push fun m1 hn1 hg1 hk1 => ?_
    exact ⟨.inl rfl, rfl, by omega, ⟨by omega, hk1⟩, hg1⟩
def allowsB (needed : Bool) (deed grant : Int) : Bool := decide (0 ≤ deed) && (!needed || decide (0 ≤ grant))
theorem allows_ok (hX : NoX X) (b : Bool) (d g : Int) : C X (.func 37) [.bool b, .int .i64 d, .int .i64 g] m m.n (.bool (allowsB b d g)) m := by
  refine Cl.flat (hX.no 37 rfl) fn_37 rfl rfl ?_
  rw [F37]
  simp only [onS_some, on2_some, onFn_func, ifV_bool, ifB_true, ifB_false, bin_leq, bin_lss, bin_geq, bin_gtr, bin_eql, bin_neq, un_not, ptrTo, nilck_ptr, nilck_func, Nat.zero_add, Nat.reduceAdd, List.getElem?_cons_zero, List.getElem?_cons_succ, List.drop_zero, List.drop_succ_cons, List.take_succ_cons, List.take_zero, Option.map_some, cells_agg, cells_int, cells_bool, cells_slice, cells_ptr, cells_map, cells_func]
  refine ifB_intro (fun h1 => ?_) (fun h => ⟨by simp [mkres, allowsB, h], by omega⟩)
  refine ifB_intro (fun h2 => ?_) (fun h2 => ?_)
  · exact ⟨by simp [mkres, allowsB, h1]; simp at h2; simp [h2], by omega⟩
  · exact ⟨by simp [mkres, allowsB, h1]; simp at h2; simp [h2], by omega⟩
end Go.Proofs.YtbpmlholiohkpaaGreatDoor

/- Contracts: which facts and clauses apply. -/
namespace Go.Proofs.YtbpmlholiohkpaaGreatDoor
open Go Go.D
variable {X : CallFn} {m : M}

theorem apt_int : ApT Tab.env 26 Int := ⟨Tab.t26, Tab.t3, by kernel_rfl, rfl, rfl, by kernel_rfl, by decide, rfl⟩
/-- The cells of a list of numbers. -/
theorem ow_ints {n1 : Nat} {l : List Int} {v : Value} (h : Ow n1 m l v) (hl : l ≠ []) : ∃ b, v = .slice (some ⟨b, 0, none⟩) l.length l.length ∧ n1 ≤ b ∧ m.get b = .cells (l.map (.int .i64)) 3 (some 1) := by
  rcases h with ⟨_, rfl⟩ | ⟨b, cs, h1, h2, h3, h4, h5, h6⟩
  · exact absurd rfl hl
  · refine ⟨b, h1, h3, ?_⟩
    have h5 : cs.length = l.length := by simpa [Rep.sz] using h5
    have : cs = l.map (.int .i64) := by
      apply List.ext_getElem?
      intro i
      rw [List.getElem?_map]
      cases hi : l[i]? with
      | none =>
        have := List.getElem?_eq_none_iff.1 hi
        rw [List.getElem?_eq_none (by omega)]; rfl
      | some x =>
        have hq : chunk cs 1 i = [.int .i64 x] := h6 i x hi
        have hlt := (List.getElem?_eq_some_iff.1 hi).1
        unfold chunk at hq
        rw [Nat.mul_one] at hq
        have := congrArg (fun l => l[0]?) hq
        simp only [List.getElem?_take, List.getElem?_drop, Nat.add_zero] at this
        simpa using this
    rw [← this]
    exact h4
theorem ow_of_ints {n1 b : Nat} {l : List Int} (hl : l ≠ []) (hb : n1 ≤ b) (h : m.get b = .cells (l.map (.int .i64)) 3 (some 1)) : Ow n1 m l (.slice (some ⟨b, 0, none⟩) l.length l.length) := by
  refine .inr ⟨b, _, rfl, List.length_pos_iff.2 hl, hb, h, by simp [Rep.sz], fun i x hi => ?_⟩
  show chunk _ 1 i = [.int .i64 x]
  unfold chunk
  rw [Nat.mul_one]
  have hlt := (List.getElem?_eq_some_iff.1 hi).1
  rw [List.drop_eq_getElem_cons (by simpa using hlt)]
  simp only [List.take_succ_cons, List.take_zero, List.getElem_map]
  rw [(List.getElem?_eq_some_iff.1 hi).2]
/-- slices.Sort of a slice of the call's own. -/
theorem sort_ok (hX : NoX X) {n1 : Nat} {l : List Int} {v : Value} (h : Ow n1 m l v) (hn : n1 ≤ m.n) (hs : l.length ≤ 1048576) :
    ∃ b m', C X (.func 83) [v] m b (.tuple #[]) m' ∧ Ow n1 m' (isort l) v ∧ Fr' n1 m m' ∧ n1 ≤ b := by
  by_cases hl : l = []
  · subst hl
    rcases h with ⟨rfl, _⟩ | ⟨b, cs, _, h2, _⟩
    · refine ⟨m.n, m, Cl.knownW (fun l hl => ?_) (Nat.le_refl _) (Nat.le_refl _), .nil, .refl, hn⟩
      rw [Nat.min_eq_left hl]
      exact hX.sort _ _ _ rfl
    · simp at h2
  · obtain ⟨b, rfl, hb, hg⟩ := ow_ints h hl
    have hbn := M.lt_of_get hg
    have hil : (isort l).length = l.length := isort_length l
    have hne : isort l ≠ [] := fun e => hl (List.eq_nil_of_length_eq_zero (by rw [← hil, e]; rfl))
    refine ⟨b, m.set b (.cells ((isort l).map (.int .i64)) 3 (some 1)), Cl.knownW (fun k hk => ?_) (Nat.le_refl _) (by omega), ?_, ⟨Nat.le_refl _, fun c hc => by rw [M.get_set_ne (by omega)]⟩, hb⟩
    · refine hX.sort _ _ _ ?_
      unfold sortInX
      dsimp only
      have e0 : Nat.beq 83 83 = true := rfl
      rw [e0]
      simp only [cond_true, M.wl_get, hg]
      have hpos : 0 < l.length := List.length_pos_iff.2 hl
      have e1 : ((none : Option Nat).isNone && Nat.ble 1 l.length && Nat.ble (0 + l.length) (l.map (Value.int .i64)).length && Nat.ble l.length 1048576) = true := by
        rw [Nat.ble_eq_true_of_le (show 1 ≤ l.length from hpos), Nat.ble_eq_true_of_le (show 0 + l.length ≤ (l.map (Value.int .i64)).length by simp), Nat.ble_eq_true_of_le hs]; rfl
      rw [e1]
      have e2 : ints? (((l.map (Value.int .i64)).drop 0).take l.length) = some l := by
        rw [List.drop_zero, List.take_of_length_le (by simp), ints_map]
      simp only [cond_true, e2]
      have e3 : (l.map (Value.int .i64)).take 0 ++ ((isort l).map (Value.int .i64) ++ (l.map (Value.int .i64)).drop (0 + l.length)) = (isort l).map (Value.int .i64) := by
        rw [List.drop_eq_nil_of_le (by simp)]; simp
      rw [e3, M.wl_set]
    · have := ow_of_ints (m := m.set b (.cells ((isort l).map (.int .i64)) 3 (some 1))) hne hb (M.get_set_same hbn)
      rw [hil] at this
      exact this
/-- slices.Compact where no neighbours are equal. -/
theorem compact_ok (hX : NoX X) {l : List Int} {v : Value} (h : Sl m l v) (hl : flat2 v = false) (hs : l.length < 4611686018427387904) (hd : ∀ i x y, l[i]? = some x → l[i + 1]? = some y → y ≠ x) :
    ∃ m', C X (.func 86) [v] m m.n v m' ∧ Ext m m' := by
  have key := Cl.heap (E := Tab.env) (X := X) (f := 86) (args := [v]) (m := m) (R := fun w m' b => w = v ∧ b = m.n ∧ Ext m m') (hX.no 86 rfl) fn_86 rfl ?_
  · obtain ⟨w, m', b, hc, rfl, rfl, h3⟩ := key
    exact ⟨m', hc, h3⟩
  · rw [F86]
    have fin : ∀ m1 lo, m1 = m → lo = m.n → (flat2 (mkres [v]) = false ∨ lo < m.n) ∧ mkres [v] = v ∧ min m.n lo = m.n ∧ Ext m m1 := by
      rintro m1 lo rfl rfl; exact ⟨.inl hl, rfl, Nat.min_self _, .refl⟩
    rw [h.len slt_int, on2_some]
    simp only [onS_some, on2_some, onFn_func, ifV_bool, ifB_true, ifB_false, bin_leq, bin_lss, bin_geq, bin_gtr, bin_eql, bin_neq, un_not, ptrTo, nilck_ptr, nilck_func, Nat.zero_add, Nat.reduceAdd, List.getElem?_cons_zero, List.getElem?_cons_succ, List.drop_zero, List.drop_succ_cons, List.take_succ_cons, List.take_zero, Option.map_some, cells_agg, cells_int, cells_bool, cells_slice, cells_ptr, cells_map, cells_func, len_26, load_3, ty_26, ty_3]
    refine ifB_intro (fun _ => fin _ _ rfl rfl) (fun h2 => ?_)
    have h2' : 2 ≤ l.length := by simp at h2; omega
    refine Lp.intro (γ := Nat) (fun i => l.length - i) (fun i vs m1 lo => ∃ w, vs = [.int .i64 i, w] ∧ 1 ≤ i ∧ i ≤ l.length ∧ m1 = m ∧ lo = m.n) 1 ⟨_, rfl, by omega, by omega, rfl, rfl⟩ ?_
    rintro i vs m1 lo1 ⟨w, rfl, h1, hi, rfl, rfl⟩
    simp only [un_cons]
    rw [h.len slt_int, on2_some]
    simp only [onS_some, on2_some, onFn_func, ifV_bool, ifB_true, ifB_false, bin_leq, bin_lss, bin_geq, bin_gtr, bin_eql, bin_neq, un_not, ptrTo, nilck_ptr, nilck_func, Nat.zero_add, Nat.reduceAdd, List.getElem?_cons_zero, List.getElem?_cons_succ, List.drop_zero, List.drop_succ_cons, List.take_succ_cons, List.take_zero, Option.map_some, cells_agg, cells_int, cells_bool, cells_slice, cells_ptr, cells_map, cells_func, len_26, load_3, ty_26, ty_3]
    refine ifB_intro (fun hlt => ?_) (fun _ => fin _ _ rfl rfl)
    have hlt : i < l.length := by simp at hlt; omega
    have hx : l[i]? = some l[i] := List.getElem?_eq_getElem hlt
    have hy : l[i - 1]? = some l[i - 1] := List.getElem?_eq_getElem (by omega)
    obtain ⟨p, cs, e1, e2, rfl⟩ := h.index slt_int (k := .i64) hx
    obtain ⟨q, cs', e3, e4, rfl⟩ := h.index slt_int (k := .i64) hy
    rw [e1, onS_some, e2, onS_some]
    simp only [bin_sub, onS_some]
    rw [wrap64 (by omega) (by omega)]
    have e5 : ((i : Int) - 1) = ((i - 1 : Nat) : Int) := by omega
    rw [e5, e3, onS_some, e4, onS_some]
    simp only [val_int, onS_some, on2_some, onFn_func, ifV_bool, ifB_true, ifB_false, bin_leq, bin_lss, bin_geq, bin_gtr, bin_eql, bin_neq, un_not, ptrTo, nilck_ptr, nilck_func, Nat.zero_add, Nat.reduceAdd, List.getElem?_cons_zero, List.getElem?_cons_succ, List.drop_zero, List.drop_succ_cons, List.take_succ_cons, List.take_zero, Option.map_some, cells_agg, cells_int, cells_bool, cells_slice, cells_ptr, cells_map, cells_func, len_26, load_3, ty_26, ty_3]
    refine ifB_intro (fun he => ?_) (fun _ => ?_)
    · have he : l[i] = l[i - 1] := by simpa using he
      exact absurd he (hd (i - 1) _ _ hy (by rw [Nat.sub_add_cancel h1]; exact hx))
    · simp only [bin_add, onS_some]
      refine ⟨i + 1, by omega, w, ?_, by omega, by omega, by trivial, by trivial⟩
      rw [wrap64 (by omega) (by omega)]
      rfl
/-- insert, where the numbers are others. -/
theorem insert_ok (hX : NoX X) {n1 : Nat} {l ys : List Int} {v y : Value} (h : Ow n1 m l v) (hy : Sl m ys y) (hn : n1 ≤ m.n) (hne : l ++ ys ≠ []) (hs : l.length + ys.length ≤ 1000) (hd : (l ++ ys).Nodup) :
    ∃ v' m' b, C X (.func 51) [v, y] m b v' m' ∧ Ow n1 m' (isort (l ++ ys)) v' ∧ Fr' n1 m m' ∧ n1 ≤ b := by
  have hsorted := isort_sorted (l ++ ys)
  have hnd : (isort (l ++ ys)).Nodup := (isort_perm (l ++ ys)).nodup_iff.2 hd
  have hlen : (isort (l ++ ys)).length = l.length + ys.length := by rw [isort_length, List.length_append]
  have hne' : isort (l ++ ys) ≠ [] := fun e => hne (by have := congrArg List.length e; rw [isort_length] at this; exact List.eq_nil_of_length_eq_zero this)
  refine Cl.heap (R := fun v' m' b => Ow n1 m' (isort (l ++ ys)) v' ∧ Fr' n1 m m' ∧ n1 ≤ b) (hX.no 51 rfl) fn_51 rfl ?_
  rw [F51]
  obtain ⟨v1, m1, e1, hOw, hFr, hlow, hn2⟩ := h.append apt_int (by simp [Rep.tys]) hy hn (by omega)
  rw [e1, on2_some]
  obtain ⟨b, m2, hc, hOw2, hFr2, hb⟩ := sort_ok hX hOw (Nat.le_trans hn hFr.n) (by rw [List.length_append]; omega)
  refine onC_of hc ?_
  have hfl := hOw2.flat hne'
  obtain ⟨m3, hc3, he3⟩ := compact_ok hX hOw2.sl hfl (by omega) (fun i x z hx hz e => by
    subst e
    have := List.pairwise_iff_getElem.1 hnd i (i + 1) (List.getElem?_eq_some_iff.1 hx).1 (List.getElem?_eq_some_iff.1 hz).1 (by omega)
    rw [(List.getElem?_eq_some_iff.1 hx).2, (List.getElem?_eq_some_iff.1 hz).2] at this
    exact this rfl)
  refine onC_of hc3 ?_
  have hmn : n1 ≤ m2.n := Nat.le_trans (Nat.le_trans hn hFr.n) hFr2.n
  exact ⟨.inl hfl, hOw2.keepE he3, (hFr.trans hFr2).trans (he3.fr hmn), by omega⟩
end Go.Proofs.YtbpmlholiohkpaaGreatDoor

/- Contracts: which facts and clauses apply. -/
namespace Go.Proofs.YtbpmlholiohkpaaGreatDoor
open Go Go.D
variable {X : CallFn} {m : M}
abbrev Query.c (q : Query) : List Value := [.int .i64 q.thing, .int .i64 q.says, .int .i64 q.day, .int .i64 q.known]
def Query.ok (q : Query) : Bool := inB q.thing 0 99 && (inB q.says 0 19 && (inB q.day 0 799999 && inB q.known 0 799999))
theorem asks111_ok (hX : NoX X) (q : Query) : C X (.func 111) [q.v] m m.n (.bool q.ok) m := by
  refine Cl.flat (hX.no 111 rfl) fn_111 rfl rfl ?_
  rw [F111]
  refine onM_push fun m1 hn1 hg1 hk1 => ?_
  simp only [cells_agg] at hg1
  simp only [onS_some, on2_some, onFn_func, ifV_bool, ifB_true, ifB_false, bin_leq, bin_lss, bin_geq, bin_gtr, bin_eql, bin_neq, un_not, ptrTo, nilck_ptr, nilck_func, Nat.zero_add, Nat.reduceAdd, List.getElem?_cons_zero, List.getElem?_cons_succ, List.drop_zero, List.drop_succ_cons, List.take_succ_cons, List.take_zero, Option.map_some, cells_agg, cells_int, cells_bool, cells_slice, cells_ptr, cells_map, cells_func, fieldAddr_55_0, fieldAddr_55_1, fieldAddr_55_2, fieldAddr_55_3, load_3, cellAt_of hg1]
  refine onC_of (isIn70_ok hX _ _ _) ?_
  simp only [onS_some, on2_some, onFn_func, ifV_bool, ifB_true, ifB_false, bin_leq, bin_lss, bin_geq, bin_gtr, bin_eql, bin_neq, un_not, ptrTo, nilck_ptr, nilck_func, Nat.zero_add, Nat.reduceAdd, List.getElem?_cons_zero, List.getElem?_cons_succ, List.drop_zero, List.drop_succ_cons, List.take_succ_cons, List.take_zero, Option.map_some, cells_agg, cells_int, cells_bool, cells_slice, cells_ptr, cells_map, cells_func, fieldAddr_55_0, fieldAddr_55_1, fieldAddr_55_2, fieldAddr_55_3, load_3, cellAt_of hg1]
  refine ifB_intro (fun h1 => ?_) (fun h => ⟨by simp [mkres, Query.ok, h], by omega⟩)
  refine onC_of (isIn70_ok hX _ _ _) ?_
  simp only [onS_some, on2_some, onFn_func, ifV_bool, ifB_true, ifB_false, bin_leq, bin_lss, bin_geq, bin_gtr, bin_eql, bin_neq, un_not, ptrTo, nilck_ptr, nilck_func, Nat.zero_add, Nat.reduceAdd, List.getElem?_cons_zero, List.getElem?_cons_succ, List.drop_zero, List.drop_succ_cons, List.take_succ_cons, List.take_zero, Option.map_some, cells_agg, cells_int, cells_bool, cells_slice, cells_ptr, cells_map, cells_func, fieldAddr_55_0, fieldAddr_55_1, fieldAddr_55_2, fieldAddr_55_3, load_3, cellAt_of hg1]
  refine ifB_intro (fun h2 => ?_) (fun h => ⟨by simp [mkres, Query.ok, h], by omega⟩)
  refine onC_of (isDay_ok hX _) ?_
  simp only [onS_some, on2_some, onFn_func, ifV_bool, ifB_true, ifB_false, bin_leq, bin_lss, bin_geq, bin_gtr, bin_eql, bin_neq, un_not, ptrTo, nilck_ptr, nilck_func, Nat.zero_add, Nat.reduceAdd, List.getElem?_cons_zero, List.getElem?_cons_succ, List.drop_zero, List.drop_succ_cons, List.take_succ_cons, List.take_zero, Option.map_some, cells_agg, cells_int, cells_bool, cells_slice, cells_ptr, cells_map, cells_func, fieldAddr_55_0, fieldAddr_55_1, fieldAddr_55_2, fieldAddr_55_3, load_3, cellAt_of hg1]
  refine ifB_intro (fun h3 => ?_) (fun h => ⟨by simp [mkres, Query.ok, h], by omega⟩)
  refine onC_of (isDay_ok hX _) ?_
  exact ⟨by simp [mkres, Query.ok, h1, h2, h3], by omega⟩
theorem has151_ok (hX : NoX X) (s : Spell) (d : Int) (hs : -1000 ≤ s.t ∧ s.t ≤ 1000000) : C X (.func 151) [s.v, .int .i64 d] m m.n (.bool (hasB s d)) m := by
  refine Cl.flat (hX.no 151 rfl) fn_151 rfl rfl ?_
  rw [F151]
  refine onM_push fun m1 hn1 hg1 hk1 => ?_
  simp only [cells_agg] at hg1
  simp only [onS_some, on2_some, onFn_func, ifV_bool, ifB_true, ifB_false, bin_leq, bin_lss, bin_geq, bin_gtr, bin_eql, bin_neq, un_not, ptrTo, nilck_ptr, nilck_func, Nat.zero_add, Nat.reduceAdd, List.getElem?_cons_zero, List.getElem?_cons_succ, List.drop_zero, List.drop_succ_cons, List.take_succ_cons, List.take_zero, Option.map_some, cells_agg, cells_int, cells_bool, cells_slice, cells_ptr, cells_map, cells_func, fieldAddr_62_0, fieldAddr_62_1, load_3, cellAt_of hg1, bin_sub]
  rw [wrap64 (by omega) (by omega)]
  refine onC_of (isIn70_ok hX _ _ _) ?_
  refine ⟨?_, by omega⟩
  have : decide (d ≤ s.t - 1) = decide (d < s.t) := by by_cases h : d < s.t <;> simp [h] <;> omega
  simp [mkres, hasB, inB, this]
theorem spB_small {f t : Int} (h : spB f t = true) : -1000 ≤ t ∧ t ≤ 1000000 := by
  simp only [spB, Bool.and_eq_true, decide_eq_true_eq] at h; omega
def statesB (q : Query) (x : Fact) : Bool := decide (x.thing = q.thing) && (hasB x.sp q.day && hasB x.kn q.known)
theorem states_ok (hX : NoX X) (x : Fact) (q : Query) (hx : x.ok = true) : C X (.func 112) [.agg x.c.toArray, q.v] m m.n (.bool (statesB q x)) m := by
  simp only [Fact.ok, Bool.and_eq_true, Spell.ok] at hx
  refine Cl.flat (hX.no 112 rfl) fn_112 rfl rfl ?_
  rw [F112]
  refine onM_push fun m1 hn1 hg1 hk1 => ?_
  refine onM_push fun m2 hn2 hg2 hk2 => ?_
  have hg1' := (hk2 m.n (by omega)).trans hg1
  simp only [cells_agg] at hg1' hg2
  simp only [onS_some, on2_some, onFn_func, ifV_bool, ifB_true, ifB_false, bin_leq, bin_lss, bin_geq, bin_gtr, bin_eql, bin_neq, un_not, ptrTo, nilck_ptr, nilck_func, Nat.zero_add, Nat.reduceAdd, List.getElem?_cons_zero, List.getElem?_cons_succ, List.drop_zero, List.drop_succ_cons, List.take_succ_cons, List.take_zero, Option.map_some, cells_agg, cells_int, cells_bool, cells_slice, cells_ptr, cells_map, cells_func, fieldAddr_55_0, fieldAddr_55_2, fieldAddr_55_3, fieldAddr_66_0, fieldAddr_66_2, fieldAddr_66_3, load_3, load_62, cellAt_of hg1', cellAt_of hg2]
  refine ifB_intro (fun h1 => ?_) (fun h => ⟨by simp [mkres, statesB, h], by omega⟩)
  rw [loadCells_of hg1' (by simp)]
  simp only [onS_some, on2_some, onFn_func, ifV_bool, ifB_true, ifB_false, bin_leq, bin_lss, bin_geq, bin_gtr, bin_eql, bin_neq, un_not, ptrTo, nilck_ptr, nilck_func, Nat.zero_add, Nat.reduceAdd, List.getElem?_cons_zero, List.getElem?_cons_succ, List.drop_zero, List.drop_succ_cons, List.take_succ_cons, List.take_zero, Option.map_some, cells_agg, cells_int, cells_bool, cells_slice, cells_ptr, cells_map, cells_func]
  refine onC_of (has151_ok hX x.sp _ (spB_small hx.2.2.1)) ?_
  simp only [onS_some, on2_some, onFn_func, ifV_bool, ifB_true, ifB_false, bin_leq, bin_lss, bin_geq, bin_gtr, bin_eql, bin_neq, un_not, ptrTo, nilck_ptr, nilck_func, Nat.zero_add, Nat.reduceAdd, List.getElem?_cons_zero, List.getElem?_cons_succ, List.drop_zero, List.drop_succ_cons, List.take_succ_cons, List.take_zero, Option.map_some, cells_agg, cells_int, cells_bool, cells_slice, cells_ptr, cells_map, cells_func, fieldAddr_55_0, fieldAddr_55_2, fieldAddr_55_3, fieldAddr_66_0, fieldAddr_66_2, fieldAddr_66_3, load_3, load_62, cellAt_of hg1', cellAt_of hg2]
  refine ifB_intro (fun h2 => ?_) (fun h => ⟨by simp [mkres, statesB, h], by omega⟩)
  rw [loadCells_of hg1' (by simp)]
  simp only [onS_some, on2_some, onFn_func, ifV_bool, ifB_true, ifB_false, bin_leq, bin_lss, bin_geq, bin_gtr, bin_eql, bin_neq, un_not, ptrTo, nilck_ptr, nilck_func, Nat.zero_add, Nat.reduceAdd, List.getElem?_cons_zero, List.getElem?_cons_succ, List.drop_zero, List.drop_succ_cons, List.take_succ_cons, List.take_zero, Option.map_some, cells_agg, cells_int, cells_bool, cells_slice, cells_ptr, cells_map, cells_func]
  refine onC_of (has151_ok hX x.kn _ (spB_small hx.2.2.2)) ?_
  exact ⟨by simp [mkres, statesB, h1, h2], by omega⟩
/-- A repeal that strikes clause i. -/
def strikes (q : Query) (i : Nat) (r : Repeal) : Bool := decide (r.cl = i) && (decide (r.pub ≤ q.known) && decide (r.from' ≤ q.day))
theorem rules1_ok (hX : NoX X) (r : Repeal) {q : Query} {i : Nat} {bi bq : Nat} {e1 e2 : TypeId} {g1 g2 : Option Nat} (hi : m.get bi = .cells [.int .i64 i] e1 g1) (hq : m.get bq = .cells q.c e2 g2) :
    C X (.func 152) [.agg r.c.toArray, ptrTo bi, ptrTo bq] m m.n (.bool (strikes q i r)) m := by
  refine Cl.flat (hX.no 152 rfl) fn_152 rfl rfl ?_
  rw [F152]
  refine onM_push fun m1 hn1 hg1 hk1 => ?_
  simp only [cells_agg] at hg1
  have he : Ext m m1 := ⟨by omega, hk1⟩
  have hi1 := he.cells hi
  have hq1 := he.cells hq
  simp only [onS_some, on2_some, onFn_func, ifV_bool, ifB_true, ifB_false, bin_leq, bin_lss, bin_geq, bin_gtr, bin_eql, bin_neq, un_not, ptrTo, nilck_ptr, nilck_func, Nat.zero_add, Nat.reduceAdd, List.getElem?_cons_zero, List.getElem?_cons_succ, List.drop_zero, List.drop_succ_cons, List.take_succ_cons, List.take_zero, Option.map_some, cells_agg, cells_int, cells_bool, cells_slice, cells_ptr, cells_map, cells_func, fieldAddr_55_2, fieldAddr_55_3, fieldAddr_92_0, fieldAddr_92_1, fieldAddr_92_2, load_3, cellAt_of hg1, cellAt_of hi1, cellAt_of hq1]
  refine ifB_intro (fun h1 => ?_) (fun h => ⟨by simp [mkres, strikes, h], by omega⟩)
  refine ifB_intro (fun h2 => ?_) (fun h => ⟨by simp [mkres, strikes, h], by omega⟩)
  exact ⟨by simp [mkres, strikes, h1, h2], by omega⟩
def rulesB (l : Law) (q : Query) (i : Nat) : Bool := match l.clauses[i]? with
  | some x => decide (x.pub ≤ q.known) && (hasB x.sp q.day && !(l.repeals.any (strikes q i)))
  | none => false
theorem rules_ok (hX : NoX X) {l : Law} {v1 v2 v3 : Value} (hl : LawV m l v1 v2 v3) (hs : l.repeals.length < 1000) {i : Nat} {x : Clause} (hi : l.clauses[i]? = some x) (hx : x.ok = true) (q : Query) :
    C X (.func 113) [.agg #[v1, v2, v3], .int .i64 i, q.v] m m.n (.bool (rulesB l q i)) m := by
  simp only [Clause.ok, Bool.and_eq_true, Spell.ok] at hx
  refine Cl.flat (hX.no 113 rfl) fn_113 rfl rfl ?_
  rw [F113]
  refine onM_push fun m1 hn1 hg1 hk1 => ?_
  refine onM_push fun m2 hn2 hg2 hk2 => ?_
  refine onM_push fun m3 hn3 hg3 hk3 => ?_
  have hg1' := (hk3 m.n (by omega)).trans ((hk2 m.n (by omega)).trans hg1)
  have hg2' := (hk3 m1.n (by omega)).trans hg2
  simp only [cells_agg, cells_int] at hg1' hg2' hg3
  have he3 : Ext m m3 := ⟨by omega, fun b hb => by rw [hk3 b (by omega), hk2 b (by omega), hk1 b hb]⟩
  have hl3 := hl.keepE he3
  simp only [onS_some, on2_some, onFn_func, ifV_bool, ifB_true, ifB_false, bin_leq, bin_lss, bin_geq, bin_gtr, bin_eql, bin_neq, un_not, ptrTo, nilck_ptr, nilck_func, Nat.zero_add, Nat.reduceAdd, List.getElem?_cons_zero, List.getElem?_cons_succ, List.drop_zero, List.drop_succ_cons, List.take_succ_cons, List.take_zero, Option.map_some, cells_agg, cells_int, cells_bool, cells_slice, cells_ptr, cells_map, cells_func, fieldAddr_38_0, fieldAddr_38_1, fieldAddr_55_2, fieldAddr_55_3, fieldAddr_64_0, fieldAddr_64_1, load_3, load_34, load_35, load_62, load_64, ty_34, ty_64, cellAt_of hg1', cellAt_of hg2']
  obtain ⟨p, cs, e1, e2, vn, vb, rfl, hvn, hvb⟩ := hl3.clauses.index slt_clause (k := .i64) hi
  rw [e1, onS_some, e2, onS_some, val_agg rfl]
  refine onM_push fun m9 hn9 hg9 hk9 => ?_
  have hones : (cells (Value.agg (x.cs vn vb).toArray)).all D.one = true := by
    rw [cells_agg]
    exact Rep.ones (α := Clause) (m := m3) (x := x) ⟨vn, vb, rfl, hvn, hvb⟩
  refine on2_store ty_64 hg9 (by rfl) (by simp [cells_agg, Clause.cs]) hones fun m10 hn10 hg10 hk10 => ?_
  have hq10 := (hk10 m2.n (by omega)).trans ((hk9 m2.n (by omega)).trans hg3)
  have hi10 := (hk10 m1.n (by omega)).trans ((hk9 m1.n (by omega)).trans hg2')
  have hl10 := (hk10 m.n (by omega)).trans ((hk9 m.n (by omega)).trans hg1')
  have he10 : Ext m m10 := ⟨by omega, fun b hb => by rw [hk10 b (by omega), hk9 b (by omega), he3.get b hb]⟩
  have hx10 : m10.get m3.n = .cells (x.cs vn vb) 64 none := by rw [hg10]; simp [cells_agg, Clause.cs]
  simp only [Clause.cs] at hx10
  simp only [onS_some, on2_some, onFn_func, ifV_bool, ifB_true, ifB_false, bin_leq, bin_lss, bin_geq, bin_gtr, bin_eql, bin_neq, un_not, ptrTo, nilck_ptr, nilck_func, Nat.zero_add, Nat.reduceAdd, List.getElem?_cons_zero, List.getElem?_cons_succ, List.drop_zero, List.drop_succ_cons, List.take_succ_cons, List.take_zero, Option.map_some, cells_agg, cells_int, cells_bool, cells_slice, cells_ptr, cells_map, cells_func, fieldAddr_38_0, fieldAddr_38_1, fieldAddr_55_2, fieldAddr_55_3, fieldAddr_64_0, fieldAddr_64_1, load_3, load_34, load_35, load_62, load_64, ty_34, ty_64, cellAt_of hx10, cellAt_of hq10]
  have hrb : rulesB l q i = (decide (x.pub ≤ q.known) && (hasB x.sp q.day && !(l.repeals.any (strikes q i)))) := by simp only [rulesB, hi]
  refine ifB_intro (fun h1 => ?_) (fun h => ⟨by simp [mkres, hrb, h], by omega⟩)
  rw [loadCells_of hx10 (by simp)]
  simp only [onS_some, on2_some, onFn_func, ifV_bool, ifB_true, ifB_false, bin_leq, bin_lss, bin_geq, bin_gtr, bin_eql, bin_neq, un_not, ptrTo, nilck_ptr, nilck_func, Nat.zero_add, Nat.reduceAdd, List.getElem?_cons_zero, List.getElem?_cons_succ, List.drop_zero, List.drop_succ_cons, List.take_succ_cons, List.take_zero, Option.map_some, cells_agg, cells_int, cells_bool, cells_slice, cells_ptr, cells_map, cells_func]
  refine onC_of (has151_ok hX x.sp _ (spB_small hx.2.1)) ?_
  simp only [onS_some, on2_some, onFn_func, ifV_bool, ifB_true, ifB_false, bin_leq, bin_lss, bin_geq, bin_gtr, bin_eql, bin_neq, un_not, ptrTo, nilck_ptr, nilck_func, Nat.zero_add, Nat.reduceAdd, List.getElem?_cons_zero, List.getElem?_cons_succ, List.drop_zero, List.drop_succ_cons, List.take_succ_cons, List.take_zero, Option.map_some, cells_agg, cells_int, cells_bool, cells_slice, cells_ptr, cells_map, cells_func, fieldAddr_38_0, fieldAddr_38_1, fieldAddr_55_2, fieldAddr_55_3, fieldAddr_64_0, fieldAddr_64_1, load_3, load_34, load_35, load_62, load_64, ty_34, ty_64, cellAt_of hl10]
  refine ifB_intro (fun h2 => ?_) (fun h => ⟨by simp [mkres, hrb, h], by omega⟩)
  refine onC_of (containsFunc78_ok hX (strikes q i) (by omega) (hl.repeals.keepE he10) fun r _ cs hr => by cases hr; rw [val_agg rfl]; exact rules1_ok hX r hi10 hq10) ?_
  simp only [onS_some, on2_some, onFn_func, ifV_bool, ifB_true, ifB_false, bin_leq, bin_lss, bin_geq, bin_gtr, bin_eql, bin_neq, un_not, ptrTo, nilck_ptr, nilck_func, Nat.zero_add, Nat.reduceAdd, List.getElem?_cons_zero, List.getElem?_cons_succ, List.drop_zero, List.drop_succ_cons, List.take_succ_cons, List.take_zero, Option.map_some, cells_agg, cells_int, cells_bool, cells_slice, cells_ptr, cells_map, cells_func]
  exact ⟨by simp [mkres, hrb, h1, h2], by omega⟩
end Go.Proofs.YtbpmlholiohkpaaGreatDoor

/- Contracts: the facts and the clauses that apply. -/
namespace Go.Proofs.YtbpmlholiohkpaaGreatDoor
open Go Go.D
variable {X : CallFn} {m : M}

/-- The numbers below n that are taken. -/
def sel (p : Nat → Bool) (n : Nat) : List Int := ((List.range n).filter p).map (fun k : Nat => (k : Int))
theorem sel_zero {p : Nat → Bool} : sel p 0 = [] := rfl
theorem sel_succ {p : Nat → Bool} {n : Nat} : sel p (n + 1) = sel p n ++ (if p n = true then [(n : Int)] else []) := by
  unfold sel
  rw [List.range_succ, List.filter_append, List.map_append]
  by_cases h : p n = true <;> simp [h]
theorem mem_sel {p : Nat → Bool} {n : Nat} {z : Int} : z ∈ sel p n ↔ ∃ k : Nat, k < n ∧ p k = true ∧ z = k := by
  unfold sel
  simp only [List.mem_map, List.mem_filter, List.mem_range]
  constructor
  · rintro ⟨k, ⟨h1, h2⟩, rfl⟩; exact ⟨k, h1, h2, rfl⟩
  · rintro ⟨k, h1, h2, rfl⟩; exact ⟨k, ⟨h1, h2⟩, rfl⟩
theorem sel_length {p : Nat → Bool} {n : Nat} : (sel p n).length ≤ n := by
  unfold sel
  rw [List.length_map]
  exact Nat.le_trans (List.length_filter_le _ _) (by simp)
theorem sel_sorted {p : Nat → Bool} : ∀ {n : Nat}, (sel p n).Pairwise (fun a b => a < b)
  | 0 => by simp [sel_zero]
  | n + 1 => by
    rw [sel_succ]
    refine List.pairwise_append.2 ⟨sel_sorted, ?_, fun a ha b hb => ?_⟩
    · split <;> simp
    · split at hb
      · simp at hb; subst hb
        obtain ⟨k, hk, _, rfl⟩ := mem_sel.1 ha
        omega
      · simp at hb
theorem isort_of_sorted : ∀ {l : List Int}, l.Pairwise (fun a b => a ≤ b) → isort l = l
  | [], _ => rfl
  | x :: l, h => by
    rw [List.pairwise_cons] at h
    unfold isort
    rw [isort_of_sorted h.2]
    cases l with
    | nil => rfl
    | cons y l =>
      unfold ins
      have : decide (x ≤ y) = true := by simp [h.1 y List.mem_cons_self]
      rw [this]; rfl
theorem insert_sel (hX : NoX X) {n1 n : Nat} {p : Nat → Bool} {v y : Value} (h : Ow n1 m (sel p n) v) (hy : Sl m [(n : Int)] y) (hn : n1 ≤ m.n) (hs : n ≤ 900) (hp : p n = true) :
    ∃ v' m' b, C X (.func 51) [v, y] m b v' m' ∧ Ow n1 m' (sel p (n + 1)) v' ∧ Fr' n1 m m' ∧ n1 ≤ b := by
  have hl := sel_length (p := p) (n := n)
  have e : sel p n ++ [(n : Int)] = sel p (n + 1) := by rw [sel_succ, if_pos hp]
  have hso := sel_sorted (p := p) (n := n + 1)
  obtain ⟨v', m', b, h1, h2, h3⟩ := insert_ok hX h hy hn (by simp) (by simp; omega) (by rw [e]; exact hso.imp fun hlt heq => by omega)
  rw [e, isort_of_sorted (hso.imp fun hlt => by omega)] at h2
  exact ⟨v', m', b, h1, h2, h3⟩
theorem buildSlice_int1 {z : Int} : buildSlice? Tab.env m 26 1 [(0, .int .i64 z)] = some (.slice (some ⟨m.n, 0, none⟩) 1 1, m.push (.cells [.int .i64 z] 3 none)) := by
  simp only [buildSlice?, show Tab.env.ty.get 26 = some Tab.t26 by kernel_rfl, Tab.t26, zero?, show Tab.env.ty.get 3 = some Tab.t3 by kernel_rfl, Tab.t3, Option.bind_some, cells_int]
  rfl
def Law.facts' (l : Law) (q : Query) : List Int := sel (fun i => match l.facts[i]? with | some x => statesB q x | none => false) l.facts.length
def Law.rules' (l : Law) (q : Query) : List Int := sel (rulesB l q) l.clauses.length
theorem all_ok_of_any {α : Type} {p : α → Bool} {l : List α} (h : (!(l.any fun x => !p x)) = true) {i : Nat} {x : α} (hi : l[i]? = some x) : p x = true := by
  simp only [Bool.not_eq_true', List.any_eq_false, Bool.not_eq_true, Bool.not_eq_false'] at h
  simpa using h x (List.mem_of_getElem? hi)
theorem applies_ok (hX : NoX X) {l : Law} {v1 v2 v3 : Value} (hl : LawV m l v1 v2 v3) (q : Query) (hlo : l.ok = true) (hqo : q.ok = true) :
    ∃ w1 w2 m', C X (.func 69) [.agg #[v1, v2, v3], q.v] m m.n (.tuple #[w1, w2, .int .i64 0]) m' ∧ Sl m' (l.facts' q) w1 ∧ Sl m' (l.rules' q) w2 ∧ Ext m m' := by
  have hlo' := hlo
  simp only [Law.ok, Bool.and_eq_true, decide_eq_true_eq] at hlo'
  obtain ⟨s1, s2, s3, o1, o2, o3⟩ := hlo'
  have key := Cl.gen (E := Tab.env) (X := X) (f := 69) (args := [.agg #[v1, v2, v3], q.v]) (m := m) (R := fun v m' b => ∃ w1 w2, v = .tuple #[w1, w2, .int .i64 0] ∧ b = m.n ∧ Sl m' (l.facts' q) w1 ∧ Sl m' (l.rules' q) w2 ∧ Ext m m') (hX.no 69 rfl) fn_69 rfl ?_
  · obtain ⟨v, m', b, hc, w1, w2, rfl, rfl, h3⟩ := key
    exact ⟨w1, w2, m', hc, h3⟩
  · rw [F69]
    refine onM_push fun m1 hn1 hg1 hk1 => ?_
    refine onM_push fun m2 hn2 hg2 hk2 => ?_
    have hg1' := (hk2 m.n (by omega)).trans hg1
    simp only [cells_agg] at hg1' hg2
    have he2 : Ext m m2 := ⟨by omega, fun b hb => by rw [hk2 b (by omega), hk1 b hb]⟩
    have hl2 := hl.keepE he2
    simp only [onS_some, on2_some, onFn_func, ifV_bool, ifB_true, ifB_false, bin_leq, bin_lss, bin_geq, bin_gtr, bin_eql, bin_neq, un_not, ptrTo, nilck_ptr, nilck_func, Nat.zero_add, Nat.reduceAdd, List.getElem?_cons_zero, List.getElem?_cons_succ, List.drop_zero, List.drop_succ_cons, List.take_succ_cons, List.take_zero, Option.map_some, cells_agg, cells_int, cells_bool, cells_slice, cells_ptr, cells_map, cells_func, fieldAddr_38_0, fieldAddr_38_2, len_34, len_36, load_34, load_36, load_38, load_55, load_66, ty_36, ty_66]
    rw [loadCells_of hg1' (by simp)]
    simp only [onS_some, on2_some, onFn_func, ifV_bool, ifB_true, ifB_false, bin_leq, bin_lss, bin_geq, bin_gtr, bin_eql, bin_neq, un_not, ptrTo, nilck_ptr, nilck_func, Nat.zero_add, Nat.reduceAdd, List.getElem?_cons_zero, List.getElem?_cons_succ, List.drop_zero, List.drop_succ_cons, List.take_succ_cons, List.take_zero, Option.map_some, cells_agg, cells_int, cells_bool, cells_slice, cells_ptr, cells_map, cells_func]
    refine onC_of (validLaw_ok hX hl2 ⟨by omega, by omega, by omega⟩) ?_
    simp only [onS_some, on2_some, onFn_func, ifV_bool, ifB_true, ifB_false, bin_leq, bin_lss, bin_geq, bin_gtr, bin_eql, bin_neq, un_not, ptrTo, nilck_ptr, nilck_func, Nat.zero_add, Nat.reduceAdd, List.getElem?_cons_zero, List.getElem?_cons_succ, List.drop_zero, List.drop_succ_cons, List.take_succ_cons, List.take_zero, Option.map_some, cells_agg, cells_int, cells_bool, cells_slice, cells_ptr, cells_map, cells_func, fieldAddr_38_0, fieldAddr_38_2, len_34, len_36, load_34, load_36, load_38, load_55, load_66, ty_36, ty_66, hlo]
    simp only [Bool.not_true, onS_some, on2_some, onFn_func, ifV_bool, ifB_true, ifB_false, bin_leq, bin_lss, bin_geq, bin_gtr, bin_eql, bin_neq, un_not, ptrTo, nilck_ptr, nilck_func, Nat.zero_add, Nat.reduceAdd, List.getElem?_cons_zero, List.getElem?_cons_succ, List.drop_zero, List.drop_succ_cons, List.take_succ_cons, List.take_zero, Option.map_some, cells_agg, cells_int, cells_bool, cells_slice, cells_ptr, cells_map, cells_func]
    rw [loadCells_of hg2 (by simp)]
    simp only [onS_some, on2_some, onFn_func, ifV_bool, ifB_true, ifB_false, bin_leq, bin_lss, bin_geq, bin_gtr, bin_eql, bin_neq, un_not, ptrTo, nilck_ptr, nilck_func, Nat.zero_add, Nat.reduceAdd, List.getElem?_cons_zero, List.getElem?_cons_succ, List.drop_zero, List.drop_succ_cons, List.take_succ_cons, List.take_zero, Option.map_some, cells_agg, cells_int, cells_bool, cells_slice, cells_ptr, cells_map, cells_func]
    refine onC_of (asks111_ok hX q) ?_
    simp only [onS_some, on2_some, onFn_func, ifV_bool, ifB_true, ifB_false, bin_leq, bin_lss, bin_geq, bin_gtr, bin_eql, bin_neq, un_not, ptrTo, nilck_ptr, nilck_func, Nat.zero_add, Nat.reduceAdd, List.getElem?_cons_zero, List.getElem?_cons_succ, List.drop_zero, List.drop_succ_cons, List.take_succ_cons, List.take_zero, Option.map_some, cells_agg, cells_int, cells_bool, cells_slice, cells_ptr, cells_map, cells_func, fieldAddr_38_0, fieldAddr_38_2, len_34, len_36, load_34, load_36, load_38, load_55, load_66, ty_36, ty_66, hqo, Bool.not_true, cellAt_of hg1']
    rw [hl2.facts.len slt_fact, on2_some]
    -- the facts
    let p1 : Nat → Bool := fun i => match l.facts[i]? with | some x => statesB q x | none => false
    refine Lp.intro (γ := Nat) (fun i => l.facts.length - i) (fun i vs mm lo => ∃ v, vs = [v, .int .i64 i] ∧ i ≤ l.facts.length ∧ Ow m2.n mm (sel p1 i) v ∧ Fr' m2.n m2 mm ∧ m.n ≤ lo) 0 ⟨_, rfl, Nat.zero_le _, .nil, .refl, by omega⟩ ?_
    rintro i vs mm lo ⟨v, rfl, hi, hOw, hFr, hlo1⟩
    simp only [un_cons, bin_lss, onS_some, ifV_bool]
    have hemm : Ext m2 mm := hFr.ext
    have hlm := hl2.keepE hemm
    refine ifB_intro (fun hlt => ?_) (fun hge => ?_)
    · have hlt : i < l.facts.length := by simpa using hlt
      have hx : l.facts[i]? = some l.facts[i] := List.getElem?_eq_getElem hlt
      obtain ⟨a, cs, e1, e2, rfl⟩ := hlm.facts.index slt_fact (k := .i64) hx
      rw [e1, onS_some, e2, onS_some, val_agg rfl]
      refine onM_push fun m3 hn3 hg3 hk3 => ?_
      refine on2_store ty_66 hg3 (by rfl) (by simp [cells_agg]) (by rfl) fun m4 hn4 hg4 hk4 => ?_
      have hg4' : m4.get mm.n = .cells l.facts[i].c 66 none := by rw [hg4]; simp [cells_agg]
      have hmn := hFr.n
      have hq4 := (hk4 m1.n (by omega)).trans ((hk3 m1.n (by omega)).trans ((hemm.get m1.n (by omega)).trans hg2))
      have he4 : Ext mm m4 := ⟨by omega, fun b hb => by rw [hk4 b (by omega), hk3 b hb]⟩
      rw [loadCells_of hg4' (by simp)]
      simp only [onS_some, on2_some, onFn_func, ifV_bool, ifB_true, ifB_false, bin_leq, bin_lss, bin_geq, bin_gtr, bin_eql, bin_neq, un_not, ptrTo, nilck_ptr, nilck_func, Nat.zero_add, Nat.reduceAdd, List.getElem?_cons_zero, List.getElem?_cons_succ, List.drop_zero, List.drop_succ_cons, List.take_succ_cons, List.take_zero, Option.map_some, cells_agg, cells_int, cells_bool, cells_slice, cells_ptr, cells_map, cells_func]
      rw [loadCells_of hq4 (by simp)]
      simp only [onS_some, on2_some, onFn_func, ifV_bool, ifB_true, ifB_false, bin_leq, bin_lss, bin_geq, bin_gtr, bin_eql, bin_neq, un_not, ptrTo, nilck_ptr, nilck_func, Nat.zero_add, Nat.reduceAdd, List.getElem?_cons_zero, List.getElem?_cons_succ, List.drop_zero, List.drop_succ_cons, List.take_succ_cons, List.take_zero, Option.map_some, cells_agg, cells_int, cells_bool, cells_slice, cells_ptr, cells_map, cells_func]
      refine onC_of (states_ok hX l.facts[i] q (all_ok_of_any o3 hx)) ?_
      have hp1 : p1 i = statesB q l.facts[i] := by simp only [p1, hx]
      simp only [ifV_bool]
      refine ifB_intro (fun hs => ?_) (fun hs => ?_)
      · rw [buildSlice_int1, on2_some]
        have he5 : Ext m4 (m4.push (.cells [.int .i64 (i : Int)] 3 none)) := Ext.refl.push
        obtain ⟨v', m6, b6, hc6, hOw6, hFr6, hb6⟩ := insert_sel hX (m := m4.push (.cells [.int .i64 (i : Int)] 3 none)) (p := p1) (n := i) ((hOw.keepE he4).keepE he5)
          (y := .slice (some ⟨m4.n, 0, none⟩) 1 1) (.inr ⟨m4.n, 0, 1, [.int .i64 (i : Int)], none, rfl, M.get_push_new, by simp [Rep.sz], fun j z hj => by
            cases j with
            | zero => simp at hj; subst hj; rfl
            | succ j => simp at hj⟩) (by rw [M.push_n]; omega) (by omega) (by rw [hp1]; exact hs)
        refine onC_of hc6 ?_
        simp only [bin_add, onS_some]
        refine ⟨i + 1, by omega, v', ?_, by omega, hOw6, ((hFr.trans (he4.fr hmn)).trans (he5.fr (by omega))).trans hFr6, by omega⟩
        rw [wrap64 (by omega) (by omega)]; rfl
      · simp only [bin_add, onS_some]
        refine ⟨i + 1, by omega, v, ?_, by omega, ?_, hFr.trans (he4.fr hmn), by omega⟩
        · rw [wrap64 (by omega) (by omega)]; rfl
        · rw [sel_succ, hp1, if_neg (by rw [hs]; exact Bool.false_ne_true), List.append_nil]
          exact hOw.keepE he4
    · have hge : i = l.facts.length := by
        have : ¬ ((i : Int) < (l.facts.length : Int)) := by simpa using hge
        omega
      subst hge
      have hg1m := hemm.cells hg1'
      have hg2m := hemm.cells hg2
      simp only [cellAt_of hg1m, onS_some, on2_some, onFn_func, ifV_bool, ifB_true, ifB_false, bin_leq, bin_lss, bin_geq, bin_gtr, bin_eql, bin_neq, un_not, ptrTo, nilck_ptr, nilck_func, Nat.zero_add, Nat.reduceAdd, List.getElem?_cons_zero, List.getElem?_cons_succ, List.drop_zero, List.drop_succ_cons, List.take_succ_cons, List.take_zero, Option.map_some, cells_agg, cells_int, cells_bool, cells_slice, cells_ptr, cells_map, cells_func]
      rw [hlm.clauses.len slt_clause, on2_some]
      -- the clauses
      refine Lp.intro (γ := Nat) (fun i => l.clauses.length - i) (fun i vs mk lo => ∃ w, vs = [w, .int .i64 i] ∧ i ≤ l.clauses.length ∧ Ow mm.n mk (sel (rulesB l q) i) w ∧ Fr' mm.n mm mk ∧ m.n ≤ lo) 0 ⟨_, rfl, Nat.zero_le _, .nil, .refl, by omega⟩ ?_
      rintro i vs mk lo2 ⟨w, rfl, hi, hOw2, hFr2, hlo2⟩
      simp only [un_cons, bin_lss, onS_some, ifV_bool]
      have hemk : Ext mm mk := hFr2.ext
      have hlk := hlm.keepE hemk
      refine ifB_intro (fun hlt => ?_) (fun hge => ?_)
      · have hlt : i < l.clauses.length := by simpa using hlt
        have hx : l.clauses[i]? = some l.clauses[i] := List.getElem?_eq_getElem hlt
        rw [loadCells_of (hemk.cells hg1m) (by simp)]
        simp only [onS_some, on2_some, onFn_func, ifV_bool, ifB_true, ifB_false, bin_leq, bin_lss, bin_geq, bin_gtr, bin_eql, bin_neq, un_not, ptrTo, nilck_ptr, nilck_func, Nat.zero_add, Nat.reduceAdd, List.getElem?_cons_zero, List.getElem?_cons_succ, List.drop_zero, List.drop_succ_cons, List.take_succ_cons, List.take_zero, Option.map_some, cells_agg, cells_int, cells_bool, cells_slice, cells_ptr, cells_map, cells_func]
        rw [loadCells_of (hemk.cells hg2m) (by simp)]
        simp only [onS_some, on2_some, onFn_func, ifV_bool, ifB_true, ifB_false, bin_leq, bin_lss, bin_geq, bin_gtr, bin_eql, bin_neq, un_not, ptrTo, nilck_ptr, nilck_func, Nat.zero_add, Nat.reduceAdd, List.getElem?_cons_zero, List.getElem?_cons_succ, List.drop_zero, List.drop_succ_cons, List.take_succ_cons, List.take_zero, Option.map_some, cells_agg, cells_int, cells_bool, cells_slice, cells_ptr, cells_map, cells_func]
        refine onC_of (rules_ok hX hlk (by omega) hx (all_ok_of_any o1 hx) q) ?_
        have hmn := hFr.n
        have hmk := hFr2.n
        simp only [ifV_bool]
        refine ifB_intro (fun hs => ?_) (fun hs => ?_)
        · rw [buildSlice_int1, on2_some]
          have he5 : Ext mk (mk.push (.cells [.int .i64 (i : Int)] 3 none)) := Ext.refl.push
          obtain ⟨v', m6, b6, hc6, hOw6, hFr6, hb6⟩ := insert_sel hX (m := mk.push (.cells [.int .i64 (i : Int)] 3 none)) (p := rulesB l q) (n := i) (hOw2.keepE he5)
            (y := .slice (some ⟨mk.n, 0, none⟩) 1 1) (.inr ⟨mk.n, 0, 1, [.int .i64 (i : Int)], none, rfl, M.get_push_new, by simp [Rep.sz], fun j z hj => by
              cases j with
              | zero => simp at hj; subst hj; rfl
              | succ j => simp at hj⟩) (by rw [M.push_n]; omega) (by omega) hs
          refine onC_of hc6 ?_
          simp only [bin_add, onS_some]
          refine ⟨i + 1, by omega, v', ?_, by omega, hOw6, (hFr2.trans (he5.fr (by omega))).trans hFr6, by omega⟩
          rw [wrap64 (by omega) (by omega)]; rfl
        · simp only [bin_add, onS_some]
          refine ⟨i + 1, by omega, w, ?_, by omega, ?_, hFr2, by omega⟩
          · rw [wrap64 (by omega) (by omega)]; rfl
          · rw [sel_succ, if_neg (by rw [hs]; exact Bool.false_ne_true), List.append_nil]
            exact hOw2
      · have hge : i = l.clauses.length := by
          have : ¬ ((i : Int) < (l.clauses.length : Int)) := by simpa using hge
          omega
        subst hge
        have hEx : Ext m mk := he2.trans (hemm.trans hemk)
        by_cases hflat : flat2 (mkres [v, w, .int .i64 0]) = true
        · refine .inl ⟨hflat, by omega, v, w, rfl, by trivial, ?_, ?_, .refl⟩
          · rcases hOw with ⟨rfl, h0⟩ | ⟨b, cs, rfl, _⟩
            · show Sl m (sel p1 l.facts.length) _
              rw [h0]; exact .nil
            · simp [mkres, flat2, flat1, flat0] at hflat
          · rcases hOw2 with ⟨rfl, h0⟩ | ⟨b, cs, rfl, _⟩
            · show Sl m (sel (rulesB l q) l.clauses.length) _
              rw [h0]; exact .nil
            · simp [mkres, flat2, flat1, flat0] at hflat
        · refine .inr ⟨.inl (by simpa using hflat), v, w, rfl, by omega, ?_, hOw2.sl, hEx⟩
          exact hOw.sl.keepE hemk
end Go.Proofs.YtbpmlholiohkpaaGreatDoor
