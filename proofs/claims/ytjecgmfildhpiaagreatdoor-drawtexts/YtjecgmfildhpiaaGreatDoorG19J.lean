/- A call whose first statements are run, and whose last ones are shown by the program logic. Contracts: lists and drawings that are the same; what a cell shows. Contracts: drawings that integers determine; what a cell shows. Contracts: draw.Changed on valid drawings of one size. The plain law of DrawChanges: what 'changedL' lists. DrawChanges: the first half of the walk: the three drawings. DrawChanges: the walk. -/
import Derived.Test.YtjecgmfildhpiaaGreatDoorG10J
import Derived.Test.YtjecgmfildhpiaaGreatDoorG5J
import Derived.Test.YtjecgmfildhpiaaGreatDoorG8J
/- A call whose first statements are run, and whose last ones are shown by the program logic. -/
namespace Go.D
open Go
section
variable {E : Env} {X : CallFn}
theorem Cl.mixed {f : Nat} {fn : Func} {c d : Code} {pre : List Code} {k : Nat} {args : List Value} {m : M} {fr : Fr} {K : KT} {R : List Value → M → Nat → Prop} (hX : Xno X f) (hf : E.fn.get f = some fn) (hb : fn.body = some c) (hl : Nat.ble args.length fn.ntmps = true)
    (hc : D.flat c = pre ++ D.flat d) (hp : ∀ n, execs (exec? E (call? E X (n + k)) (n + k)) pre ⟨enter args 0, m.wl m.n⟩ = some (.normal, fr)) (hK : Kn K fr.T) (hlo : fr.m.low ≤ fr.m.n) (hmn : m.n ≤ fr.m.n)
    (h : vcJ E (plainW E X) d (resTs fn.results.toList) ⟨K, fr.m, fr.m.low⟩ (post E fn.results.toList R)) :
    ∃ vs m' lo, R vs m' lo ∧ m.n ≤ m'.n ∧ ∃ n0, ∀ n, n0 ≤ n → ∀ l, l ≤ m.n →
      call? E X n (.func f) args (m.wl l) = some (bif flat2 (mkres vs) && Nat.ble m.n lo then (mkres vs, m.wl l) else (mkres vs, m'.wl (min l lo))) := by
  obtain ⟨e, s', T', hpost, hk', hn, hlo', n0, hr⟩ := vcJ_sound _ _ _ _ h fr.T hK hlo
  have hend : (∀ id, e ≠ .exit id) ∧ resK E s'.K s'.m fn.results.toList fun vs => R vs s'.m s'.lo := by
    cases e with
    | exit id => exact hpost.elim
    | normal => exact ⟨fun _ h => (by cases h), hpost⟩
    | ret => exact ⟨fun _ h => (by cases h), hpost⟩
  obtain ⟨hne, hres⟩ := hend
  obtain ⟨vs, hR, hres⟩ := resK_sound hk' hres
  refine ⟨vs, s'.m, s'.lo, hR, Nat.le_trans hmn hn, n0 + k + 1, fun n hn' l hl' => ?_⟩
  obtain ⟨j, rfl, hj⟩ : ∃ j, n = j + k + 1 ∧ n0 ≤ j := ⟨n - k - 1, by omega, by omega⟩
  have e1' : exec? E (call? E X (j + k)) (j + k) c { T := enter args 0, m := { m.wl l with low := (m.wl l).n } } = some (e, ⟨T', s'.m.wl s'.lo⟩) := by
    rw [exec_flat, hc, execs_app]
    have h1 : execs (exec? E (call? E X (j + k)) (j + k)) pre { T := enter args 0, m := { m.wl l with low := (m.wl l).n } } = some (.normal, fr) := hp j
    rw [h1]
    dsimp only
    rw [← exec_flat]
    exact hr (j + k) (by omega)
  have hr2 := result?_of (fn := fn) (hres s'.lo)
  have hX' : X (.func f) args (m.wl l) = none := hX _ _
  have fin : (bif flat2 (mkres vs) && Nat.ble (m.wl l).n (s'.m.wl s'.lo).low then some (mkres vs, m.wl l) else some (mkres vs, { s'.m.wl s'.lo with low := min (m.wl l).low (s'.m.wl s'.lo).low })) =
      some (bif flat2 (mkres vs) && Nat.ble m.n s'.lo then (mkres vs, m.wl l) else (mkres vs, s'.m.wl (min l s'.lo))) := by
    cases hc : (flat2 (mkres vs) && Nat.ble m.n s'.lo) with
    | true =>
      have : (flat2 (mkres vs) && Nat.ble (m.wl l).n (s'.m.wl s'.lo).low) = true := hc
      rw [this]; rfl
    | false =>
      have : (flat2 (mkres vs) && Nat.ble (m.wl l).n (s'.m.wl s'.lo).low) = false := hc
      rw [this]; rfl
  cases e with
  | exit id => exact (hne id rfl).elim
  | normal =>
    simp only [call?, hX', hf, hb, hl, cond_true, e1', hr2]
    exact fin
  | ret =>
    simp only [call?, hX', hf, hb, hl, cond_true, e1', hr2]
    exact fin
end
end Go.D

/- Contracts: lists and drawings that are the same; what a cell shows. -/
namespace Go.Proofs.YtjecgmfildhpiaaGreatDoor
open Go Go.D
variable {X : CallFn} {m : M}

theorem _root_.Go.D.Sl.at_int {l : List Int} {v : Value} (h : Sl m l v) {i : Nat} {n : Int} (hi : l[i]? = some n) {k : IntKind} : ∃ a, indexAddr? Tab.env 25 v (.int k i) = some a ∧ load? Tab.env m 3 a = some (.int .i64 n) := by
  obtain ⟨a, cs, h1, h2, h3⟩ := h.index slt_int (k := k) hi
  rw [show cs = [.int .i64 n] from h3] at h2
  exact ⟨a, h1, h2⟩
theorem _root_.Go.D.SlR.at_int {l : List Int} {v : Value} (h : SlR m l v) {i : Nat} {n : Int} (hi : l[i]? = some n) {k : IntKind} : ∃ a, indexAddr? Tab.env 25 v (.int k i) = some a ∧ load? Tab.env m 3 a = some (.int .i64 n) := by
  obtain ⟨a, cs, h1, h2, h3⟩ := h.index slt_int (k := k) hi
  rw [show cs = [.int .i64 n] from h3] at h2
  exact ⟨a, h1, h2⟩
theorem list_eq_of {α : Type} {l l' : List α} (hl : l.length = l'.length) (h : ∀ j x y, j < l.length → l[j]? = some x → l'[j]? = some y → x = y) : l = l' := by
  refine List.ext_getElem? fun i => ?_
  by_cases hi : i < l.length
  · have h1 : l[i]? = some l[i] := List.getElem?_eq_getElem hi
    have h2 : l'[i]? = some (l'[i]'(by omega)) := List.getElem?_eq_getElem _
    rw [h1, h2, h i _ _ hi h1 h2]
  · rw [List.getElem?_eq_none (by omega), List.getElem?_eq_none (by omega)]
theorem ints_ok (hX : NoX X) {l l' : List Int} {v v' : Value} (hl : Sl m l v) (hl' : Sl m l' v') (hb : l.length < 4611686018427387904) : C X (.func 53) [v, v'] m m.n (.bool (decide (l = l'))) m := by
  refine Cl.flat (hX.no _ rfl) fn_53 rfl rfl ?_
  rw [F53]; dsimp only [plainW]
  rw [hl.len slt_int, on2_some, hl'.len slt_int, on2_some]
  simp only [bin_neq, onS_some, ifV_bool]
  refine ifB_intro (fun h => ⟨?_, Nat.le_refl _⟩) (fun h => ?_)
  · have : l ≠ l' := fun e => by subst e; simp at h
    simp [mkres, this]
  · have hlen : l.length = l'.length := by
      have : (l.length : Int) = (l'.length : Int) := by simpa using h
      omega
    refine Lp.intro (γ := Nat) (fun i => l.length - i) (fun i vs m1 lo => vs = [.bool false, .int .i64 i] ∧ i ≤ l.length ∧ m = m1 ∧ m.n ≤ lo ∧ ∀ j x y, j < i → l[j]? = some x → l'[j]? = some y → x = y) 0 ⟨rfl, Nat.zero_le _, rfl, Nat.le_refl _, fun j x y hj => by omega⟩ ?_
    rintro i vs m1 lo ⟨rfl, hi, rfl, hlo, hall⟩
    simp only [un_cons]
    rw [hl.len slt_int, on2_some]
    simp only [bin_lss, onS_some, ifV_bool]
    refine ifB_intro (fun hlt => ?_) (fun hge => ?_)
    · have hlt : i < l.length := by simpa using hlt
      obtain ⟨x, hx⟩ : ∃ x, l[i]? = some x := ⟨_, List.getElem?_eq_getElem hlt⟩
      obtain ⟨y, hy⟩ : ∃ y, l'[i]? = some y := ⟨_, List.getElem?_eq_getElem (by omega)⟩
      obtain ⟨a, e1, e2⟩ := hl.at_int (k := .i64) hx
      obtain ⟨b, e3, e4⟩ := hl'.at_int (k := .i64) hy
      rw [e1, onS_some, e2, onS_some, e3, onS_some, e4, onS_some]
      simp only [bin_neq, onS_some, ifV_bool]
      refine ifB_intro (fun hne => ⟨?_, hlo⟩) (fun he => ?_)
      · have : l ≠ l' := fun e => by subst e; rw [hx] at hy; cases hy; simp at hne
        simp [mkres, this]
      · simp only [bin_add, onS_some]
        rw [wrap64 (by omega) (by omega)]
        refine ⟨i + 1, by omega, by simp, by omega, by first | rfl | trivial, hlo, fun j x' y' hj hx' hy' => ?_⟩
        by_cases hji : j < i
        · exact hall j x' y' hji hx' hy'
        · have : j = i := by omega
          subst this
          rw [hx] at hx'; rw [hy] at hy'
          cases hx'; cases hy'
          simpa using he
    · have hi' : i = l.length := by
        have : ¬ (i : Int) < (l.length : Int) := by simpa using hge
        omega
      have : l = l' := list_eq_of hlen fun j x y hj => hall j x y (by omega)
      exact ⟨by simp [mkres, this], hlo⟩
theorem neq_pl {p q : Pl} : bin? Tab.env .neq 64 p.v q.v = some (.bool (!(decide (p = q)))) := by
  have e : bin? Tab.env .neq 64 p.v q.v = (eq? Tab.env 64 p.v q.v).map (fun b => .bool (!b)) := by kernel_rfl
  rw [e, eq_pl]; rfl
theorem samePl_ok (hX : NoX X) {l l' : List Pl} {v v' : Value} (hl : Sl m l v) (hl' : Sl m l' v') (hb : l.length < 4611686018427387904) : C X (.func 71) [v, v'] m m.n (.bool (decide (l = l'))) m := by
  refine Cl.flat (hX.no _ rfl) fn_71 rfl rfl ?_
  rw [F71]; dsimp only [plainW]
  rw [hl.len slt_pl, on2_some, hl'.len slt_pl, on2_some]
  simp only [bin_neq, onS_some, ifV_bool]
  refine ifB_intro (fun h => ⟨?_, Nat.le_refl _⟩) (fun h => ?_)
  · have : l ≠ l' := fun e => by subst e; simp at h
    simp [mkres, this]
  · have hlen : l.length = l'.length := by
      have : (l.length : Int) = (l'.length : Int) := by simpa using h
      omega
    refine Lp.intro (γ := Nat) (fun i => l.length - i) (fun i vs m1 lo => vs = [.bool false, .int .i64 i] ∧ i ≤ l.length ∧ m = m1 ∧ m.n ≤ lo ∧ ∀ j x y, j < i → l[j]? = some x → l'[j]? = some y → x = y) 0 ⟨rfl, Nat.zero_le _, rfl, Nat.le_refl _, fun j x y hj => by omega⟩ ?_
    rintro i vs m1 lo ⟨rfl, hi, rfl, hlo, hall⟩
    simp only [un_cons]
    rw [hl.len slt_pl, on2_some]
    simp only [bin_lss, onS_some, ifV_bool]
    refine ifB_intro (fun hlt => ?_) (fun hge => ?_)
    · have hlt : i < l.length := by simpa using hlt
      obtain ⟨x, hx⟩ : ∃ x, l[i]? = some x := ⟨_, List.getElem?_eq_getElem hlt⟩
      obtain ⟨y, hy⟩ : ∃ y, l'[i]? = some y := ⟨_, List.getElem?_eq_getElem (by omega)⟩
      obtain ⟨a, e1, e2⟩ := hl.at_pl (k := .i64) hx
      obtain ⟨b, e3, e4⟩ := hl'.at_pl (k := .i64) hy
      rw [e1, onS_some, e2, onS_some, e3, onS_some, e4, onS_some, neq_pl, onS_some, ifV_bool]
      refine ifB_intro (fun hne => ⟨?_, hlo⟩) (fun he => ?_)
      · have : l ≠ l' := fun e => by subst e; rw [hx] at hy; cases hy; simp at hne
        simp [mkres, this]
      · simp only [bin_add, onS_some]
        rw [wrap64 (by omega) (by omega)]
        refine ⟨i + 1, by omega, by simp, by omega, by first | rfl | trivial, hlo, fun j x' y' hj hx' hy' => ?_⟩
        by_cases hji : j < i
        · exact hall j x' y' hji hx' hy'
        · have : j = i := by omega
          subst this
          rw [hx] at hx'; rw [hy] at hy'
          cases hx'; cases hy'
          simpa using he
    · have hi' : i = l.length := by
        have : ¬ (i : Int) < (l.length : Int) := by simpa using hge
        omega
      have : l = l' := list_eq_of hlen fun j x y hj => hall j x y (by omega)
      exact ⟨by simp [mkres, this], hlo⟩
theorem samePlaces_ok (hX : NoX X) {l l' : List Pl} {v v' : Value} (hl : Sl m l v) (hl' : Sl m l' v') (hb : l.length < 4611686018427387904) : C X (.func 28) [v, v'] m m.n (.bool (decide (l = l'))) m := by
  refine Cl.flat (hX.no _ rfl) fn_28 rfl rfl ?_
  rw [F28]; dsimp only [plainW]
  exact onC_of (samePl_ok hX hl hl' hb) ⟨rfl, by omega⟩
theorem sameDr_ok (hX : NoX X) {w h w' h' : Int} {l l' : List Int} {v v' : Value} (hl : Sl m l v) (hl' : Sl m l' v') (hb : l.length < 4611686018427387904) :
    C X (.func 14) [drV w h v, drV w' h' v'] m m.n (.bool (decide (w = w') && decide (h = h') && decide (l = l'))) m := by
  refine Cl.flat (hX.no _ rfl) fn_14 rfl rfl ?_
  rw [F14]; dsimp only [plainW]
  refine onM_push fun m1 hn1 hg1 hk1 => ?_
  refine onM_push fun m2 hn2 hg2 hk2 => ?_
  have hg1' := (hk2 m.n (by omega)).trans hg1
  simp only [cells_agg] at hg1' hg2
  have hx2 : Ext m m2 := ⟨by omega, fun b hb => by rw [hk2 b (by omega), hk1 b hb]⟩
  refine jn_of (fun vs m3 lo => vs = [.bool (decide (w = w') && decide (h = h') && decide (l = l'))] ∧ m.n ≤ lo) (fun R hR => ?_) ?_
  · simp only [onS_some, on2_some, onFn_func, ifV_bool, ifB_true, ifB_false, bin_leq, bin_lss, bin_geq, bin_gtr, bin_eql, bin_neq, un_not, ptrTo, nilck_ptr, nilck_func, Nat.zero_add, Nat.reduceAdd, List.getElem?_cons_zero, List.getElem?_cons_succ, List.drop_zero, List.drop_succ_cons, List.take_succ_cons, List.take_zero, Option.map_some, cells_agg, cells_int, cells_bool, cells_slice, cells_ptr, cells_map, cells_func, fieldAddr_27_0, fieldAddr_27_1, fieldAddr_27_2, load_25, load_3, cellAt_of hg1', cellAt_of hg2]
    refine ifB_intro (fun h1 => ?_) (fun h1 => hR _ _ _ ⟨by simp [h1], Nat.le_refl _⟩)
    refine ifB_intro (fun h2 => ?_) (fun h2 => hR _ _ _ ⟨by simp [h2], Nat.le_refl _⟩)
    refine onC_of (ints_ok hX (hl.keepE hx2) (hl'.keepE hx2) hb) ?_
    exact hR _ _ _ ⟨by rw [h1, h2, Bool.true_and, Bool.true_and], by omega⟩
  · rintro _ m3 lo ⟨rfl, hlo⟩
    rw [un_cons]
    exact ⟨rfl, hlo⟩
theorem at_ok (hX : NoX X) (x y : Int) : C X (.func 34) [.int .i64 x, .int .i64 y] m m.n (Pl.v ⟨x, y⟩) m := by
  refine Cl.flat (hX.no _ rfl) fn_34 rfl rfl ?_
  rw [F34]; dsimp only [plainW]
  refine onM_push fun m1 hn1 hg1 hk1 => ?_
  rw [build_64_0_1 rfl rfl, onS_some]
  refine on2_storeV ty_64 hg1 rfl rfl rfl fun m3 hn3 hg3 hk3 => ?_
  have : m3.get m.n = .cells (Pl.c ⟨x, y⟩) 64 none := hg3
  rw [ptrTo, load_pl this, onS_some]
  exact ⟨rfl, by omega⟩
end Go.Proofs.YtjecgmfildhpiaaGreatDoor

/- Contracts: drawings that integers determine; what a cell shows. -/
namespace Go.Proofs.YtjecgmfildhpiaaGreatDoor
open Go Go.D
variable {X : CallFn} {m : M}

theorem shown_ok (hX : NoX X) {w h x y : Int} {l : List Int} {v : Value} (hl : Sl m l v) (hv : drB w h l = true) (hx : 0 ≤ x ∧ x < w) (hy : 0 ≤ y ∧ y < h) {i : Nat} {n : Int} (hi : (i : Int) = y * w + x) (hn : l[i]? = some n) :
    C X (.func 31) [drV w h v, .int .i64 x, .int .i64 y] m m.n (.int .i64 n) m := by
  refine Cl.flat (hX.no _ rfl) fn_31 rfl rfl ?_
  rw [F31]; dsimp only [plainW]
  have hb : 1 ≤ w ∧ w ≤ 40 ∧ 1 ≤ h ∧ h ≤ 40 := by
    simp only [drB, inB, Bool.and_eq_true, decide_eq_true_eq] at hv
    omega
  have hil := (List.getElem?_eq_some_iff.1 hn).1
  have hwh : -(40 * 40) ≤ y * w ∧ y * w ≤ 40 * 40 := mul_bound (by omega) (by omega) (by omega) (by omega)
  refine onM_push fun m1 hn1 hg1 hk1 => ?_
  simp only [cells_agg] at hg1
  have hx1 : Ext m m1 := ⟨by omega, fun b hb => hk1 b hb⟩
  have hl1 := hl.keepE hx1
  have d1 : decide (x < 0) = false := by simp; omega
  have d2 : decide (w ≤ x) = false := by simp; omega
  have d3 : decide (y < 0) = false := by simp; omega
  have d4 : decide (h ≤ y) = false := by simp; omega
  refine jn_of (fun vs m2 lo => vs = [.bool false] ∧ m1 = m2 ∧ m.n ≤ lo) (fun R hR => ?_) ?_
  · simp only [onS_some, on2_some, onFn_func, ifV_bool, ifB_true, ifB_false, bin_leq, bin_lss, bin_geq, bin_gtr, bin_eql, bin_neq, un_not, ptrTo, nilck_ptr, nilck_func, Nat.zero_add, Nat.reduceAdd, List.getElem?_cons_zero, List.getElem?_cons_succ, List.drop_zero, List.drop_succ_cons, List.take_succ_cons, List.take_zero, Option.map_some, cells_agg, cells_int, cells_bool, cells_slice, cells_ptr, cells_map, cells_func, fieldAddr_27_0, fieldAddr_27_1, fieldAddr_27_2, len_25, load_25, load_3, ty_25, cellAt_of hg1, d1, d2, d3, d4]
    rw [hl1.len slt_int]
    simp only [bin_mul, onS_some, on2_some]
    rw [wrap64 (by omega) (by omega)]
    simp only [bin_add, onS_some]
    rw [wrap64 (by omega) (by omega)]
    simp only [bin_geq, onS_some]
    refine hR _ _ _ ⟨?_, rfl, Nat.le_refl _⟩
    have : decide ((l.length : Int) ≤ y * w + x) = false := by simp; omega
    rw [this]
  · rintro _ _ lo ⟨rfl, rfl, hlo⟩
    rw [un_cons]
    simp only [onS_some, on2_some, onFn_func, ifV_bool, ifB_true, ifB_false, bin_leq, bin_lss, bin_geq, bin_gtr, bin_eql, bin_neq, un_not, ptrTo, nilck_ptr, nilck_func, Nat.zero_add, Nat.reduceAdd, List.getElem?_cons_zero, List.getElem?_cons_succ, List.drop_zero, List.drop_succ_cons, List.take_succ_cons, List.take_zero, Option.map_some, cells_agg, cells_int, cells_bool, cells_slice, cells_ptr, cells_map, cells_func, fieldAddr_27_0, fieldAddr_27_1, fieldAddr_27_2, len_25, load_25, load_3, ty_25, cellAt_of hg1, bin_mul]
    rw [wrap64 (by omega) (by omega)]
    simp only [bin_add, onS_some]
    rw [wrap64 (by omega) (by omega), ← hi]
    obtain ⟨a, e1, e2⟩ := hl1.at_int (k := .i64) hn
    rw [e1, onS_some, e2, onS_some]
    exact ⟨rfl, hlo⟩
/-- The number that cell i is made of. -/
def srcZ (xs : List Int) (i : Nat) : Int := match xs[i % xs.length]? with | some n => n | none => 7 * i
def madeL (xs : List Int) (n : Nat) : List Int := (List.range n).map fun i => pickZ (srcZ xs i) 101 - 1
theorem madeL_succ {xs : List Int} {n : Nat} : madeL xs (n + 1) = madeL xs n ++ [pickZ (srcZ xs n) 101 - 1] := by simp [madeL, List.range_succ]
theorem madeL_len {xs : List Int} {n : Nat} : (madeL xs n).length = n := by simp [madeL]
theorem made41_ok (hX : NoX X) {a b : Int} {xs : List Int} {v : Value} (ha : R64 a) (hb : R64 b) (hl : SlR m xs v) (hxs : ∀ n ∈ xs, R64 n) (hlen : xs.length < 9223372036854775808) :
    ∃ w h : Nat, ∃ v' m', (w : Int) = 1 + pickZ a 12 ∧ (h : Int) = 1 + pickZ b 12 ∧ C X (.func 20) [.int .i64 a, .int .i64 b, v] m m.n (drV w h v') m' ∧ Ext m m' ∧ Ow m.n m' (madeL xs (w * h)) v' := by
  have pa := pickZ_lt (c := a) (n := 12) (by omega)
  have pb := pickZ_lt (c := b) (n := 12) (by omega)
  obtain ⟨w, hw⟩ : ∃ w : Nat, (w : Int) = 1 + pickZ a 12 := ⟨(1 + pickZ a 12).toNat, by omega⟩
  obtain ⟨h, hh⟩ : ∃ h : Nat, (h : Int) = 1 + pickZ b 12 := ⟨(1 + pickZ b 12).toNat, by omega⟩
  have hw12 : 1 ≤ w ∧ w ≤ 12 := by omega
  have hh12 : 1 ≤ h ∧ h ≤ 12 := by omega
  have hwh : w * h ≤ 12 * 12 := Nat.mul_le_mul hw12.2 hh12.2
  have hwp : 0 < w * h := Nat.mul_pos (by omega) (by omega)
  have key := Cl.heap (E := Tab.env) (X := X) (f := 20) (args := [.int .i64 a, .int .i64 b, v]) (m := m) (R := fun r m' bb => bb = m.n ∧ Ext m m' ∧ ∃ v', r = drV w h v' ∧ Ow m.n m' (madeL xs (w * h)) v') (hX.no _ rfl) fn_20 rfl ?_
  · obtain ⟨r, m', bb, hc, rfl, hx, v', rfl, hr⟩ := key
    exact ⟨w, h, v', m', hw, hh, hc, hx, hr⟩
  rw [F20]; dsimp only [plainW]
  refine onM_push fun m1 hn1 hg1 hk1 => ?_
  refine onC_of (pick41_ok hX ha (by omega)) ?_
  rw [bin_add, onS_some, wrap64 (by omega) (by omega)]
  refine onC_of (pick41_ok hX hb (by omega)) ?_
  rw [bin_add, onS_some, wrap64 (by omega) (by omega), ← hw, ← hh, build_27_0_1 rfl rfl, onS_some]
  refine onM_push fun m3 hn3 hg3 hk3 => ?_
  simp only [ptrTo]
  refine on2_storeV ty_27 hg3 rfl rfl rfl fun m4 hn4 hg4 hk4 => ?_
  have hx4 : Ext m m4 := ⟨by omega, fun b hb => by rw [hk4 b (by omega), hk3 b (by omega), hk1 b hb]⟩
  have g04 : m4.get m.n = .cells [.int .i64 0, .int .i64 0, .slice none 0 0] 27 none := by rw [hk4 _ (by omega), hk3 _ (by omega), hg1]
  refine Lp.intro (γ := Nat) (fun i => w * h - i) (fun i vs m9 lo => vs = [.int .i64 i] ∧ i ≤ w * h ∧ Ext m m9 ∧ m.n + 2 ≤ m9.n ∧ m.n ≤ lo ∧ (∃ v, m9.get m1.n = .cells [.int .i64 w, .int .i64 h, v] 27 none ∧ Ow (m.n + 2) m9 (madeL xs i) v) ∧ ∃ cs, m9.get m.n = .cells cs 27 none ∧ cs.length = 3) 0
    ⟨rfl, Nat.zero_le _, hx4, by omega, by omega, ⟨_, hg4, Ow.nil⟩, _, g04, rfl⟩ ?_
  rintro i vs m9 lo9 ⟨rfl, hi, hx9, hn9, hlo9, ⟨v9, hb9, ho9⟩, cs9, hz9, hcl9⟩
  have hl9 := hl.keepE hx9
  have hmul : (w : Int) * (h : Int) = ((w * h : Nat) : Int) := by rw [Int.natCast_mul]
  simp only [un_cons, fieldAddr_27_0, fieldAddr_27_1, fieldAddr_27_2, onS_some, load_3, load_25, cellAt_of hb9, Nat.zero_add, List.getElem?_cons_zero, List.getElem?_cons_succ, bin_mul]
  rw [hmul, wrap64 (by omega) (by omega)]
  simp only [bin_lss, onS_some, ifV_bool]
  have tail : ∀ (n : Int) (P : List Value → M → Nat → Prop), n = srcZ xs i → R64 n → (∀ m11 lo, Ext m m11 → m.n + 2 ≤ m11.n → m.n ≤ lo → (∃ v, m11.get m1.n = .cells [.int .i64 w, .int .i64 h, v] 27 none ∧ Ow (m.n + 2) m11 (madeL xs (i + 1)) v) → (∃ cs, m11.get m.n = .cells cs 27 none ∧ cs.length = 3) → P [.int .i64 ((i + 1 : Nat) : Int)] m11 lo) → i < w * h →
      onC Tab.env X (.func 61) [.int .i64 n, .int .i64 101] m9 fun v35 m36 b37 => m9.n ≤ b37 ∧ onS (bin? Tab.env .sub 3 v35 (.int .i64 1)) fun v38 => on2 (buildSlice? Tab.env m36 25 1 [(0, v38)]) fun v39 m40 => on2 (builtin? Tab.env (m40.wl m40.n) .append [25, 25] [v9, v39]) fun v41 m42 =>
        on2 (store? Tab.env m42 25 (.pointer (some ⟨m1.n, 2, none⟩)) v41) fun m44 b45 => onS (bin? Tab.env .add 3 (.int .i64 i) (.int .i64 1)) fun v46 => P [v46] m44 (min (min (min lo9 b37) m42.low) b45) := by
    intro n P hsrc hr hP hlt
    have pn := pickZ_lt (c := n) (n := 101) (by omega)
    refine onC_of (pick41_ok hX hr (by omega)) ⟨Nat.le_refl _, ?_⟩
    rw [bin_sub, onS_some, wrap64 (by omega) (by omega)]
    refine ho9.add_int hn9 (by rw [madeL_len]; omega) fun v10 m10 ho10 hf10 hlow hn10 => ?_
    have hb10 : m10.get m1.n = .cells [.int .i64 w, .int .i64 h, v9] 27 none := by rw [hf10.get _ (by omega), hb9]
    have hz10 : m10.get m.n = .cells cs9 27 none := by rw [hf10.get _ (by omega), hz9]
    have hcv : cells v10 = [v10] := ho10.sl.cells
    refine on2_store ty_25 hb10 (by rw [hcv]; rfl) (by rw [hcv]; exact Nat.le_refl _) (by rw [hcv]; simp [ho10.sl.one]) fun m11 hn11 hg11 hk11 => ?_
    rw [bin_add, onS_some, wrap64 (by omega) (by omega)]
    rw [hcv] at hg11
    refine hP m11 _ ⟨by have := hx9.n; omega, fun b hb => by rw [hk11 b (by omega), hf10.get b (by omega), hx9.get b hb]⟩ (by omega) (by omega) ⟨v10, hg11, ?_⟩ ⟨cs9, by rw [hk11 _ (by omega), hz10], hcl9⟩
    rw [madeL_succ, ← hsrc]
    refine ho10.keep fun b c t g hb ht => ?_
    by_cases hbm : b = m1.n
    · subst hbm
      rw [hb10] at hb
      cases hb
      simp [Rep.ty, Rep.tys] at ht
    · rw [hk11 b hbm, hb]
  refine ifB_intro (fun hlt => ?_) (fun hge => ?_)
  · have hlt : i < w * h := Int.ofNat_lt.1 (of_decide_eq_true hlt)
    rw [wrap64 (by omega) (by omega), hl9.len slt_int]
    simp only [on2_some, bin_gtr, onS_some, ifV_bool]
    refine ifB_intro (fun hpos => ?_) (fun hno => ?_)
    · have hpos : 0 < xs.length := by simpa using hpos
      obtain ⟨n, hn⟩ : ∃ n, xs[i % xs.length]? = some n := ⟨_, List.getElem?_eq_getElem (Nat.mod_lt _ hpos)⟩
      rw [rem_nat (by omega), onS_some]
      obtain ⟨q, e1, e2⟩ := hl9.at_int (k := .i64) hn
      rw [e1, onS_some, e2, onS_some]
      refine tail n (fun vs mm lo => ∃ g', w * h - g' < w * h - i ∧ vs = [Value.int .i64 ((g' : Nat) : Int)] ∧ g' ≤ w * h ∧ Ext m mm ∧ m.n + 2 ≤ mm.n ∧ m.n ≤ lo ∧ (∃ v, mm.get m1.n = .cells [.int .i64 w, .int .i64 h, v] 27 none ∧ Ow (m.n + 2) mm (madeL xs g') v) ∧ ∃ cs, mm.get m.n = .cells cs 27 none ∧ cs.length = 3) (by unfold srcZ; rw [hn]) (hxs n (List.mem_of_getElem? hn)) (fun m11 lo hx hn hlo ho hz => ?_) hlt
      exact ⟨i + 1, by omega, rfl, by omega, hx, hn, hlo, ho, hz⟩
    · have hno : xs.length = 0 := by
        have : ¬ 0 < xs.length := by simpa using hno
        omega
      refine tail (7 * i) (fun vs mm lo => ∃ g', w * h - g' < w * h - i ∧ vs = [Value.int .i64 ((g' : Nat) : Int)] ∧ g' ≤ w * h ∧ Ext m mm ∧ m.n + 2 ≤ mm.n ∧ m.n ≤ lo ∧ (∃ v, mm.get m1.n = .cells [.int .i64 w, .int .i64 h, v] 27 none ∧ Ow (m.n + 2) mm (madeL xs g') v) ∧ ∃ cs, mm.get m.n = .cells cs 27 none ∧ cs.length = 3) (by unfold srcZ; rw [List.getElem?_eq_none (by omega)]) ⟨by omega, by omega⟩ (fun m11 lo hx hn hlo ho hz => ?_) hlt
      exact ⟨i + 1, by omega, rfl, by omega, hx, hn, hlo, ho, hz⟩
  · have hi' : i = w * h := by
      have : ¬ i < w * h := fun hh => by
        have := of_decide_eq_false hge
        exact this (Int.ofNat_lt.2 hh)
      omega
    subst hi'
    have e : load? Tab.env m9 27 (.pointer (some ⟨m1.n, 0, none⟩)) = some (drV w h v9) := by rw [load_27, loadCells_of hb9 (by simp)]; rfl
    rw [e, onS_some]
    have hone : one v9 = true := ho9.sl.one
    refine on2_storeV ty_27 hz9 rfl (by rw [hcl9]; rfl) (by show (true && (true && (one v9 && true))) = true; rw [hone]; rfl) fun m12 hn12 hg12 hk12 => ?_
    have e2 : load? Tab.env m12 27 (.pointer (some ⟨m.n, 0, none⟩)) = some (drV w h v9) := by rw [load_27, loadCells_of hg12 (by simp [cells_agg])]; rfl
    rw [e2, onS_some]
    have ho12 : Ow (m.n + 2) m12 (madeL xs (w * h)) v9 := ho9.keep fun b c t g hb ht => by
      by_cases hbm : b = m.n
      · subst hbm
        rw [hz9] at hb
        cases hb
        simp [Rep.ty, Rep.tys] at ht
      · rw [hk12 b hbm, hb]
    have hfl : flat2 (mkres [drV w h v9]) = false := by
      rcases ho12 with ⟨_, h0⟩ | ⟨b, cs, rfl, _⟩
      · have := congrArg List.length h0
        rw [madeL_len] at this
        simp at this
        omega
      · rfl
    exact ⟨.inl hfl, by omega, ⟨by have := hx9.n; omega, fun b hb => by rw [hk12 b (by omega), hx9.get b hb]⟩, v9, rfl, ho12.mono (by omega)⟩
end Go.Proofs.YtjecgmfildhpiaaGreatDoor

/- Contracts: draw.Changed on valid drawings of one size. -/
namespace Go.Proofs.YtjecgmfildhpiaaGreatDoor
open Go Go.D
variable {X : CallFn} {m : M}

theorem one_pl {p : Pl} : buildSlice? Tab.env m 45 1 [(0, p.v)] = some (.slice (some ⟨m.n, 0, none⟩) 1 1, m.push (.cells p.c 64 none)) := by kernel_rfl
theorem sl_one_pl {p : Pl} {b : Nat} {g : Option Nat} (h : m.get b = .cells p.c 64 g) : Sl m [p] (.slice (some ⟨b, 0, none⟩) 1 1) :=
  .inr ⟨b, 0, 1, _, g, rfl, h, Nat.le_refl _, fun i x hi => by
    match i with
    | 0 => cases hi; rfl
    | i + 1 => cases hi⟩
/-- One place more. -/
theorem _root_.Go.D.Ow.add_pl {n1 : Nat} {l : List Pl} {v : Value} {p : Pl} {P : Value → M → Prop} (h : Ow n1 m l v) (hn : n1 ≤ m.n) (hs : l.length < 268435456)
    (hP : ∀ v1 m1, Ow n1 m1 (l ++ [p]) v1 → Fr' n1 m m1 → n1 ≤ m1.low → m.n ≤ m1.n → P v1 m1) :
    on2 (buildSlice? Tab.env m 45 1 [(0, p.v)]) fun a m1 => on2 (builtin? Tab.env (m1.wl m1.n) .append [45, 45] [v, a]) P := by
  rw [one_pl, on2_some]
  have hx : Ext m (m.push (.cells p.c 64 none)) := Ext.refl.push
  have hpn : (m.push (.cells p.c 64 none)).n = m.n + 1 := rfl
  obtain ⟨v1, m1, e1, ho, hf, hl, _⟩ := (h.keepE hx).append apt_pl (by simp [Rep.tys]) (sl_one_pl (m := m.push (.cells p.c 64 none)) M.get_push_new) (by omega) (by simp; omega)
  rw [e1, on2_some]
  exact hP v1 m1 ho ((hx.fr hn).trans hf) hl (by have := hf.n; omega)
/-- The cells, of the first n, in which two lists differ. -/
def changedL (w : Nat) (l l' : List Int) : Nat → List Pl
  | 0 => []
  | i + 1 => changedL w l l' i ++ (if l[i]? = l'[i]? then [] else [⟨((i % w : Nat) : Int), ((i / w : Nat) : Int)⟩])
theorem changedL_len {w : Nat} {l l' : List Int} : ∀ n, (changedL w l l' n).length ≤ n
  | 0 => Nat.le_refl _
  | n + 1 => by
    have := changedL_len (w := w) (l := l) (l' := l') n
    unfold changedL
    rw [List.length_append]
    split <;> simp <;> omega
theorem quo_nat {t : TypeId} {a b : Nat} (hb : b ≠ 0) (ha : a < 1000000) : bin? Tab.env .quo t (.int .i64 a) (.int .i64 b) = some (.int .i64 ((a / b : Nat) : Int)) := by
  have hd : ((a : Int).tdiv (b : Int)) = ((a / b : Nat) : Int) := rfl
  have hle : a / b ≤ a := Nat.div_le_self _ _
  rw [bin_quo (by omega), hd]
  generalize a / b = q at hle ⊢
  rw [wrap64 (by omega) (by omega)]
theorem changed_ok (hX : NoX X) {w h : Nat} {l l' : List Int} {v v' : Value} (hl : Sl m l v) (hl' : Sl m l' v') (hv : drB w h l = true) (hv' : drB w h l' = true) :
    ∃ r m', C X (.func 22) [drV w h v, drV w h v'] m m.n (.tuple #[r, .int .i64 0]) m' ∧ Ext m m' ∧ Ow m.n m' (changedL w l l' l.length) r := by
  have hb : 1 ≤ w ∧ w ≤ 40 ∧ 1 ≤ h ∧ h ≤ 40 ∧ l.length = w * h ∧ l'.length = w * h := by
    have k1 := hv
    have k2 := hv'
    simp only [drB, inB, Bool.and_eq_true, decide_eq_true_eq] at k1 k2
    obtain ⟨⟨⟨⟨a1, a2⟩, a3, a4⟩, a5⟩, _⟩ := k1
    obtain ⟨⟨_, b5⟩, _⟩ := k2
    rw [← Int.natCast_mul] at a5 b5
    exact ⟨by omega, by omega, by omega, by omega, Int.ofNat.inj a5, Int.ofNat.inj b5⟩
  obtain ⟨w1, w2, h1, h2, hll, hll'⟩ := hb
  have hwh : w * h ≤ 40 * 40 := Nat.mul_le_mul w2 h2
  have key := Cl.gen (E := Tab.env) (X := X) (f := 22) (args := [drV w h v, drV w h v']) (m := m) (R := fun r m' bb => bb = m.n ∧ Ext m m' ∧ ∃ v', r = .tuple #[v', .int .i64 0] ∧ Ow m.n m' (changedL w l l' l.length) v') (hX.no _ rfl) fn_22 rfl ?_
  · obtain ⟨r, m', bb, hc, rfl, hx, v', rfl, hr⟩ := key
    exact ⟨v', m', hc, hx, hr⟩
  rw [F22]; dsimp only [plainW]
  refine onM_push fun m1 hn1 hg1 hk1 => ?_
  refine onM_push fun m2 hn2 hg2 hk2 => ?_
  have hg1' := (hk2 m.n (by omega)).trans hg1
  simp only [cells_agg] at hg1' hg2
  have hx2 : Ext m m2 := ⟨by omega, fun b hb => by rw [hk2 b (by omega), hk1 b hb]⟩
  have hl2 := hl.keepE hx2
  have hl2' := hl'.keepE hx2
  simp only [ptrTo]
  have e1 : load? Tab.env m2 27 (.pointer (some ⟨m.n, 0, none⟩)) = some (drV w h v) := by rw [load_27, loadCells_of hg1' (by simp)]; rfl
  have e2 : load? Tab.env m2 27 (.pointer (some ⟨m1.n, 0, none⟩)) = some (drV w h v') := by rw [load_27, loadCells_of hg2 (by simp)]; rfl
  refine jn_of (fun vs m5 lo => vs = [.bool false] ∧ m2 = m5 ∧ m.n ≤ lo ∧ lo ≤ m.n) (fun R hR => ?_) ?_
  · rw [e1, onS_some]
    refine onC_of (drValid_ok hX hl2 (by omega)) ?_
    rw [hv, un_not, onS_some, ifV_bool, Bool.not_true, ifB_false, e2, onS_some]
    refine onC_of (drValid_ok hX hl2' (by omega)) ?_
    rw [hv', un_not, onS_some, ifV_bool, Bool.not_true, ifB_false]
    simp only [fieldAddr_27_0, fieldAddr_27_1, onS_some, load_3, cellAt_of hg1', cellAt_of hg2, Nat.zero_add, List.getElem?_cons_zero, List.getElem?_cons_succ, bin_neq, ifV_bool, decide_true, Bool.not_true, ifB_false]
    exact hR _ _ _ ⟨rfl, rfl, by omega, by omega⟩
  · rintro _ _ lo ⟨rfl, rfl, hlo, hlo'⟩
    rw [un_cons, ifV_bool, ifB_false]
    simp only [fieldAddr_27_2, onS_some, load_25, cellAt_of hg1', Nat.zero_add, List.getElem?_cons_zero, List.getElem?_cons_succ]
    rw [hl2.len slt_int, on2_some]
    refine Lp.intro (γ := Nat) (fun i => l.length - i) (fun i vs m9 lo => i ≤ l.length ∧ Ext m2 m9 ∧ m.n ≤ lo ∧ ∃ vr, vs = [vr, .int .i64 i] ∧ Ow m2.n m9 (changedL w l l' i) vr) 0 ⟨Nat.zero_le _, .refl, hlo, _, rfl, Ow.nil⟩ ?_
    rintro i vs m9 lo9 ⟨hi, hx9, hlo9, vr, rfl, ho⟩
    have hn9 := hx9.n
    simp only [un_cons, bin_lss, onS_some, ifV_bool]
    refine ifB_intro (fun hlt => ?_) (fun hge => ?_)
    · have hlt : i < l.length := by simpa using hlt
      obtain ⟨x, hx⟩ : ∃ x, l[i]? = some x := ⟨_, List.getElem?_eq_getElem hlt⟩
      obtain ⟨y, hy⟩ : ∃ y, l'[i]? = some y := ⟨_, List.getElem?_eq_getElem (by omega)⟩
      obtain ⟨a, q1, q2⟩ := (hl2.keepE hx9).at_int (k := .i64) hx
      obtain ⟨b, q3, q4⟩ := (hl2'.keepE hx9).at_int (k := .i64) hy
      have gA := hx9.cells hg1'
      have gB := hx9.cells hg2
      rw [q1, onS_some, q2, onS_some]
      simp only [cellAt_of gB, cellAt_of gA, List.getElem?_cons_zero, List.getElem?_cons_succ, onS_some]
      rw [q3, onS_some, q4, onS_some]
      simp only [bin_neq, onS_some, ifV_bool]
      refine ifB_intro (fun hne => ?_) (fun he => ?_)
      · have hne : ¬ x = y := by simpa using hne
        simp only [fieldAddr_27_0, onS_some, load_3, cellAt_of gA, Nat.zero_add, List.getElem?_cons_zero]
        rw [rem_nat (by omega), onS_some, quo_nat (by omega) (by omega), onS_some, build_64_0_1 rfl rfl, onS_some]
        refine ho.add_pl (p := ⟨((i % w : Nat) : Int), ((i / w : Nat) : Int)⟩) hn9 (by have := changedL_len (w := w) (l := l) (l' := l') i; omega) fun v10 m10 ho10 hf10 hlow hn10 => ?_
        rw [bin_add, onS_some, wrap64 (by omega) (by omega)]
        refine ⟨i + 1, by omega, by omega, ⟨by omega, fun b hb => by rw [hf10.get b hb, hx9.get b hb]⟩, by omega, v10, rfl, ?_⟩
        unfold changedL
        rw [hx, hy, if_neg (by simpa using hne)]
        exact ho10
      · have he : x = y := by simpa using he
        rw [bin_add, onS_some, wrap64 (by omega) (by omega)]
        refine ⟨i + 1, by omega, by omega, hx9, hlo9, vr, rfl, ?_⟩
        unfold changedL
        rw [hx, hy, he, if_pos rfl, List.append_nil]
        exact ho
    · have hi' : i = l.length := by
        have : ¬ (i : Int) < (l.length : Int) := by simpa using hge
        omega
      subst hi'
      have hx29 := hx2.trans hx9
      cases hfl : flat2 (mkres [vr, .int .i64 0]) with
      | false => exact .inr ⟨.inl rfl, by omega, hx29, vr, rfl, ho.mono (by omega)⟩
      | true =>
        refine .inl ⟨rfl, hlo9, by first | rfl | trivial, .refl, vr, rfl, ?_⟩
        rcases ho with h | ⟨b, cs, rfl, _⟩
        · exact .inl h
        · cases hfl
end Go.Proofs.YtjecgmfildhpiaaGreatDoor

/- The plain law of DrawChanges: what 'changedL' lists. -/
namespace Go.Proofs.YtjecgmfildhpiaaGreatDoor
open Go Go.D

def cellP (w i : Nat) : Pl := ⟨((i % w : Nat) : Int), ((i / w : Nat) : Int)⟩
theorem changedL_comm {w : Nat} {l l' : List Int} : ∀ n, changedL w l l' n = changedL w l' l n
  | 0 => rfl
  | n + 1 => by
    unfold changedL
    rw [changedL_comm n]
    by_cases h : l[n]? = l'[n]?
    · rw [if_pos h, if_pos h.symm]
    · rw [if_neg h, if_neg fun e => h e.symm]
theorem changedL_nil {w : Nat} {l l' : List Int} : ∀ n, changedL w l l' n = [] ↔ ∀ i, i < n → l[i]? = l'[i]?
  | 0 => ⟨fun _ i hi => by omega, fun _ => rfl⟩
  | n + 1 => by
    unfold changedL
    rw [List.append_eq_nil_iff, changedL_nil n]
    by_cases h : l[n]? = l'[n]?
    · rw [if_pos h]
      constructor
      · rintro ⟨h1, _⟩ i hi
        by_cases e : i < n
        · exact h1 i e
        · have : i = n := by omega
          rw [this, h]
      · exact fun h1 => ⟨fun i hi => h1 i (by omega), rfl⟩
    · rw [if_neg h]
      constructor
      · rintro ⟨_, h2⟩; cases h2
      · exact fun h1 => absurd (h1 n (by omega)) h
theorem changedL_same {w : Nat} {l l' : List Int} (hl : l.length = l'.length) : decide (changedL w l l' l.length = []) = decide (l = l') := by
  have : changedL w l l' l.length = [] ↔ l = l' := by
    rw [changedL_nil]
    constructor
    · intro h
      refine List.ext_getElem? fun i => ?_
      by_cases hi : i < l.length
      · exact h i hi
      · rw [List.getElem?_eq_none (by omega), List.getElem?_eq_none (by omega)]
    · rintro rfl i _; rfl
  by_cases h : l = l'
  · simp only [h, decide_true, decide_eq_true_eq]
    rw [← h] at this ⊢
    exact this.2 rfl
  · have h2 : ¬ changedL w l l' l.length = [] := fun e => h (this.1 e)
    simp only [h, h2, decide_false]
theorem cellP_inj {w i j : Nat} (h : cellP w i = cellP w j) : i = j := by
  unfold cellP at h
  injection h with h1 h2
  have e1 : i % w = j % w := by exact_mod_cast h1
  have e2 : i / w = j / w := by exact_mod_cast h2
  rw [← Nat.div_add_mod i w, ← Nat.div_add_mod j w, e1, e2]
/-- How often a place is listed. -/
def cnt (l : List Pl) (p : Pl) : Nat := (l.filter fun q => decide (q = p)).length
theorem cnt_one {q p : Pl} : ([q].filter fun x => decide (x = p)).length = if q = p then 1 else 0 := by by_cases h : q = p <;> simp [h]
theorem cnt_changed {w : Nat} {l l' : List Int} {k : Nat} : ∀ n, cnt (changedL w l l' n) (cellP w k) = if k < n ∧ l[k]? ≠ l'[k]? then 1 else 0
  | 0 => by simp [cnt, changedL]
  | n + 1 => by
    have ih := cnt_changed (w := w) (l := l) (l' := l') (k := k) n
    unfold cnt at ih ⊢
    unfold changedL
    rw [List.filter_append, List.length_append, ih]
    by_cases h : l[n]? = l'[n]?
    · rw [if_pos h, List.filter_nil, List.length_nil, Nat.add_zero]
      by_cases hk : k = n
      · subst hk; simp [h]
      · by_cases h1 : k < n
        · have : k < n + 1 := by omega
          simp [h1, this]
        · have : ¬ k < n + 1 := by omega
          simp [h1, this]
    · rw [if_neg h]
      by_cases hk : k = n
      · subst hk
        rw [cnt_one, if_pos (show (⟨((k % w : Nat) : Int), ((k / w : Nat) : Int)⟩ : Pl) = cellP w k from rfl)]
        simp [h]
      · have hne : ¬ cellP w n = cellP w k := fun e => hk (cellP_inj e).symm
        rw [cnt_one, if_neg (show ¬ (⟨((n % w : Nat) : Int), ((n / w : Nat) : Int)⟩ : Pl) = cellP w k from hne), Nat.add_zero]
        by_cases h1 : k < n
        · have : k < n + 1 := by omega
          simp [h1, this]
        · have : ¬ k < n + 1 := by omega
          simp [h1, this]
theorem changedL_set {w : Nat} {l : List Int} {k : Nat} {x y : Int} (hk : l[k]? = some y) : ∀ n, changedL w l (l.set k x) n = if k < n ∧ y ≠ x then [cellP w k] else []
  | 0 => by simp [changedL]
  | n + 1 => by
    unfold changedL
    rw [changedL_set hk n, List.getElem?_set]
    have hkl := (List.getElem?_eq_some_iff.1 hk).1
    by_cases hkn : k = n
    · subst hkn
      rw [if_pos rfl, if_pos hkl, hk]
      by_cases hxy : y = x
      · simp [hxy]
      · simp [hxy, cellP]
    · rw [if_neg hkn, if_pos rfl, List.append_nil]
      by_cases h1 : k < n
      · have : k < n + 1 := by omega
        simp [h1, this]
      · have : ¬ k < n + 1 := by omega
        simp [h1, this]
end Go.Proofs.YtjecgmfildhpiaaGreatDoor

/- DrawChanges: the first half of the walk: the three drawings. -/
namespace Go.Proofs.YtjecgmfildhpiaaGreatDoor
open Go Go.D
variable {X : CallFn} {m : M}

theorem idx_two {b o : Nat} {k : IntKind} : indexAddr? Tab.env 24 (.pointer (some ⟨b, o, none⟩)) (.int k 0) = some (.pointer (some ⟨b, o, none⟩)) ∧ indexAddr? Tab.env 24 (.pointer (some ⟨b, o, none⟩)) (.int k 1) = some (.pointer (some ⟨b, o + 1, none⟩)) := by
  constructor <;> kernel_rfl
theorem idx_int {b n c i : Nat} {k : IntKind} (hi : i < n) : indexAddr? Tab.env 25 (.slice (some ⟨b, 0, none⟩) n c) (.int k i) = some (.pointer (some ⟨b, i, none⟩)) := by
  have hc : 0 ≤ (i : Int) ∧ (i : Int) < (n : Int) ∧ 0 < Tab.t25.es := ⟨by omega, by omega, by decide⟩
  have hd : Tab.t25.d = .slice 3 := rfl
  simp only [indexAddr?, ty_25, hd]
  rw [if_pos hc, addr_add rfl, Nat.zero_add]
  show some (Value.pointer (some ⟨b, i * 1, none⟩)) = _
  rw [Nat.mul_one]
theorem sl_ints {l : List Int} {b c : Nat} {g : Option Nat} (h : m.get b = .cells (l.map (.int .i64)) 3 g) : Sl m l (.slice (some ⟨b, 0, none⟩) l.length c) :=
  .inr ⟨b, 0, c, _, g, rfl, h, by rw [List.length_map]; show 0 + l.length * 1 ≤ _; omega, fun i x hi => by
    show ((l.map (Value.int .i64)).drop (0 + i * 1)).take 1 = [.int .i64 x]
    have hil := (List.getElem?_eq_some_iff.1 hi).1
    rw [Nat.zero_add, Nat.mul_one, List.drop_eq_getElem_cons (by rw [List.length_map]; exact hil), List.take_succ_cons, List.take_zero, List.getElem_map]
    have : l[i] = x := (List.getElem?_eq_some_iff.1 hi).2
    rw [this]⟩
theorem ow_ints {l : List Int} {n1 : Nat} {v : Value} (h : Ow n1 m l v) (hl : 0 < l.length) : ∃ b, v = .slice (some ⟨b, 0, none⟩) l.length l.length ∧ n1 ≤ b ∧ m.get b = .cells (l.map (.int .i64)) 3 (some 1) := by
  rcases h with ⟨_, rfl⟩ | ⟨b, cs, rfl, _, hb, hg, hcl, hch⟩
  · simp at hl
  · have : cs = l.map (.int .i64) := by
      have hcl : cs.length = l.length * 1 := hcl
      refine List.ext_getElem? fun i => ?_
      by_cases hi : i < l.length
      · have hx : l[i]? = some l[i] := List.getElem?_eq_getElem hi
        have := hch i _ hx
        have this : chunk cs 1 i = [.int .i64 l[i]] := this
        unfold chunk at this
        have h0 := congrArg (·[0]?) this
        simp only [List.getElem?_take_of_lt (show 0 < 1 by decide), List.getElem?_drop, Nat.mul_one, Nat.add_zero] at h0
        rw [h0, List.getElem?_map, hx]; rfl
      · rw [List.getElem?_eq_none (by omega), List.getElem?_eq_none (by rw [List.length_map]; omega)]
    subst this
    exact ⟨b, rfl, hb, hg⟩
theorem madeL_valid {xs : List Int} {w h : Nat} (hw : 1 ≤ w ∧ w ≤ 12) (hh : 1 ≤ h ∧ h ≤ 12) : drB w h (madeL xs (w * h)) = true := by
  simp only [drB, inB, Bool.and_eq_true, decide_eq_true_eq, Bool.not_eq_true', List.any_eq_false, madeL_len]
  refine ⟨⟨⟨⟨by omega, by omega⟩, by omega, by omega⟩, by rw [Int.natCast_mul]⟩, fun n hn => ?_⟩
  unfold madeL at hn
  obtain ⟨i, _, rfl⟩ := List.mem_map.1 hn
  have := pickZ_lt (c := srcZ xs i) (n := 101) (by omega)
  simp
  omega
theorem set_valid {w h : Nat} {l : List Int} {k : Nat} {x : Int} (hv : drB w h l = true) (hx : -1 ≤ x ∧ x ≤ 99) : drB w h (l.set k x) = true := by
  simp only [drB, inB, Bool.and_eq_true, decide_eq_true_eq, Bool.not_eq_true', List.any_eq_false, List.length_set] at hv ⊢
  refine ⟨hv.1, fun n hn => ?_⟩
  rcases List.mem_or_eq_of_mem_set hn with h1 | rfl
  · exact hv.2 n h1
  · simp; omega
end Go.Proofs.YtjecgmfildhpiaaGreatDoor

/- DrawChanges: the walk. -/
namespace Go.Proofs.YtjecgmfildhpiaaGreatDoor
open Go Go.D
variable {X : CallFn} {m : M}

theorem drawChanges_ok (hX : NoX X) (hS : ∀ m1 : M, 2 < m1.n → C X (.func 9) [] m1 m1.n (.bool true) m1) (hm : 2 < m.n) {s0 s1 cx cy n : Int} {ys zs : List Int} {v1 v2 : Value}
    (r0 : R64 s0) (r1 : R64 s1) (rx : R64 cx) (ry : R64 cy) (rn : R64 n) (hy : SlR m ys v1) (hz : SlR m zs v2) (hys : ∀ k ∈ ys, R64 k) (hzs : ∀ k ∈ zs, R64 k) (ly : ys.length < 9223372036854775808) (lz : zs.length < 9223372036854775808) :
    C X (.func 7) [.agg #[.int .i64 s0, .int .i64 s1], v1, v2, .int .i64 cx, .int .i64 cy, .int .i64 n] m m.n (.bool true) m := by
  refine Cl.flat (hX.no _ rfl) fn_7 rfl rfl ?_
  rw [F7]; dsimp only [plainW]
  refine onM_push fun m1 hn1 hg1 hk1 => ?_
  simp only [cells_agg] at hg1
  have hx1 : Ext m m1 := ⟨by omega, fun b hb => hk1 b hb⟩
  refine onC_of (hS m1 (by omega)) ?_
  rw [un_not, onS_some, ifV_bool, Bool.not_true, ifB_false]
  simp only [ptrTo]
  have ix : ∀ mm : M, mm.get m.n = .cells [.int .i64 s0, .int .i64 s1] 24 none → load? Tab.env mm 3 (.pointer (some ⟨m.n, 0, none⟩)) = some (.int .i64 s0) ∧ load? Tab.env mm 3 (.pointer (some ⟨m.n, 0 + 1, none⟩)) = some (.int .i64 s1) := fun mm h => by
    constructor <;> rw [load_3, cellAt_of h] <;> rfl
  have hg1 : m1.get m.n = .cells [.int .i64 s0, .int .i64 s1] 24 none := hg1
  rw [idx_two.1, onS_some, (ix m1 hg1).1, onS_some, idx_two.2, onS_some, (ix m1 hg1).2, onS_some]
  obtain ⟨w, h, va, m11, hw, hh, hcA, hx11, hoA⟩ := made41_ok (m := m1) hX r0 r1 (hy.keepE hx1) hys ly
  refine onC_of hcA ?_
  have pw := pickZ_lt (c := s0) (n := 12) (by omega)
  have ph := pickZ_lt (c := s1) (n := 12) (by omega)
  have hw12 : 1 ≤ w ∧ w ≤ 12 := by omega
  have hh12 : 1 ≤ h ∧ h ≤ 12 := by omega
  have hwp : 0 < w * h := Nat.mul_pos (by omega) (by omega)
  have hwh : w * h ≤ 12 * 12 := Nat.mul_le_mul hw12.2 hh12.2
  refine onM_push fun m13 hn13 hg13 hk13 => ?_
  refine on2_storeV ty_27 hg13 rfl rfl (by show (true && (true && (one va && true))) = true; rw [hoA.sl.one]; rfl) fun m14 hn14 hg14 hk14 => ?_
  have hx1114 : Ext m11 m14 := ⟨by omega, fun b hb => by rw [hk14 b (by omega), hk13 b hb]⟩
  have hx114 := hx11.trans hx1114
  have g14 := hx114.cells hg1
  rw [onS_some, (ix m14 g14).1, onS_some, onS_some, (ix m14 g14).2, onS_some]
  obtain ⟨w2, h2, vb, m21, hw2, hh2, hcB, hx21, hoB⟩ := made41_ok (m := m14) hX r0 r1 ((hz.keepE hx1).keepE hx114) hzs lz
  obtain rfl : w = w2 := by omega
  obtain rfl : h = h2 := by omega
  refine onC_of hcB ?_
  refine onM_push fun m23 hn23 hg23 hk23 => ?_
  refine on2_storeV ty_27 hg23 rfl rfl (by show (true && (true && (one vb && true))) = true; rw [hoB.sl.one]; rfl) fun m24 hn24 hg24 hk24 => ?_
  have hx2124 : Ext m21 m24 := ⟨by omega, fun b hb => by rw [hk24 b (by omega), hk23 b hb]⟩
  have hx1424 := hx21.trans hx2124
  have g24 := hx1424.cells g14
  rw [onS_some, (ix m24 g24).1, onS_some, onS_some, (ix m24 g24).2, onS_some]
  obtain ⟨w2, h2, vc, m31, hw2, hh2, hcC, hx31, hoC⟩ := made41_ok (m := m24) hX r0 r1 ((hy.keepE hx1).keepE (hx114.trans hx1424)) hys ly
  obtain rfl : w = w2 := by omega
  obtain rfl : h = h2 := by omega
  refine onC_of hcC ?_
  refine onM_push fun m33 hn33 hg33 hk33 => ?_
  refine on2_storeV ty_27 hg33 rfl rfl (by show (true && (true && (one vc && true))) = true; rw [hoC.sl.one]; rfl) fun m34 hn34 hg34 hk34 => ?_
  have hx3134 : Ext m31 m34 := ⟨by omega, fun b hb => by rw [hk34 b (by omega), hk33 b hb]⟩
  have hx2434 := hx31.trans hx3134
  have gA : m34.get m11.n = .cells [.int .i64 w, .int .i64 h, va] 27 none := by
    rw [(hx1424.trans hx2434).get _ (by omega), hg14]; rfl
  have gB : m34.get m21.n = .cells [.int .i64 w, .int .i64 h, vb] 27 none := by
    rw [hx2434.get _ (by omega), hg24]; rfl
  have gC : m34.get m31.n = .cells [.int .i64 w, .int .i64 h, vc] 27 none := hg34
  have px := pickZ_lt (c := cx) (n := w) (by omega)
  have py := pickZ_lt (c := cy) (n := h) (by omega)
  have pn := pickZ_lt (c := n) (n := 101) (by omega)
  simp only [fieldAddr_27_0, fieldAddr_27_1, fieldAddr_27_2, onS_some, load_3, load_25, cellAt_of gA, cellAt_of gC, Nat.zero_add, List.getElem?_cons_zero, List.getElem?_cons_succ]
  refine onC_of (pickLaw_ok hX rx (by omega)) ?_
  simp only [cellAt_of gA, List.getElem?_cons_zero, List.getElem?_cons_succ, onS_some]
  refine onC_of (pickLaw_ok hX ry (by omega)) ?_
  simp only [cellAt_of gA, cellAt_of gC, List.getElem?_cons_zero, List.getElem?_cons_succ, onS_some]
  generalize hX0 : pickZ cx w = qx at *
  generalize hY0 : pickZ cy h = qy at *
  generalize hN0 : pickZ n 101 = qn at *
  obtain ⟨kx, rfl⟩ : ∃ k : Nat, qx = (k : Int) := ⟨qx.toNat, by omega⟩
  obtain ⟨ky, rfl⟩ : ∃ k : Nat, qy = (k : Int) := ⟨qy.toNat, by omega⟩
  have hk1 : kx < w := by omega
  have hk2 : ky < h := by omega
  have hkw : ky * w + kx < w * h := by
    have h1 : (ky + 1) * w ≤ h * w := Nat.mul_le_mul_right _ hk2
    rw [Nat.add_mul, Nat.one_mul, Nat.mul_comm h w] at h1
    omega
  have hcast : ((ky : Int) * (w : Int)) = ((ky * w : Nat) : Int) := by rw [Int.natCast_mul]
  rw [bin_mul, onS_some, hcast, wrap64 (by omega) (by omega), bin_add, onS_some, wrap64 (by omega) (by omega)]
  rw [show ((ky * w : Nat) : Int) + (kx : Int) = ((ky * w + kx : Nat) : Int) by omega]
  refine onC_of (pickLaw_ok hX rn (by omega)) ⟨Nat.le_refl _, ?_⟩
  rw [hN0, bin_sub, onS_some, wrap64 (by omega) (by omega)]
  obtain ⟨bc, rfl, hbc, hgc⟩ := ow_ints (hoC.keepE hx3134) (by rw [madeL_len]; exact hwp)
  rw [idx_int (by rw [madeL_len]; exact hkw), onS_some]
  generalize hk0 : ky * w + kx = k at *
  refine on2_store ty_3 hgc rfl (by rw [List.length_map, madeL_len]; exact hkw) rfl fun m57 hn57 hg57 hk57 => ?_
  -- the three drawings from here on
  have hgc57 : m57.get bc = .cells (((madeL ys (w * h)).set k (qn - 1)).map (.int .i64)) 3 (some 1) := by
    rw [hg57, List.map_set, ← set_split (by rw [List.length_map, madeL_len]; exact hkw)]; rfl
  have old24 : ∀ b, b < m24.n → m57.get b = m24.get b := fun b hb => by rw [hk57 b (by omega), hx2434.get b hb]
  have hSA : Sl m57 (madeL ys (w * h)) va := (hoA.sl.keepE (hx1114.trans hx1424)).keep fun b c t g hb _ => by rw [old24 b (M.lt_of_get hb), hb]
  have hSB : Sl m57 (madeL zs (w * h)) vb := (hoB.sl.keepE hx2124).keep fun b c t g hb _ => by rw [old24 b (M.lt_of_get hb), hb]
  have hSC := sl_ints (c := (madeL ys (w * h)).length) hgc57
  rw [List.length_set] at hSC
  have hne31 : m31.n ≠ bc := fun e => by
    rw [e, hgc] at gC
    injection gC with _ ht _
    exact absurd ht (by decide)
  have l1 := hx1114.n
  have l2 := hx21.n
  have l3 := hx2124.n
  have gA := (hk57 m11.n (by omega)).trans gA
  have gB := (hk57 m21.n (by omega)).trans gB
  have gC := (hk57 m31.n hne31).trans gC
  have ldD : ∀ (mm : M) (b : Nat) (vv : Value), mm.get b = .cells [.int .i64 w, .int .i64 h, vv] 27 none → load? Tab.env mm 27 (.pointer (some ⟨b, 0, none⟩)) = some (drV w h vv) := fun mm b vv hh => by rw [load_27, loadCells_of hh (by simp)]; rfl
  have vA : drB w h (madeL ys (w * h)) = true := madeL_valid hw12 hh12
  have vB : drB w h (madeL zs (w * h)) = true := madeL_valid hw12 hh12
  have vC : drB w h ((madeL ys (w * h)).set k (qn - 1)) = true := set_valid vA (by omega)
  rw [ldD m57 _ _ gA, onS_some, ldD m57 _ _ gB, onS_some]
  obtain ⟨rL, m62, hc62, hx62, hoL⟩ := changed_ok (m := m57) hX hSA hSB vA vB
  refine onC_of hc62 ?_
  rw [extr_tuple, extr_tuple]
  simp only [List.getElem?_cons_zero, List.getElem?_cons_succ, onS_some]
  rw [ldD m62 _ _ (hx62.cells gB), onS_some, ldD m62 _ _ (hx62.cells gA), onS_some]
  obtain ⟨rM, m69, hc69, hx69, hoM⟩ := changed_ok (m := m62) hX (hSB.keepE hx62) (hSA.keepE hx62) vB vA
  refine onC_of hc69 ?_
  rw [extr_tuple, extr_tuple]
  simp only [List.getElem?_cons_zero, List.getElem?_cons_succ, onS_some]
  have hx6269 := hx62.trans hx69
  rw [ldD m69 _ _ (hx6269.cells gA), onS_some, ldD m69 _ _ (hx6269.cells gC), onS_some]
  obtain ⟨rO, m76, hc76, hx76, hoO⟩ := changed_ok (m := m69) hX (hSA.keepE hx6269) (hSC.keepE hx6269) vA vC
  refine onC_of hc76 ?_
  rw [extr_tuple, extr_tuple]
  simp only [List.getElem?_cons_zero, List.getElem?_cons_succ, onS_some]
  have hx76' := hx6269.trans hx76
  have hlo : ∀ b : Nat, m.n ≤ b → m.n ≤ b := fun _ h => h
  have e1 := hx11.n
  have e2 := hx31.n
  have e3 := hx3134.n
  have e4 := hx62.n
  have e5 := hx69.n
  have e6 := hx76.n
  have hLM : changedL w (madeL ys (w * h)) (madeL zs (w * h)) (madeL ys (w * h)).length = changedL w (madeL zs (w * h)) (madeL ys (w * h)) (madeL zs (w * h)).length := by
    rw [changedL_comm, madeL_len, madeL_len]
  have neq_bool : ∀ a b : Bool, bin? Tab.env .neq 4 (.bool a) (.bool b) = some (.bool (a != b)) := fun a b => by cases a <;> cases b <;> kernel_rfl
  have hsL : Sl m76 (changedL w (madeL ys (w * h)) (madeL zs (w * h)) (madeL ys (w * h)).length) rL := hoL.sl.keepE (hx69.trans hx76)
  have hsM : Sl m76 (changedL w (madeL zs (w * h)) (madeL ys (w * h)) (madeL zs (w * h)).length) rM := hoM.sl.keepE hx76
  have hcl := changedL_len (w := w) (l := madeL ys (w * h)) (l' := madeL zs (w * h)) (madeL ys (w * h)).length
  have hml := madeL_len (xs := ys) (n := w * h)
  refine jn_of (fun vs mm lo => vs = [.bool false] ∧ m76 = mm ∧ m.n ≤ lo) (fun R hR => ?_) ?_
  · simp only [bin_neq, onS_some, ifV_bool, decide_true, Bool.not_true, ifB_false]
    refine onC_of (samePlaces_ok hX hsL hsM (by omega)) ?_
    rw [hLM, decide_eq_true rfl, un_not, onS_some, ifV_bool, Bool.not_true, ifB_false]
    rw [hsL.len slt_pl, on2_some, bin_eql, onS_some]
    rw [ldD m76 _ _ (hx76'.cells gA), onS_some, ldD m76 _ _ (hx76'.cells gB), onS_some]
    refine onC_of (sameDr_ok hX (hSA.keepE hx76') (hSB.keepE hx76') (by omega)) ?_
    rw [neq_bool, onS_some]
    refine hR _ _ _ ⟨?_, rfl, by omega⟩
    have h1 := changedL_same (w := w) (l := madeL ys (w * h)) (l' := madeL zs (w * h)) (by rw [madeL_len, madeL_len])
    have h2 : decide (((changedL w (madeL ys (w * h)) (madeL zs (w * h)) (madeL ys (w * h)).length).length : Int) = 0) = decide (changedL w (madeL ys (w * h)) (madeL zs (w * h)) (madeL ys (w * h)).length = []) := by
      generalize changedL w (madeL ys (w * h)) (madeL zs (w * h)) (madeL ys (w * h)).length = q
      cases q with
      | nil => rfl
      | cons a q => rw [decide_eq_false (by simp; omega), decide_eq_false (by simp)]
    rw [h2, h1]
    simp
  · rintro _ _ lo ⟨rfl, rfl, hlo1⟩
    rw [un_cons, ifV_bool, ifB_false]
    generalize hL : changedL w (madeL ys (w * h)) (madeL zs (w * h)) (madeL ys (w * h)).length = L at *
    refine Lp.intro (γ := Nat) (fun i => L.length - i) (fun i vs mm lo => vs = [.int .i64 (cnt (L.take i) ⟨kx, ky⟩ : Nat), .int .i64 i] ∧ i ≤ L.length ∧ m76 = mm ∧ m.n ≤ lo) 0 ⟨rfl, Nat.zero_le _, rfl, hlo1⟩ ?_
    rintro i vs mm lo2 ⟨rfl, hi, rfl, hlo2⟩
    simp only [un_cons]
    rw [hsL.len slt_pl, on2_some, bin_lss, onS_some, ifV_bool]
    refine ifB_intro (fun hlt => ?_) (fun hge => ?_)
    · have hlt : i < L.length := by simpa using hlt
      obtain ⟨p, hp⟩ : ∃ p, L[i]? = some p := ⟨_, List.getElem?_eq_getElem hlt⟩
      obtain ⟨q, q1, q2⟩ := hsL.at_pl (k := .i64) hp
      rw [q1, onS_some, q2, onS_some]
      refine onC_of (at_ok hX kx ky) ⟨Nat.le_refl _, ?_⟩
      have heq : bin? Tab.env .eql 64 p.v (Pl.v ⟨kx, ky⟩) = some (.bool (decide (p = ⟨kx, ky⟩))) := by
        have e : bin? Tab.env .eql 64 p.v (Pl.v ⟨kx, ky⟩) = (eq? Tab.env 64 p.v (Pl.v ⟨kx, ky⟩)).map (fun b => .bool b) := by kernel_rfl
        rw [e, eq_pl]; rfl
      have hc : cnt (L.take (i + 1)) ⟨kx, ky⟩ = cnt (L.take i) ⟨kx, ky⟩ + if p = ⟨kx, ky⟩ then 1 else 0 := by
        unfold cnt
        rw [List.take_add_one, hp, Option.toList_some, List.filter_append, List.length_append, cnt_one]
      have hcb : cnt (L.take i) ⟨kx, ky⟩ ≤ i := Nat.le_trans (List.length_filter_le _ _) (by rw [List.length_take]; omega)
      rw [heq, onS_some, ifV_bool]
      refine ifB_intro (fun hh => ?_) (fun hh => ?_)
      · rw [bin_add, onS_some, bin_add, onS_some, wrap64 (by omega) (by omega), wrap64 (by omega) (by omega)]
        exact ⟨i + 1, by omega, by rw [hc, if_pos (by simpa using hh)]; rfl, by omega, rfl, by omega⟩
      · rw [bin_add, onS_some, wrap64 (by omega) (by omega)]
        exact ⟨i + 1, by omega, by rw [hc, if_neg (by simpa using hh)]; rfl, by omega, rfl, by omega⟩
    · have hi' : i = L.length := by
        have : ¬ (i : Int) < (L.length : Int) := by simpa using hge
        omega
      subst hi'
      rw [List.take_length]
      have hcell : (⟨(kx : Int), (ky : Int)⟩ : Pl) = cellP w k := by
        unfold cellP
        rw [← hk0, Nat.mul_comm ky w, Nat.mul_add_mod, Nat.mod_eq_of_lt hk1, Nat.mul_add_div (by omega), Nat.div_eq_of_lt hk1, Nat.add_zero]
      have hcnt := cnt_changed (w := w) (l := madeL ys (w * h)) (l' := madeL zs (w * h)) (k := k) (madeL ys (w * h)).length
      rw [hL, ← hcell] at hcnt
      obtain ⟨na, hna⟩ : ∃ x, (madeL ys (w * h))[k]? = some x := ⟨_, List.getElem?_eq_getElem (by rw [madeL_len]; exact hkw)⟩
      obtain ⟨nb, hnb⟩ : ∃ x, (madeL zs (w * h))[k]? = some x := ⟨_, List.getElem?_eq_getElem (by rw [madeL_len]; exact hkw)⟩
      have hcz : cnt L ⟨kx, ky⟩ = if na = nb then 0 else 1 := by
        rw [hcnt, hna, hnb, madeL_len]
        by_cases e : na = nb <;> simp [e, hkw]
      have shA : ∀ (mm : M), Ext m76 mm → C X (.func 31) [drV w h va, .int .i64 kx, .int .i64 ky] mm mm.n (.int .i64 na) mm := fun mm hx => shown_ok hX ((hSA.keepE hx76').keepE hx) vA ⟨by omega, by omega⟩ ⟨by omega, by omega⟩ (i := k) (by rw [← hk0]; push_cast; rfl) hna
      have shB : C X (.func 31) [drV w h vb, .int .i64 kx, .int .i64 ky] m76 m76.n (.int .i64 nb) m76 := shown_ok hX (hSB.keepE hx76') vB ⟨by omega, by omega⟩ ⟨by omega, by omega⟩ (i := k) (by rw [← hk0]; push_cast; rfl) hnb
      have hncC : ((madeL ys (w * h)).set k (qn - 1))[k]? = some (qn - 1) := by rw [List.getElem?_set_self (by rw [madeL_len]; exact hkw)]
      have shC : C X (.func 31) [drV w h (.slice (some ⟨bc, 0, none⟩) (madeL ys (w * h)).length (madeL ys (w * h)).length), .int .i64 kx, .int .i64 ky] m76 m76.n (.int .i64 (qn - 1)) m76 := shown_ok hX (hSC.keepE hx76') vC ⟨by omega, by omega⟩ ⟨by omega, by omega⟩ (i := k) (by rw [← hk0]; push_cast; rfl) hncC
      refine jn_of (fun vs mm lo => vs = [.bool false] ∧ m76 = mm ∧ m.n ≤ lo) (fun R hR => ?_) ?_
      · rw [bin_gtr, onS_some, ifV_bool]
        have hle : cnt L ⟨kx, ky⟩ ≤ 1 := by rw [hcz]; split <;> omega
        rw [decide_eq_false (show ¬ (1 : Int) < (cnt L ⟨kx, ky⟩ : Nat) by omega), ifB_false, bin_eql, onS_some, ldD m76 _ _ (hx76'.cells gA), onS_some]
        refine onC_of (shA m76 .refl) ⟨Nat.le_refl _, ?_⟩
        rw [ldD m76 _ _ (hx76'.cells gB), onS_some]
        refine onC_of shB ?_
        rw [bin_neq, onS_some, neq_bool, onS_some]
        refine hR _ _ _ ⟨?_, rfl, by omega⟩
        rw [hcz]
        by_cases e : na = nb <;> simp [e]
      · rintro _ _ lo3 ⟨rfl, rfl, hlo3⟩
        rw [un_cons, ifV_bool, ifB_false, ldD m76 _ _ (hx76'.cells gA), onS_some]
        refine onC_of (shA m76 .refl) ⟨Nat.le_refl _, ?_⟩
        rw [ldD m76 _ _ (hx76'.cells gC), onS_some]
        refine onC_of shC ?_
        rw [bin_eql, onS_some, ifV_bool]
        have hO := changedL_set (w := w) (x := qn - 1) hna (madeL ys (w * h)).length
        rw [madeL_len] at hO
        have hsO : Sl m76 (changedL w (madeL ys (w * h)) ((madeL ys (w * h)).set k (qn - 1)) (madeL ys (w * h)).length) rO := hoO.sl
        rw [madeL_len, hO] at hsO
        refine ifB_intro (fun he => ?_) (fun hne => ?_)
        · have he : na = qn - 1 := by simpa using he
          rw [if_neg (by simp [he])] at hsO
          rw [hsO.len slt_pl, on2_some, bin_eql, onS_some]
          exact ⟨by simp [mkres], by omega⟩
        · have hne : ¬ na = qn - 1 := by simpa using hne
          rw [if_pos ⟨hkw, hne⟩] at hsO
          refine jn_of (fun vs mm lo => vs = [.bool true] ∧ m.n ≤ lo) (fun R hR => ?_) ?_
          · rw [hsO.len slt_pl, on2_some, bin_eql, onS_some, ifV_bool]
            refine ifB_intro (fun _ => ?_) (fun hf => by simp at hf)
            obtain ⟨q, q1, q2⟩ := hsO.at_pl (k := .i64) (i := 0) rfl
            have q1 : indexAddr? Tab.env 45 rO (.int .i64 0) = some q := q1
            rw [q1, onS_some, q2, onS_some]
            refine onC_of (at_ok hX kx ky) ⟨Nat.le_refl _, ?_⟩
            have heq : bin? Tab.env .eql 64 (cellP w k).v (Pl.v ⟨kx, ky⟩) = some (.bool (decide (cellP w k = ⟨kx, ky⟩))) := by
              have e : bin? Tab.env .eql 64 (cellP w k).v (Pl.v ⟨kx, ky⟩) = (eq? Tab.env 64 (cellP w k).v (Pl.v ⟨kx, ky⟩)).map (fun b => .bool b) := by kernel_rfl
              rw [e, eq_pl]; rfl
            rw [heq, onS_some]
            exact hR _ _ _ ⟨by rw [hcell]; simp, by omega⟩
          · rintro _ mm lo4 ⟨rfl, hlo4⟩
            rw [un_cons]
            exact ⟨rfl, hlo4⟩
end Go.Proofs.YtjecgmfildhpiaaGreatDoor
