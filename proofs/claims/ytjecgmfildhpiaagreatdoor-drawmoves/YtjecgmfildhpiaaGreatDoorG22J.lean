/- A call whose first statements are run, and whose last ones are shown by the program logic. Contracts: lists and drawings that are the same; what a cell shows. Contracts: drawings that integers determine; what a cell shows. Contracts: draw.Changed on valid drawings of one size. The plain law of DrawChanges: what 'changedL' lists. DrawChanges: the first half of the walk: the three drawings. DrawChanges: the walk. -/
import Derived.Test.YtjecgmfildhpiaaGreatDoorG13J
import Derived.Test.YtjecgmfildhpiaaGreatDoorG5J
import Derived.Test.YtjecgmfildhpiaaGreatDoorG8J
import Derived.Test.YtjecgmfildhpiaaGreatDoorG11J
/- A call whose first statements are run, and whose last ones are shown by the program logic. -/
namespace Go.D
open Go
section
variable {E : Env} {X : CallFn}
theorem Cl.mixed {f : Nat} {fn : Func} {c d : Code} {pre : List Code} {k : Nat} {args : List Value} {m : M} {fr : Fr} {K : KT} {R : List Value → M → Nat → Prop} (hX : Xno X f) (hf : E.fn.get f = some fn) (hb : fn.body = some c) (hl : Nat.ble args.length fn.ntmps = true)
    (hc : D.flat c = pre ++ D.flat d) (hp : ∀ n, execs (exec? E (call? E X (n + k)) (n + k)) pre ⟨enter args 0, m.wl m.n⟩ = some (.normal, fr)) (hK : Kn K fr.T) (hlo : fr.m.low ≤ fr.m.n) (hmn : m.n ≤ fr.m.n)
    (h : vcJ E (plainW E X) d (resTs fn.results.toList) ⟨K, fr.m, fr.m.low⟩ (post E fn.results.toList R)) :
    ∃ vs m' lo, R vs m' lo ∧ m.n ≤ m'.n ∧ ∃ n0, ∀ n, n0 ≤ n → ∀ l, l ≤ m.n →
      call? E X n (.func f) args (m.wl l) = some (bif flat2 (mkres vs) && Nat.ble m.n lo then (mkres vs, m.wl l) else (mkres vs, m'.wl (min l lo))) := by
  obtain ⟨e, s', T', hpost, hk', hn, hlo', n0, hr⟩ := vcJ_sound _ _ _ _ h fr.T hK hlo
  have hend : (∀ id, e ≠ .exit id) ∧ resK E s'.K s'.m fn.results.toList fun vs => R vs s'.m s'.lo := by
    cases e with
    | exit id => exact hpost.elim
    | normal => exact ⟨fun _ h => (by cases h), hpost⟩
    | ret => exact ⟨fun _ h => (by cases h), hpost⟩
  obtain ⟨hne, hres⟩ := hend
  obtain ⟨vs, hR, hres⟩ := resK_sound hk' hres
  refine ⟨vs, s'.m, s'.lo, hR, Nat.le_trans hmn hn, n0 + k + 1, fun n hn' l hl' => ?_⟩
  obtain ⟨j, rfl, hj⟩ : ∃ j, n = j + k + 1 ∧ n0 ≤ j := ⟨n - k - 1, by omega, by omega⟩
  have e1' : exec? E (call? E X (j + k)) (j + k) c { T := enter args 0, m := { m.wl l with low := (m.wl l).n } } = some (e, ⟨T', s'.m.wl s'.lo⟩) := by
    rw [exec_flat, hc, execs_app]
    have h1 : execs (exec? E (call? E X (j + k)) (j + k)) pre { T := enter args 0, m := { m.wl l with low := (m.wl l).n } } = some (.normal, fr) := hp j
    rw [h1]
    dsimp only
    rw [← exec_flat]
    exact hr (j + k) (by omega)
  have hr2 := result?_of (fn := fn) (hres s'.lo)
  have hX' : X (.func f) args (m.wl l) = none := hX _ _
  have fin : (bif flat2 (mkres vs) && Nat.ble (m.wl l).n (s'.m.wl s'.lo).low then some (mkres vs, m.wl l) else some (mkres vs, { s'.m.wl s'.lo with low := min (m.wl l).low (s'.m.wl s'.lo).low })) =
      some (bif flat2 (mkres vs) && Nat.ble m.n s'.lo then (mkres vs, m.wl l) else (mkres vs, s'.m.wl (min l s'.lo))) := by
    cases hc : (flat2 (mkres vs) && Nat.ble m.n s'.lo) with
    | true =>
      have : (flat2 (mkres vs) && Nat.ble (m.wl l).n (s'.m.wl s'.lo).low) = true := hc
      rw [this]; rfl
    | false =>
      have : (flat2 (mkres vs) && Nat.ble (m.wl l).n (s'.m.wl s'.lo).low) = false := hc
      rw [this]; rfl
  cases e with
  | exit id => exact (hne id rfl).elim
  | normal =>
    simp only [call?, hX', hf, hb, hl, cond_true, e1', hr2]
    exact fin
  | ret =>
    simp only [call?, hX', hf, hb, hl, cond_true, e1', hr2]
    exact fin
end
end Go.D

/- Contracts: lists and drawings that are the same; what a cell shows. -/
namespace Go.Proofs.YtjecgmfildhpiaaGreatDoor
open Go Go.D
variable {X : CallFn} {m : M}

theorem _root_.Go.D.Sl.at_int {l : List Int} {v : Value} (h : Sl m l v) {i : Nat} {n : Int} (hi : l[i]? = some n) {k : IntKind} : ∃ a, indexAddr? Tab.env 25 v (.int k i) = some a ∧ load? Tab.env m 3 a = some (.int .i64 n) := by
  obtain ⟨a, cs, h1, h2, h3⟩ := h.index slt_int (k := k) hi
  rw [show cs = [.int .i64 n] from h3] at h2
  exact ⟨a, h1, h2⟩
theorem _root_.Go.D.SlR.at_int {l : List Int} {v : Value} (h : SlR m l v) {i : Nat} {n : Int} (hi : l[i]? = some n) {k : IntKind} : ∃ a, indexAddr? Tab.env 25 v (.int k i) = some a ∧ load? Tab.env m 3 a = some (.int .i64 n) := by
  obtain ⟨a, cs, h1, h2, h3⟩ := h.index slt_int (k := k) hi
  rw [show cs = [.int .i64 n] from h3] at h2
  exact ⟨a, h1, h2⟩
theorem list_eq_of {α : Type} {l l' : List α} (hl : l.length = l'.length) (h : ∀ j x y, j < l.length → l[j]? = some x → l'[j]? = some y → x = y) : l = l' := by
  refine List.ext_getElem? fun i => ?_
  by_cases hi : i < l.length
  · have h1 : l[i]? = some l[i] := List.getElem?_eq_getElem hi
    have h2 : l'[i]? = some (l'[i]'(by omega)) := List.getElem?_eq_getElem _
    rw [h1, h2, h i _ _ hi h1 h2]
  · rw [List.getElem?_eq_none (by omega), List.getElem?_eq_none (by omega)]
theorem ints_ok (hX : NoX X) {l l' : List Int} {v v' : Value} (hl : Sl m l v) (hl' : Sl m l' v') (hb : l.length < 4611686018427387904) : C X (.func 53) [v, v'] m m.n (.bool (decide (l = l'))) m := by
  refine Cl.flat (hX.no _ rfl) fn_53 rfl rfl ?_
  rw [F53]; dsimp only [plainW]
  rw [hl.len slt_int, on2_some, hl'.len slt_int, on2_some]
  simp only [bin_neq, onS_some, ifV_bool]
  refine ifB_intro (fun h => ⟨?_, Nat.le_refl _⟩) (fun h => ?_)
  · have : l ≠ l' := fun e => by subst e; simp at h
    simp [mkres, this]
  · have hlen : l.length = l'.length := by
      have : (l.length : Int) = (l'.length : Int) := by simpa using h
      omega
    refine Lp.intro (γ := Nat) (fun i => l.length - i) (fun i vs m1 lo => vs = [.bool false, .int .i64 i] ∧ i ≤ l.length ∧ m = m1 ∧ m.n ≤ lo ∧ ∀ j x y, j < i → l[j]? = some x → l'[j]? = some y → x = y) 0 ⟨rfl, Nat.zero_le _, rfl, Nat.le_refl _, fun j x y hj => by omega⟩ ?_
    rintro i vs m1 lo ⟨rfl, hi, rfl, hlo, hall⟩
    simp only [un_cons]
    rw [hl.len slt_int, on2_some]
    simp only [bin_lss, onS_some, ifV_bool]
    refine ifB_intro (fun hlt => ?_) (fun hge => ?_)
    · have hlt : i < l.length := by simpa using hlt
      obtain ⟨x, hx⟩ : ∃ x, l[i]? = some x := ⟨_, List.getElem?_eq_getElem hlt⟩
      obtain ⟨y, hy⟩ : ∃ y, l'[i]? = some y := ⟨_, List.getElem?_eq_getElem (by omega)⟩
      obtain ⟨a, e1, e2⟩ := hl.at_int (k := .i64) hx
      obtain ⟨b, e3, e4⟩ := hl'.at_int (k := .i64) hy
      rw [e1, onS_some, e2, onS_some, e3, onS_some, e4, onS_some]
      simp only [bin_neq, onS_some, ifV_bool]
      refine ifB_intro (fun hne => ⟨?_, hlo⟩) (fun he => ?_)
      · have : l ≠ l' := fun e => by subst e; rw [hx] at hy; cases hy; simp at hne
        simp [mkres, this]
      · simp only [bin_add, onS_some]
        rw [wrap64 (by omega) (by omega)]
        refine ⟨i + 1, by omega, by simp, by omega, by first | rfl | trivial, hlo, fun j x' y' hj hx' hy' => ?_⟩
        by_cases hji : j < i
        · exact hall j x' y' hji hx' hy'
        · have : j = i := by omega
          subst this
          rw [hx] at hx'; rw [hy] at hy'
          cases hx'; cases hy'
          simpa using he
    · have hi' : i = l.length := by
        have : ¬ (i : Int) < (l.length : Int) := by simpa using hge
        omega
      have : l = l' := list_eq_of hlen fun j x y hj => hall j x y (by omega)
      exact ⟨by simp [mkres, this], hlo⟩
theorem sameDr_ok (hX : NoX X) {w h w' h' : Int} {l l' : List Int} {v v' : Value} (hl : Sl m l v) (hl' : Sl m l' v') (hb : l.length < 4611686018427387904) :
    C X (.func 14) [drV w h v, drV w' h' v'] m m.n (.bool (decide (w = w') && decide (h = h') && decide (l = l'))) m := by
  refine Cl.flat (hX.no _ rfl) fn_14 rfl rfl ?_
  rw [F14]; dsimp only [plainW]
  refine onM_push fun m1 hn1 hg1 hk1 => ?_
  refine onM_push fun m2 hn2 hg2 hk2 => ?_
  have hg1' := (hk2 m.n (by omega)).trans hg1
  simp only [cells_agg] at hg1' hg2
  have hx2 : Ext m m2 := ⟨by omega, fun b hb => by rw [hk2 b (by omega), hk1 b hb]⟩
  refine jn_of (fun vs m3 lo => vs = [.bool (decide (w = w') && decide (h = h') && decide (l = l'))] ∧ m.n ≤ lo) (fun R hR => ?_) ?_
  · simp only [onS_some, on2_some, onFn_func, ifV_bool, ifB_true, ifB_false, bin_leq, bin_lss, bin_geq, bin_gtr, bin_eql, bin_neq, un_not, ptrTo, nilck_ptr, nilck_func, Nat.zero_add, Nat.reduceAdd, List.getElem?_cons_zero, List.getElem?_cons_succ, List.drop_zero, List.drop_succ_cons, List.take_succ_cons, List.take_zero, Option.map_some, cells_agg, cells_int, cells_bool, cells_slice, cells_ptr, cells_map, cells_func, fieldAddr_27_0, fieldAddr_27_1, fieldAddr_27_2, load_25, load_3, cellAt_of hg1', cellAt_of hg2]
    refine ifB_intro (fun h1 => ?_) (fun h1 => hR _ _ _ ⟨by simp [h1], Nat.le_refl _⟩)
    refine ifB_intro (fun h2 => ?_) (fun h2 => hR _ _ _ ⟨by simp [h2], Nat.le_refl _⟩)
    refine onC_of (ints_ok hX (hl.keepE hx2) (hl'.keepE hx2) hb) ?_
    exact hR _ _ _ ⟨by rw [h1, h2, Bool.true_and, Bool.true_and], by omega⟩
  · rintro _ m3 lo ⟨rfl, hlo⟩
    rw [un_cons]
    exact ⟨rfl, hlo⟩
end Go.Proofs.YtjecgmfildhpiaaGreatDoor

/- Contracts: drawings that integers determine; what a cell shows. -/
namespace Go.Proofs.YtjecgmfildhpiaaGreatDoor
open Go Go.D
variable {X : CallFn} {m : M}

theorem shown_ok (hX : NoX X) {w h x y : Int} {l : List Int} {v : Value} (hl : Sl m l v) (hv : drB w h l = true) (hx : 0 ≤ x ∧ x < w) (hy : 0 ≤ y ∧ y < h) {i : Nat} {n : Int} (hi : (i : Int) = y * w + x) (hn : l[i]? = some n) :
    C X (.func 31) [drV w h v, .int .i64 x, .int .i64 y] m m.n (.int .i64 n) m := by
  refine Cl.flat (hX.no _ rfl) fn_31 rfl rfl ?_
  rw [F31]; dsimp only [plainW]
  have hb : 1 ≤ w ∧ w ≤ 40 ∧ 1 ≤ h ∧ h ≤ 40 := by
    simp only [drB, inB, Bool.and_eq_true, decide_eq_true_eq] at hv
    omega
  have hil := (List.getElem?_eq_some_iff.1 hn).1
  have hwh : -(40 * 40) ≤ y * w ∧ y * w ≤ 40 * 40 := mul_bound (by omega) (by omega) (by omega) (by omega)
  refine onM_push fun m1 hn1 hg1 hk1 => ?_
  simp only [cells_agg] at hg1
  have hx1 : Ext m m1 := ⟨by omega, fun b hb => hk1 b hb⟩
  have hl1 := hl.keepE hx1
  have d1 : decide (x < 0) = false := by simp; omega
  have d2 : decide (w ≤ x) = false := by simp; omega
  have d3 : decide (y < 0) = false := by simp; omega
  have d4 : decide (h ≤ y) = false := by simp; omega
  refine jn_of (fun vs m2 lo => vs = [.bool false] ∧ m1 = m2 ∧ m.n ≤ lo) (fun R hR => ?_) ?_
  · simp only [onS_some, on2_some, onFn_func, ifV_bool, ifB_true, ifB_false, bin_leq, bin_lss, bin_geq, bin_gtr, bin_eql, bin_neq, un_not, ptrTo, nilck_ptr, nilck_func, Nat.zero_add, Nat.reduceAdd, List.getElem?_cons_zero, List.getElem?_cons_succ, List.drop_zero, List.drop_succ_cons, List.take_succ_cons, List.take_zero, Option.map_some, cells_agg, cells_int, cells_bool, cells_slice, cells_ptr, cells_map, cells_func, fieldAddr_27_0, fieldAddr_27_1, fieldAddr_27_2, len_25, load_25, load_3, ty_25, cellAt_of hg1, d1, d2, d3, d4]
    rw [hl1.len slt_int]
    simp only [bin_mul, onS_some, on2_some]
    rw [wrap64 (by omega) (by omega)]
    simp only [bin_add, onS_some]
    rw [wrap64 (by omega) (by omega)]
    simp only [bin_geq, onS_some]
    refine hR _ _ _ ⟨?_, rfl, Nat.le_refl _⟩
    have : decide ((l.length : Int) ≤ y * w + x) = false := by simp; omega
    rw [this]
  · rintro _ _ lo ⟨rfl, rfl, hlo⟩
    rw [un_cons]
    simp only [onS_some, on2_some, onFn_func, ifV_bool, ifB_true, ifB_false, bin_leq, bin_lss, bin_geq, bin_gtr, bin_eql, bin_neq, un_not, ptrTo, nilck_ptr, nilck_func, Nat.zero_add, Nat.reduceAdd, List.getElem?_cons_zero, List.getElem?_cons_succ, List.drop_zero, List.drop_succ_cons, List.take_succ_cons, List.take_zero, Option.map_some, cells_agg, cells_int, cells_bool, cells_slice, cells_ptr, cells_map, cells_func, fieldAddr_27_0, fieldAddr_27_1, fieldAddr_27_2, len_25, load_25, load_3, ty_25, cellAt_of hg1, bin_mul]
    rw [wrap64 (by omega) (by omega)]
    simp only [bin_add, onS_some]
    rw [wrap64 (by omega) (by omega), ← hi]
    obtain ⟨a, e1, e2⟩ := hl1.at_int (k := .i64) hn
    rw [e1, onS_some, e2, onS_some]
    exact ⟨rfl, hlo⟩
end Go.Proofs.YtjecgmfildhpiaaGreatDoor

/- Contracts: draw.Changed on valid drawings of one size. -/
namespace Go.Proofs.YtjecgmfildhpiaaGreatDoor
open Go Go.D
variable {X : CallFn} {m : M}

end Go.Proofs.YtjecgmfildhpiaaGreatDoor

/- The plain law of DrawChanges: what 'changedL' lists. -/
namespace Go.Proofs.YtjecgmfildhpiaaGreatDoor
open Go Go.D

end Go.Proofs.YtjecgmfildhpiaaGreatDoor

/- DrawChanges: the first half of the walk: the three drawings. -/
namespace Go.Proofs.YtjecgmfildhpiaaGreatDoor
open Go Go.D
variable {X : CallFn} {m : M}

theorem idx_int {b n c i : Nat} {k : IntKind} (hi : i < n) : indexAddr? Tab.env 25 (.slice (some ⟨b, 0, none⟩) n c) (.int k i) = some (.pointer (some ⟨b, i, none⟩)) := by
  have hc : 0 ≤ (i : Int) ∧ (i : Int) < (n : Int) ∧ 0 < Tab.t25.es := ⟨by omega, by omega, by decide⟩
  have hd : Tab.t25.d = .slice 3 := rfl
  simp only [indexAddr?, ty_25, hd]
  rw [if_pos hc, addr_add rfl, Nat.zero_add]
  show some (Value.pointer (some ⟨b, i * 1, none⟩)) = _
  rw [Nat.mul_one]
end Go.Proofs.YtjecgmfildhpiaaGreatDoor

/- DrawChanges: the walk. -/
namespace Go.Proofs.YtjecgmfildhpiaaGreatDoor
open Go Go.D
variable {X : CallFn} {m : M}

end Go.Proofs.YtjecgmfildhpiaaGreatDoor
