/- A call whose first statements are run, and whose last ones are shown by the program logic. Contracts: lists and drawings that are the same; what a cell shows. Contracts: drawings that integers determine; what a cell shows. Contracts: draw.Changed on valid drawings of one size. The plain law of DrawChanges: what 'changedL' lists. DrawChanges: the first half of the walk: the three drawings. DrawChanges: the walk. -/
import Derived.Test.YtjecgmfildhpiaaGreatDoorG13J
import Derived.Test.YtjecgmfildhpiaaGreatDoorG5J
import Derived.Test.YtjecgmfildhpiaaGreatDoorG8J
import Derived.Test.YtjecgmfildhpiaaGreatDoorG11J
/- A call whose first statements are run, and whose last ones are shown by the program logic. -/
namespace Go.D
open Go
section
variable {E : Env} {X : CallFn}
theorem Cl.mixed {f : Nat} {fn : Func} {c d : Code} {pre : List Code} {k : Nat} {args : List Value} {m : M} {fr : Fr} {K : KT} {R : List Value → M → Nat → Prop} (hX : Xno X f) (hf : E.fn.get f = some fn) (hb : fn.body = some c) (hl : Nat.ble args.length fn.ntmps = true)
    (hc : D.flat c = pre ++ D.flat d) (hp : ∀ n, execs (exec? E (call? E X (n + k)) (n + k)) pre ⟨enter args 0, m.wl m.n⟩ = some (.normal, fr)) (hK : Kn K fr.T) (hlo : fr.m.low ≤ fr.m.n) (hmn : m.n ≤ fr.m.n)
    (h : vcJ E (plainW E X) d (resTs fn.results.toList) ⟨K, fr.m, fr.m.low⟩ (post E fn.results.toList R)) :
    ∃ vs m' lo, R vs m' lo ∧ m.n ≤ m'.n ∧ ∃ n0, ∀ n, n0 ≤ n → ∀ l, l ≤ m.n →
      call? E X n (.func f) args (m.wl l) = some (bif flat2 (mkres vs) && Nat.ble m.n lo then (mkres vs, m.wl l) else (mkres vs, m'.wl (min l lo))) := by
  obtain ⟨e, s', T', hpost, hk', hn, hlo', n0, hr⟩ := vcJ_sound _ _ _ _ h fr.T hK hlo
  have hend : (∀ id, e ≠ .exit id) ∧ resK E s'.K s'.m fn.results.toList fun vs => R vs s'.m s'.lo := by
    cases e with
    | exit id => exact hpost.elim
    | normal => exact ⟨fun _ h => (by cases h), hpost⟩
    | ret => exact ⟨fun _ h => (by cases h), hpost⟩
  obtain ⟨hne, hres⟩ := hend
  obtain ⟨vs, hR, hres⟩ := resK_sound hk' hres
  refine ⟨vs, s'.m, s'.lo, hR, Nat.le_trans hmn hn, n0 + k + 1, fun n hn' l hl' => ?_⟩
  obtain ⟨j, rfl, hj⟩ : ∃ j, n = j + k + 1 ∧ n0 ≤ j := ⟨n - k - 1, by omega, by omega⟩
  have e1' : exec? E (call? E X (j + k)) (j + k) c { T := enter args 0, m := { m.wl l with low := (m.wl l).n } } = some (e, ⟨T', s'.m.wl s'.lo⟩) := by
    rw [exec_flat, hc, execs_app]
    have h1 : execs (exec? E (call? E X (j + k)) (j + k)) pre { T := enter args 0, m := { m.wl l with low := (m.wl l).n } } = some (.normal, fr) := hp j
    rw [h1]
    dsimp only
    rw [← exec_flat]
    exact hr (j + k) (by omega)
  have hr2 := result?_of (fn := fn) (hres s'.lo)
  have hX' : X (.func f) args (m.wl l) = none := hX _ _
  have fin : (bif flat2 (mkres vs) && Nat.ble (m.wl l).n (s'.m.wl s'.lo).low then some (mkres vs, m.wl l) else some (mkres vs, { s'.m.wl s'.lo with low := min (m.wl l).low (s'.m.wl s'.lo).low })) =
      some (bif flat2 (mkres vs) && Nat.ble m.n s'.lo then (mkres vs, m.wl l) else (mkres vs, s'.m.wl (min l s'.lo))) := by
    cases hc : (flat2 (mkres vs) && Nat.ble m.n s'.lo) with
    | true =>
      have : (flat2 (mkres vs) && Nat.ble (m.wl l).n (s'.m.wl s'.lo).low) = true := hc
      rw [this]; rfl
    | false =>
      have : (flat2 (mkres vs) && Nat.ble (m.wl l).n (s'.m.wl s'.lo).low) = false := hc
      rw [this]; rfl
  cases e with
  | exit id => exact (hne id rfl).elim
  | normal =>
    simp only [call?, hX', hf, hb, hl, cond_true, e1', hr2]
    exact fin
  | ret =>
    simp only [call?, hX', hf, hb, hl, cond_true, e1', hr2]
    exact fin
end
end Go.D

/- Contracts: lists and drawings that are the same; what a cell shows. -/
namespace Go.Proofs.YtjecgmfildhpiaaGreatDoor
open Go Go.D
variable {X : CallFn} {m : M}

theorem _root_.Go.D.Sl.at_int {l : List Int} {v : Value} (h : Sl m l v) {i : Nat} {n : Int} (hi : l[i]? = some n) {k : IntKind} : ∃ a, indexAddr? Tab.env 25 v (.int k i) = some a ∧ load? Tab.env m 3 a = some (.int .i64 n) := by
  obtain ⟨a, cs, h1, h2, h3⟩ := h.index slt_int (k := k) hi
  rw [show cs = [.int .i64 n] from h3] at h2
  exact ⟨a, h1, h2⟩
theorem _root_.Go.D.SlR.at_int {l : List Int} {v : Value} (h : SlR m l v) {i : Nat} {n : Int} (hi : l[i]? = some n) {k : IntKind} : ∃ a, indexAddr? Tab.env 25 v (.int k i) = some a ∧ load? Tab.env m 3 a = some (.int .i64 n) := by
  obtain ⟨a, cs, h1, h2, h3⟩ := h.index slt_int (k := k) hi
  rw [show cs = [.int .i64 n] from h3] at h2
  exact ⟨a, h1, h2⟩
end Go.Proofs.YtjecgmfildhpiaaGreatDoor

/- Contracts: drawings that integers determine; what a cell shows. -/
namespace Go.Proofs.YtjecgmfildhpiaaGreatDoor
open Go Go.D
variable {X : CallFn} {m : M}

theorem shown_ok (hX : NoX X) {w h x y : Int} {l : List Int} {v : Value} (hl : Sl m l v) (hv : drB w h l = true) (hx : 0 ≤ x ∧ x < w) (hy : 0 ≤ y ∧ y < h) {i : Nat} {n : Int} (hi : (i : Int) = y * w + x) (hn : l[i]? = some n) :
    C X (.func 31) [drV w h v, .int .i64 x, .int .i64 y] m m.n (.int .i64 n) m := by
  refine Cl.flat (hX.no _ rfl) fn_31 rfl rfl ?_
  rw [F31]; dsimp only [plainW]
  have hb : 1 ≤ w ∧ w ≤ 40 ∧ 1 ≤ h ∧ h ≤ 40 := by
    simp only [drB, inB, Bool.and_eq_true, decide_eq_true_eq] at hv
    omega
  have hil := (List.getElem?_eq_some_iff.1 hn).1
  have hwh : -(40 * 40) ≤ y * w ∧ y * w ≤ 40 * 40 := mul_bound (by omega) (by omega) (by omega) (by omega)
  refine onM_push fun m1 hn1 hg1 hk1 => ?_
  simp only [cells_agg] at hg1
  have hx1 : Ext m m1 := ⟨by omega, fun b hb => hk1 b hb⟩
  have hl1 := hl.keepE hx1
  have d1 : decide (x < 0) = false := by simp; omega
  have d2 : decide (w ≤ x) = false := by simp; omega
  have d3 : decide (y < 0) = false := by simp; omega
  have d4 : decide (h ≤ y) = false := by simp; omega
  refine jn_of (fun vs m2 lo => vs = [.bool false] ∧ m1 = m2 ∧ m.n ≤ lo) (fun R hR => ?_) ?_
  · simp only [onS_some, on2_some, onFn_func, ifV_bool, ifB_true, ifB_false, bin_leq, bin_lss, bin_geq, bin_gtr, bin_eql, bin_neq, un_not, ptrTo, nilck_ptr, nilck_func, Nat.zero_add, Nat.reduceAdd, List.getElem?_cons_zero, List.getElem?_cons_succ, List.drop_zero, List.drop_succ_cons, List.take_succ_cons, List.take_zero, Option.map_some, cells_agg, cells_int, cells_bool, cells_slice, cells_ptr, cells_map, cells_func, fieldAddr_27_0, fieldAddr_27_1, fieldAddr_27_2, len_25, load_25, load_3, ty_25, cellAt_of hg1, d1, d2, d3, d4]
    rw [hl1.len slt_int]
    simp only [bin_mul, onS_some, on2_some]
    rw [wrap64 (by omega) (by omega)]
    simp only [bin_add, onS_some]
    rw [wrap64 (by omega) (by omega)]
    simp only [bin_geq, onS_some]
    refine hR _ _ _ ⟨?_, rfl, Nat.le_refl _⟩
    have : decide ((l.length : Int) ≤ y * w + x) = false := by simp; omega
    rw [this]
  · rintro _ _ lo ⟨rfl, rfl, hlo⟩
    rw [un_cons]
    simp only [onS_some, on2_some, onFn_func, ifV_bool, ifB_true, ifB_false, bin_leq, bin_lss, bin_geq, bin_gtr, bin_eql, bin_neq, un_not, ptrTo, nilck_ptr, nilck_func, Nat.zero_add, Nat.reduceAdd, List.getElem?_cons_zero, List.getElem?_cons_succ, List.drop_zero, List.drop_succ_cons, List.take_succ_cons, List.take_zero, Option.map_some, cells_agg, cells_int, cells_bool, cells_slice, cells_ptr, cells_map, cells_func, fieldAddr_27_0, fieldAddr_27_1, fieldAddr_27_2, len_25, load_25, load_3, ty_25, cellAt_of hg1, bin_mul]
    rw [wrap64 (by omega) (by omega)]
    simp only [bin_add, onS_some]
    rw [wrap64 (by omega) (by omega), ← hi]
    obtain ⟨a, e1, e2⟩ := hl1.at_int (k := .i64) hn
    rw [e1, onS_some, e2, onS_some]
    exact ⟨rfl, hlo⟩
/-- The number that cell i is made of. -/
def srcZ (xs : List Int) (i : Nat) : Int := match xs[i % xs.length]? with | some n => n | none => 7 * i
def madeL (xs : List Int) (n : Nat) : List Int := (List.range n).map fun i => pickZ (srcZ xs i) 101 - 1
end Go.Proofs.YtjecgmfildhpiaaGreatDoor

/- Contracts: draw.Changed on valid drawings of one size. -/
namespace Go.Proofs.YtjecgmfildhpiaaGreatDoor
open Go Go.D
variable {X : CallFn} {m : M}

/-- The cells, of the first n, in which two lists differ. -/
def changedL (w : Nat) (l l' : List Int) : Nat → List Pl
  | 0 => []
  | i + 1 => changedL w l l' i ++ (if l[i]? = l'[i]? then [] else [⟨((i % w : Nat) : Int), ((i / w : Nat) : Int)⟩])
end Go.Proofs.YtjecgmfildhpiaaGreatDoor

/- The plain law of DrawChanges: what 'changedL' lists. -/
namespace Go.Proofs.YtjecgmfildhpiaaGreatDoor
open Go Go.D

def cellP (w i : Nat) : Pl := ⟨((i % w : Nat) : Int), ((i / w : Nat) : Int)⟩
/-- How often a place is listed. -/
def cnt (l : List Pl) (p : Pl) : Nat := (l.filter fun q => decide (q = p)).length
end Go.Proofs.YtjecgmfildhpiaaGreatDoor

/- DrawChanges: the first half of the walk: the three drawings. -/
namespace Go.Proofs.YtjecgmfildhpiaaGreatDoor
open Go Go.D
variable {X : CallFn} {m : M}

theorem idx_int {b n c i : Nat} {k : IntKind} (hi : i < n) : indexAddr? Tab.env 25 (.slice (some ⟨b, 0, none⟩) n c) (.int k i) = some (.pointer (some ⟨b, i, none⟩)) := by
  have hc : 0 ≤ (i : Int) ∧ (i : Int) < (n : Int) ∧ 0 < Tab.t25.es := ⟨by omega, by omega, by decide⟩
  have hd : Tab.t25.d = .slice 3 := rfl
  simp only [indexAddr?, ty_25, hd]
  rw [if_pos hc, addr_add rfl, Nat.zero_add]
  show some (Value.pointer (some ⟨b, i * 1, none⟩)) = _
  rw [Nat.mul_one]
end Go.Proofs.YtjecgmfildhpiaaGreatDoor

/- DrawChanges: the walk. -/
namespace Go.Proofs.YtjecgmfildhpiaaGreatDoor
open Go Go.D
variable {X : CallFn} {m : M}

end Go.Proofs.YtjecgmfildhpiaaGreatDoor
