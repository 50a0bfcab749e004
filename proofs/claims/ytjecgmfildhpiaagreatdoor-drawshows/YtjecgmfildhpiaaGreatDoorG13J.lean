/- fabric.pairs, fabric.Valid; putlogref12.Valid. fabric.Valid, putlogref12.Valid. putlogref12: pick, copied, Block. putlogref12.Block. putlogref12.Add. putlogref12.Made: a valid fabric. Rows of six integers as an argument. A body, leaf by leaf. What is known of calls, put together; runs of a region, part by part; a call known at one store. slices.Sorted over the keys of a map: what is known of the call beforehand. Calls that a contract makes known: what they come to, said of a store of one's own choice. -/
import Derived.Test.YtjecgmfildhpiaaGreatDoorG12J
import Derived.Test.YtjecgmfildhpiaaGreatDoorG5J
import Derived.Test.YtjecgmfildhpiaaGreatDoorBtJ
import Derived.Test.YtjecgmfildhpiaaGreatDoorG4J
/- fabric.pairs, fabric.Valid; putlogref12.Valid. -/
namespace Go.Proofs.YtjecgmfildhpiaaGreatDoor
open Go Go.D
variable {X : CallFn} {m : M}
/-- A valid fabric. -/
structure FabP (us : List Un) : Prop where
  len : us.length ≤ 12
  val : ∀ u ∈ us, unB u = true
  asc : ∀ (i : Nat) (a b : Un), us[i]? = some a → us[i + 1]? = some b → a.id < b.id
  apart : ∀ (i k : Nat) (a b : Un), i < k → us[i]? = some a → us[k]? = some b → overU a b = false
open Classical in
noncomputable def fabB (us : List Un) : Bool := decide (FabP us)
open Classical in
theorem fabB_true {us : List Un} (h : FabP us) : fabB us = true := by unfold fabB; exact decide_eq_true h
open Classical in
theorem fabB_false {us : List Un} (h : ¬ FabP us) : fabB us = false := by unfold fabB; exact decide_eq_false h
open Classical in
theorem fabB_iff {us : List Un} : fabB us = true ↔ FabP us := by unfold fabB; exact decide_eq_true_iff
theorem comB_comm (a b : Un) : comB a b = comB b a := by
  unfold comB
  rw [Bool.and_comm (unB a), Int.max_comm, Int.min_comm]
theorem overB_comm (a b : List Pl) : overB a b = overB b a := by
  unfold overB
  cases validB a <;> cases validB b <;> cases decide (firstE a b < 0) <;> cases decide (firstE b a < 0) <;> rfl
theorem overU_comm (a b : Un) : overU a b = overU b a := by unfold overU; rw [comB_comm, overB_comm]
/-- The units of a fabric, with the slices of their corners. -/
def us' (l : List UW) : List Un := l.map (·.u)
theorem us_at {l : List UW} {i : Nat} {x : UW} (h : l[i]? = some x) : (us' l)[i]? = some x.u := by unfold us'; rw [List.getElem?_map, h]; rfl
theorem us_len {l : List UW} : (us' l).length = l.length := by unfold us'; rw [List.length_map]
theorem us_get {l : List UW} {i : Nat} {u : Un} (h : (us' l)[i]? = some u) : ∃ x, l[i]? = some x ∧ x.u = u := by
  unfold us' at h
  rw [List.getElem?_map] at h
  cases hx : l[i]? with
  | none => rw [hx] at h; cases h
  | some x => rw [hx] at h; cases h; exact ⟨x, rfl, rfl⟩
theorem us_mem {l : List UW} {u : Un} (h : u ∈ us' l) : ∃ x ∈ l, x.u = u := by unfold us' at h; obtain ⟨x, hx, rfl⟩ := List.mem_map.1 h; exact ⟨x, hx, rfl⟩
/-- A fabric in the store. -/
structure FabV (m : M) (l : List UW) (v : Value) : Prop where
  sl : Sl m l v
  sh : ∀ x ∈ l, Sl m x.u.shape x.w
  ln : ∀ x ∈ l, x.u.shape.length < 1000000
  cap : l = [] ∨ ∃ b o c bc g, v = .slice (some ⟨b, o, none⟩) l.length c ∧ l.length ≤ c ∧ m.get b = .cells bc 57 g ∧ (g = none ∨ g = some 6)
theorem FabV.keepE {l : List UW} {v : Value} {m' : M} (h : FabV m l v) (hx : Ext m m') : FabV m' l v :=
  ⟨h.sl.keepE hx, fun x hx' => (h.sh x hx').keepE hx, h.ln, h.cap.imp id fun ⟨b, o, c, bc, g, h1, h2, h3, h4⟩ => ⟨b, o, c, bc, g, h1, h2, hx.cells h3, h4⟩⟩
theorem FabV.keep {l : List UW} {v : Value} {m' : M} (h : FabV m l v) (hk : ∀ c cs t g, m.get c = .cells cs t g → (t = 57 ∨ t = 64) → m'.get c = .cells cs t g) : FabV m' l v :=
  ⟨h.sl.keep fun b c t g hb ht => hk b c t g hb (.inl (by simpa [Rep.ty, Rep.tys] using ht)), fun x hx => (h.sh x hx).keep fun b c t g hb ht => hk b c t g hb (.inr (by simpa [Rep.ty, Rep.tys] using ht)), h.ln,
   h.cap.imp id fun ⟨b, o, c, bc, g, h1, h2, h3, h4⟩ => ⟨b, o, c, bc, g, h1, h2, hk _ _ _ _ h3 (.inl rfl), h4⟩⟩
/-- The pairs of units, as they are yielded. -/
def pairsV : List UW → List (List Value)
  | [] => []
  | a :: r => r.map (fun b => [a.v, b.v]) ++ pairsV r
theorem pairs_drop {l : List UW} {i : Nat} {a : UW} (h : l[i]? = some a) : pairsV (l.drop i) = (l.drop (i + 1)).map (fun b => [a.v, b.v]) ++ pairsV (l.drop (i + 1)) := by
  have hi := (List.getElem?_eq_some_iff.1 h).1
  rw [List.drop_eq_getElem_cons hi, (List.getElem?_eq_some_iff.1 h).2, pairsV]
theorem pairs_cons {x : UW} {r : List UW} : pairsV (x :: r) = r.map (fun b => [x.v, b.v]) ++ pairsV r := rfl
theorem pairs_gen (hX : NoX X) {l : List UW} {v : Value} {b : Nat} (hlen : l.length < 1000000) :
    GenF Tab.env X (fun o => ∃ cs g, o = .cells cs 57 g) (.func 132) [] [ptrTo b] (pairsV l) (fun m => m.get b = .cells [v] 31 none ∧ FabV m l v) := by
  intro y n0 B I J m hD hI hJ hy hn0 hB hyield h0
  refine Cl.gen (R := fun v m2 b => B ≤ b ∧ (I (pairsV l).length m2 ∨ J m2)) (hX.no _ rfl) fn_132 rfl ?_
  rw [show ([] : List Value) ++ .func (.yield y) #[] #[] :: [ptrTo b] = [.func (.yield y) #[] #[], ptrTo b] from rfl, F132]; dsimp only [plainW]
  have ld : ∀ m1 : M, m1.get b = .cells [v] 31 none → load? Tab.env m1 29 (.pointer (some ⟨b, 0 + 0, none⟩)) = some v := fun m1 h => by rw [load_29, cellAt_of h]; rfl
  unfold ptrTo
  rw [fieldAddr_31_0, onS_some, ld m (hD _ _ h0).1, onS_some, (hD _ _ h0).2.sl.len slt_uw, on2_some]
  refine Lp.intro (γ := Nat) (fun i => l.length - i) (fun i vs m1 lo => ∃ P, vs = [.int .i64 i] ∧ i ≤ l.length ∧ pairsV l = P ++ pairsV (l.drop i) ∧ I P.length m1 ∧ n0 ≤ m1.n ∧ m.n ≤ m1.n ∧ B ≤ lo ∧ ((lo = m.n ∧ P = []) ∨ lo < m.n)) 0
    ⟨[], rfl, Nat.zero_le _, rfl, h0, hn0, Nat.le_refl _, by omega, .inl ⟨rfl, rfl⟩⟩ ?_
  rintro i vs m1 lo1 ⟨P, rfl, hi, hP, hI1, hn1, hmn1, hlo, hlow⟩
  rw [un_cons, bin_lss, onS_some, ifV_bool]
  refine ifB_intro (fun hlt => ?_) (fun hge => ?_)
  · have hlt : i < l.length := by simpa using hlt
    obtain ⟨a, ha⟩ : ∃ a, l[i]? = some a := ⟨_, List.getElem?_eq_getElem hlt⟩
    obtain ⟨q, e1, e2, ow⟩ := (hD _ _ hI1).2.sl.at_uw (k := .i64) ha
    rw [e1, onS_some, e2, onS_some]
    refine onM_push fun m13 hn13 hg13 hk13 => ?_
    refine on2_storeV ty_57 hg13 rfl rfl (Un.c_one ow) fun m14 hn14 hg14 hk14 => ?_
    have hx14 : Ext m1 m14 := ⟨by omega, fun b hb => by rw [hk14 b (by omega), hk13 b hb]⟩
    have hI14 := hI _ _ _ hI1 hx14
    obtain ⟨hb14, hs14⟩ := hD _ _ hI14
    rw [onS_some, ld m14 hb14, onS_some, bin_add, onS_some, wrap64 (by omega) (by omega), show ((i : Int) + 1) = ((i + 1 : Nat) : Int) by omega]
    -- the units behind
    obtain ⟨a', c', hsl, hat⟩ : ∃ a' c', slice? Tab.env m14 29 v (some (.int .i64 ((i + 1 : Nat) : Int))) none none = some (.slice (some a') (l.length - (i + 1)) c') ∧ ∀ (mm : M), FabV mm l v → ∀ j x, l[i + 1 + j]? = some x → ∃ q, indexAddr? Tab.env 29 (.slice (some a') (l.length - (i + 1)) c') (.int .i64 j) = some q ∧ load? Tab.env mm 57 q = some x.v := by
      rcases hs14.cap with h | ⟨ab, o, c, bc, g, hv, hlc, hg, hgg⟩
      · rw [h] at hlt; simp at hlt
      · obtain ⟨a', h1, h2⟩ := slice_fromC (E := Tab.env) (m := m14) (T := 29) (ti := Tab.t29) (e := 57) (b := ab) (cs := bc) (te := 57) (g := g) (n := l.length) (o := o) (c := c) (j := i + 1) ty_29 rfl (by decide) hg hgg hlc hlt
        refine ⟨a', c - (i + 1), by rw [hv]; exact h1, fun mm hmm j x hx => ?_⟩
        have hj := (List.getElem?_eq_some_iff.1 hx).1
        have ha' := h2 (by omega)
        subst ha'
        have hsl := hmm.sl
        rw [hv] at hsl
        have hp := Sl.part (i := i + 1) (k := l.length - (i + 1)) (c' := c - (i + 1)) hsl (by omega)
        have hj2 : ((l.drop (i + 1)).take (l.length - (i + 1)))[j]? = some x := by
          rw [List.getElem?_take_of_lt (by omega), List.getElem?_drop]; exact hx
        obtain ⟨q, q1, q2, _⟩ := hp.at_uw (k := .i64) hj2
        exact ⟨q, q1, q2⟩
    rw [hsl, onS_some]
    have ln : builtin? Tab.env m14 .len [29] [.slice (some a') (l.length - (i + 1)) c'] = some (.int .i64 (l.length - (i + 1) : Nat), m14) := len_29
    rw [ln, on2_some]
    have hP2 := hP
    rw [pairs_drop ha, ← List.append_assoc] at hP2
    have hat0 : ∀ j x, l[i + 1 + j]? = some x → (pairsV l)[P.length + j]? = some [a.v, x.v] := fun j x hx => by
      have hj := (List.getElem?_eq_some_iff.1 hx).1
      have hjd : (l.drop (i + 1))[j]? = some x := by rw [List.getElem?_drop]; exact hx
      rw [hP2, List.append_assoc, List.getElem?_append_right (by omega), Nat.add_sub_cancel_left, List.getElem?_append_left (by rw [List.length_map, List.length_drop]; omega), List.getElem?_map, hjd]; rfl
    refine Lp.intro (γ := Nat) (fun j => l.length - j) (fun j vs m2 lo => vs = [.int .i64 j] ∧ j ≤ l.length - (i + 1) ∧ I (P.length + j) m2 ∧ m1.n < m2.n ∧ m2.get m1.n = .cells a.c 57 none ∧ B ≤ lo ∧ ((lo = m.n ∧ P = [] ∧ j = 0) ∨ lo < m.n)) 0
      ⟨rfl, Nat.zero_le _, hI14, by omega, hg14, by omega, by
        rcases hlow with ⟨h1, h2⟩ | h
        · exact .inl ⟨by omega, h2, rfl⟩
        · exact .inr (by omega)⟩ ?_
    rintro j vs m2 lo2 ⟨rfl, hj, hI2, hn2, hga, hlo2, hlow2⟩
    rw [un_cons, bin_lss, onS_some, ifV_bool]
    refine ifB_intro (fun hlt2 => ?_) (fun hge2 => ?_)
    · have hlt2 : j < l.length - (i + 1) := by simpa using hlt2
      obtain ⟨x, hx⟩ : ∃ x, l[i + 1 + j]? = some x := ⟨_, List.getElem?_eq_getElem (by omega)⟩
      obtain ⟨q, q1, q2⟩ := hat m2 (hD _ _ hI2).2 j x hx
      obtain ⟨_, _, _, ox⟩ := (hD _ _ hI2).2.sl.at_uw (k := .i64) hx
      rw [q1, onS_some, q2, onS_some]
      refine onM_push fun m30 hn30 hg30 hk30 => ?_
      refine on2_storeV ty_57 hg30 rfl rfl (Un.c_one ox) fun m31 hn31 hg31 hk31 => ?_
      have hx31 : Ext m2 m31 := ⟨by omega, fun b hb => by rw [hk31 b (by omega), hk30 b hb]⟩
      rw [load_uw (hx31.cells hga), onS_some, load_uw (x := x) hg31, onS_some, onFn_func]
      obtain ⟨v2, m4, b4, hc, hB4, hy4, hfr, hres⟩ := hyield (P.length + j) [a.v, x.v] m31 (by omega) (hat0 j x hx) (hI _ _ _ hI2 hx31)
      refine onC_of hc ?_
      have hn4 : m31.n ≤ m4.n := hc.1
      rcases hres with ⟨rfl, hI4⟩ | ⟨rfl, hJ4⟩
      · rw [un_not, onS_some, ifV_bool, Bool.not_true, ifB_false, bin_add, onS_some, wrap64 (by omega) (by omega)]
        have hga4 : m4.get m1.n = .cells a.c 57 none := by
          have h31 := hx31.cells hga
          rw [hfr m1.n hn1 (by omega) ⟨_, _, h31⟩, h31]
        exact ⟨j + 1, by omega, rfl, by omega, hI4, by omega, hga4, by omega, .inr (by omega)⟩
      · rw [un_not, onS_some, ifV_bool, Bool.not_false, ifB_true]
        exact .inr ⟨.inr (by omega), by omega, .inr hJ4⟩
    · have hj' : j = l.length - (i + 1) := by
        have : ¬ (j : Int) < ((l.length - (i + 1) : Nat) : Int) := by simpa using hge2
        omega
      have hlenP : (P ++ (l.drop (i + 1)).map fun b => [a.v, b.v]).length = P.length + j := by rw [List.length_append, List.length_map, List.length_drop]; omega
      rw [onS_some]
      refine ⟨i + 1, by omega, _, rfl, by omega, hP2, by rw [hlenP]; exact hI2, by omega, by omega, hlo2, ?_⟩
      rcases hlow2 with ⟨h1, h2, h3⟩ | h
      · refine .inl ⟨h1, ?_⟩
        rw [← List.length_eq_zero_iff, hlenP, h2, h3]; rfl
      · exact .inr h
  · have hi' : i = l.length := by
      have : ¬ (i : Int) < (l.length : Int) := by simpa using hge
      omega
    subst hi'
    have hPl : pairsV l = P := by rw [hP, List.drop_of_length_le (Nat.le_refl _)]; simp [pairsV]
    rw [hPl]
    rcases hlow with ⟨h1, h2⟩ | h
    · subst h2
      exact .inl ⟨rfl, by omega, by omega, .inl h0⟩
    · exact .inr ⟨.inr h, by omega, .inl hI1⟩
end Go.Proofs.YtjecgmfildhpiaaGreatDoor

/- fabric.Valid, putlogref12.Valid. -/
namespace Go.Proofs.YtjecgmfildhpiaaGreatDoor
open Go Go.D
variable {X : CallFn} {m : M}
def pairsU : List UW → List (UW × UW)
  | [] => []
  | a :: r => r.map (fun b => (a, b)) ++ pairsU r
theorem pairsV_eq : ∀ l : List UW, pairsV l = (pairsU l).map fun p => [p.1.v, p.2.v]
  | [] => rfl
  | a :: r => by
    rw [pairs_cons, pairsU, List.map_append, List.map_map, pairsV_eq r]
    rfl
theorem pairsU_mem : ∀ {l : List UW} {p : UW × UW}, p ∈ pairsU l → p.1 ∈ l ∧ p.2 ∈ l ∧ ∃ (i j : Nat), i < j ∧ l[i]? = some p.1 ∧ l[j]? = some p.2
  | [], p, h => by cases h
  | a :: r, p, h => by
    rw [pairsU] at h
    rcases List.mem_append.1 h with h | h
    · obtain ⟨b, hb, rfl⟩ := List.mem_map.1 h
      obtain ⟨j, hj⟩ := List.getElem?_of_mem hb
      exact ⟨by simp, by simp [hb], 0, j + 1, by omega, rfl, by simpa using hj⟩
    · obtain ⟨h1, h2, i, j, h3, h4, h5⟩ := pairsU_mem h
      exact ⟨by simp [h1], by simp [h2], i + 1, j + 1, by omega, by simpa using h4, by simpa using h5⟩
theorem pairsU_of : ∀ {l : List UW} (i j : Nat) (a b : UW), i < j → l[i]? = some a → l[j]? = some b → (a, b) ∈ pairsU l := by
  intro l
  induction l with
  | nil => intro i j a b _ ha; simp at ha
  | cons x r ih =>
    intro i j a b hij ha hb
    rw [pairsU, List.mem_append]
    match i, j, hij with
    | 0, j + 1, _ =>
      have ha : x = a := by simpa using ha
      subst ha
      have hb : r[j]? = some b := by simpa using hb
      exact .inl (List.mem_map.2 ⟨b, List.mem_of_getElem? hb, rfl⟩)
    | i + 1, j + 1, hij => exact .inr (ih i j a b (by omega) (by simpa using ha) (by simpa using hb))
theorem pairs_at {l : List UW} {k : Nat} {args : List Value} (h : (pairsV l)[k]? = some args) : ∃ p, (pairsU l)[k]? = some p ∧ args = [p.1.v, p.2.v] := by
  rw [pairsV_eq, List.getElem?_map] at h
  cases hp : (pairsU l)[k]? with
  | none => rw [hp] at h; cases h
  | some p => rw [hp] at h; cases h; exact ⟨p, rfl, rfl⟩
theorem pairs_ok (hX : NoX X) {v : Value} (hv : cells v = [v]) : ∃ m', C X (.func 94) [.agg #[v]] m m.n (.func (.func 132) #[] #[ptrTo m.n]) m' ∧ Ext m m' ∧ m'.n = m.n + 1 ∧ m'.get m.n = .cells [v] 31 none := by
  have key : ∃ r m' b, C X (.func 94) [.agg #[v]] m b r m' ∧ b = m.n ∧ r = .func (.func 132) #[] #[ptrTo m.n] ∧ Ext m m' ∧ m'.n = m.n + 1 ∧ m'.get m.n = .cells [v] 31 none := by
    refine Cl.heap (R := fun r m' b => b = m.n ∧ r = .func (.func 132) #[] #[ptrTo m.n] ∧ Ext m m' ∧ m'.n = m.n + 1 ∧ m'.get m.n = .cells [v] 31 none) (hX.no _ rfl) fn_94 rfl ?_
    rw [F94]; dsimp only [plainW]
    refine onM_push fun m1 hn1 hg1 hk1 => ?_
    exact ⟨.inl rfl, by omega, rfl, ⟨by omega, hk1⟩, hn1, hg1⟩
  obtain ⟨r, m', b, hc, rfl, rfl, h1, h2, h3⟩ := key
  exact ⟨m', hc, h1, h2, h3⟩
/-- The number of a unit in a row. -/
theorem uw_id {l : List UW} {v : Value} (h : Sl m l v) {i : Nat} {x : UW} (hx : l[i]? = some x) : ∃ a a0, indexAddr? Tab.env 29 v (.int .i64 i) = some a ∧ fieldAddr? Tab.env 57 a 0 = some a0 ∧ load? Tab.env m 3 a0 = some (.int .i64 x.u.id) := by
  obtain ⟨b, o, bc, g, cs, e1, hb, hr, _, hj⟩ := h.indexA slt_uw (k := .i64) hx
  obtain ⟨rfl, _⟩ := hr
  refine ⟨_, _, e1, fieldAddr_57_0, ?_⟩
  rw [load_3, cellAt_of hb, hj 0 (by decide)]; rfl
theorem asc_no {l : List UW} {i : Nat} {a b : UW} (ha : l[i]? = some a) (hb : l[i + 1]? = some b) (h : b.u.id ≤ a.u.id) : ¬ FabP (us' l) := fun hf => by
  have := hf.asc i _ _ (us_at ha) (us_at hb)
  omega
theorem val_no {l : List UW} {a : UW} (ha : a ∈ l) (h : unB a.u = false) : ¬ FabP (us' l) := fun hf => by
  have := hf.val a.u (List.mem_map.2 ⟨a, ha, rfl⟩)
  rw [h] at this
  cases this
theorem apart_no {l : List UW} {i j : Nat} {a b : UW} (hij : i < j) (ha : l[i]? = some a) (hb : l[j]? = some b) (h : overU a.u b.u = true) : ¬ FabP (us' l) := fun hf => by
  have := hf.apart i j _ _ hij (us_at ha) (us_at hb)
  rw [h] at this
  cases this
set_option maxRecDepth 100000 in
theorem fvalid_ok (hX : NoX X) {l : List UW} {v : Value} (h : FabV m l v) (hlen : l.length < 1000000) : C X (.func 47) [.agg #[v]] m m.n (.bool (fabB (us' l))) m := by
  refine Cl.flat (hX.no _ rfl) fn_47 rfl rfl ?_
  rw [F47]; dsimp only [plainW]
  refine onM_push fun m1 hn1 hg1 hk1 => ?_
  refine onM_push fun m2 hn2 hg2 hk2 => ?_
  have hx2 : Ext m m2 := ⟨by omega, fun c hc => by rw [hk2 c (by omega), hk1 c hc]⟩
  have g1 : m2.get m.n = .cells [v] 31 none := by rw [hk2 _ (by omega), hg1]; rfl
  have ldF : ∀ mm : M, Ext m2 mm → load? Tab.env mm 29 (.pointer (some ⟨m.n, 0 + 0, none⟩)) = some v := fun mm hx => by rw [load_29, cellAt_of (hx.cells g1)]; rfl
  have hno : ∀ (mm : M) (lo : Nat), Ext m2 mm → m.n ≤ lo → ¬ FabP (us' l) → on2 (store? Tab.env mm 4 (.pointer (some ⟨m1.n, 0, none⟩)) (.bool false)) fun m7 b8 => onS (load? Tab.env m7 4 (.pointer (some ⟨m1.n, 0, none⟩))) fun v9 => mkres [v9] = .bool (fabB (us' l)) ∧ m.n ≤ min lo b8 := by
    intro mm lo hx hlo hn
    refine on2_storeV ty_4 (hx.cells hg2) rfl rfl rfl fun m7 hn7 hg7 hk7 => ?_
    rw [load_4, cellAt_of hg7]
    show onS (some (Value.bool false)) _
    rw [onS_some, fabB_false hn]
    exact ⟨rfl, by omega⟩
  unfold ptrTo
  rw [fieldAddr_31_0, onS_some, ldF m2 .refl, onS_some, (h.sl.keepE hx2).len slt_uw, on2_some, bin_gtr, onS_some, ifV_bool]
  refine ifB_intro (fun hgt => ?_) (fun hle => ?_)
  · have hgt : (12 : Int) < l.length := by simpa using hgt
    exact hno m2 m.n .refl (Nat.le_refl _) fun hf => by have := hf.len; rw [us_len] at this; omega
  have hle : ¬ (12 : Int) < l.length := by simpa using hle
  rw [onS_some, ldF m2 .refl, onS_some, (h.sl.keepE hx2).len slt_uw, on2_some]
  refine Lp.intro (γ := Nat) (fun i => l.length - i) (fun i vs mm lo => vs = [.int .i64 i] ∧ i ≤ l.length ∧ Ext m2 mm ∧ m.n ≤ lo ∧ (∀ j x, j < i → l[j]? = some x → unB x.u = true) ∧ (∀ j a b, j + 1 < i → l[j]? = some a → l[j + 1]? = some b → a.u.id < b.u.id)) 0
    ⟨rfl, Nat.zero_le _, .refl, Nat.le_refl _, fun j x hj => by omega, fun j a b hj => by omega⟩ ?_
  rintro i vs mm lo ⟨rfl, hi, hx, hlo, hval, hasc⟩
  rw [un_cons, bin_lss, onS_some, ifV_bool]
  have hnm := hx.n
  refine ifB_intro (fun hlt => ?_) (fun hge => ?_)
  · have hlt : i < l.length := by simpa using hlt
    obtain ⟨x, hxi⟩ : ∃ a, l[i]? = some a := ⟨_, List.getElem?_eq_getElem hlt⟩
    have hxm := List.mem_of_getElem? hxi
    have hslm := h.sl.keepE (hx2.trans hx)
    obtain ⟨q, e1, e2, ow⟩ := hslm.at_uw (k := .i64) hxi
    rw [e1, onS_some, e2, onS_some]
    refine onM_push fun m22 hn22 hg22 hk22 => ?_
    refine on2_storeV ty_57 hg22 rfl rfl (Un.c_one ow) fun m23 hn23 hg23 hk23 => ?_
    have hx23 : Ext mm m23 := ⟨by omega, fun b hb => by rw [hk23 b (by omega), hk22 b hb]⟩
    have g23 : m23.get mm.n = .cells (x.u.c x.w) 57 none := hg23
    have hmx := (hx2.trans hx).trans hx23
    refine jn_of (fun vs m' lo => ∃ bad, vs = [.bool bad] ∧ m23 = m' ∧ m.n ≤ lo ∧ (bad = true → ¬ FabP (us' l)) ∧ (bad = false → unB x.u = true ∧ ∀ a, 0 < i → l[i - 1]? = some a → a.u.id < x.u.id)) (fun R hR => ?_) ?_
    · rw [load_un g23, onS_some]
      refine onC_of (uvalid_ok hX ((h.sh x hxm).keepE hmx) (by have := h.ln x hxm; omega)) ?_
      rw [un_not, onS_some, ifV_bool]
      refine ifB_intro (fun hb => ?_) (fun hb => ?_)
      · exact hR _ _ _ ⟨true, rfl, rfl, by omega, fun _ => val_no hxm (by simpa using hb), fun h => by cases h⟩
      have hb : unB x.u = true := by simpa using hb
      rw [bin_gtr, onS_some, ifV_bool]
      refine ifB_intro (fun hp => ?_) (fun hp => ?_)
      · have hp : 0 < i := by simpa using hp
        obtain ⟨a, ha⟩ : ∃ a, l[i - 1]? = some a := ⟨_, List.getElem?_eq_getElem (by omega)⟩
        obtain ⟨l0, -⟩ := unf g23
        obtain ⟨q, q0, f1, f2, f3⟩ := uw_id (h.sl.keepE hmx) ha
        rw [fieldAddr_57_0, onS_some, l0, onS_some, onS_some, ldF m23 (hx.trans hx23), onS_some, bin_sub, onS_some, wrap64 (by omega) (by omega), show ((i : Int) - 1) = ((i - 1 : Nat) : Int) by omega, f1, onS_some, f2, onS_some, f3, onS_some, bin_leq, onS_some]
        refine hR _ _ _ ⟨_, rfl, rfl, by omega, fun hh => ?_, fun hh => ⟨hb, fun a' _ ha' => ?_⟩⟩
        · have hh : x.u.id ≤ a.u.id := by simpa using hh
          exact asc_no ha (by rw [Nat.sub_add_cancel hp]; exact hxi) hh
        · rw [ha] at ha'; cases ha'
          have hh : ¬ x.u.id ≤ a.u.id := by simpa using hh
          omega
      · have hp : ¬ 0 < i := by simpa using hp
        exact hR _ _ _ ⟨false, rfl, rfl, by omega, fun h => (by cases h), fun _ => ⟨hb, fun a h => absurd h hp⟩⟩
    rintro _ _ lo' ⟨bad, rfl, rfl, hlo', hbad, hgood⟩
    rw [un_cons, ifV_bool]
    refine ifB_intro (fun hb => ?_) (fun hb => ?_)
    · exact hno m23 lo' (hx.trans hx23) hlo' (hbad hb)
    · obtain ⟨h1, h2⟩ := hgood hb
      rw [bin_add, onS_some, wrap64 (by omega) (by omega)]
      refine ⟨i + 1, by omega, rfl, by omega, hx.trans hx23, hlo', fun j y hj hy => ?_, fun j a b hj ha hb' => ?_⟩
      · by_cases e : j = i
        · subst e; rw [hxi] at hy; cases hy; exact h1
        · exact hval j y (by omega) hy
      · by_cases e : j + 1 = i
        · subst e; rw [hxi] at hb'; cases hb'; exact h2 a (by omega) (by simpa using ha)
        · exact hasc j a b (by omega) ha hb'
  have hi' : i = l.length := by
    have : ¬ (i : Int) < (l.length : Int) := by simpa using hge
    omega
  subst hi'
  have g1m := hx.cells g1
  rw [load_31, loadCells_of g1m (by simp)]
  show onS (some (Value.agg #[v])) _
  rw [onS_some]
  obtain ⟨m52, hc52, hx52, hn52, hg52⟩ := pairs_ok (m := mm) hX h.sl.cells
  refine onC_of hc52 ?_
  rw [onFn_func]
  have hxm52 := (hx2.trans hx).trans hx52
  have gr : m52.get m1.n = .cells [.bool false] 4 none := hx52.cells (hx.cells hg2)
  refine ⟨_, pairsV l, _, fun k m' => m52.n ≤ m'.n ∧ (∀ c, c < m52.n → m'.get c = m52.get c) ∧ ∀ k' p, k' < k → (pairsU l)[k']? = some p → overU p.1.u p.2.u = false,
    fun e m' => e = .ret ∧ m'.get m1.n = .cells [.bool false] 4 none ∧ ¬ FabP (us' l), m.n, ⟨_, rfl⟩, pairs_gen hX (v := v) (b := mm.n) hlen, by omega, ?_, ?_, ?_, ⟨Nat.le_refl _, fun _ _ => rfl, fun k' p hk => by omega⟩, ?_, ?_, ?_⟩
  · rintro k m' ⟨h1, h2, h3⟩
    have he : Ext m52 m' := ⟨h1, h2⟩
    exact ⟨by rw [h2 _ (by omega), hg52], (h.keepE hxm52).keepE he⟩
  · rintro k m' m'' ⟨h1, h2, h3⟩ hk
    exact ⟨by have := hk.n; omega, fun c hc => by rw [hk.get c (by omega) (by omega), h2 c hc], h3⟩
  · rintro e m' m'' ⟨h1, h2, h3⟩ hk
    have := M.lt_of_get h2
    exact ⟨h1, by rw [hk.get _ this (by omega), h2], h3⟩
  · rintro k args m55 hn55 hxk ⟨h1, h2, h3⟩
    obtain ⟨⟨a, b⟩, hp, rfl⟩ := pairs_at hxk
    obtain ⟨ha, hb, i', j', hij, hai, hbj⟩ := pairsU_mem (List.mem_of_getElem? hp)
    have he55 : Ext m52 m55 := ⟨h1, h2⟩
    have hF := (h.keepE hxm52).keepE he55
    have oa : one a.w = true := (hF.sh a ha).one
    have ob : one b.w = true := (hF.sh b hb).one
    rw [un_cons, un_cons]
    show unE [] _
    unfold unE
    refine onM_push fun m61 hn61 hg61 hk61 => ?_
    refine on2_storeV ty_57 hg61 rfl rfl (Un.c_one oa) fun m62 hn62 hg62 hk62 => ?_
    refine onM_push fun m64 hn64 hg64 hk64 => ?_
    refine on2_storeV ty_57 hg64 rfl rfl (Un.c_one ob) fun m65 hn65 hg65 hk65 => ?_
    have old : ∀ c, c < m55.n → m65.get c = m55.get c := fun c hc => by rw [hk65 c (by omega), hk64 c (by omega), hk62 c (by omega), hk61 c hc]
    refine ⟨fun c _ hc => old c hc, fun m67 hn67 hk67 => ?_⟩
    dsimp only
    have r1 : m67.get m55.n = .cells (a.u.c a.w) 57 none := by rw [hk67 _ (by omega), hk65 _ (by omega), hk64 _ (by omega), hg62]; rfl
    have r2 : m67.get m62.n = .cells (b.u.c b.w) 57 none := by rw [hk67 _ (by omega), hg65]; rfl
    have o67 : ∀ c, c < m52.n → m67.get c = m52.get c := fun c hc => by rw [hk67 c (by omega), old c (by omega), h2 c hc]
    have he67 : Ext m52 m67 := ⟨by omega, o67⟩
    have hF67 := (h.keepE hxm52).keepE he67
    rw [load_un r1, onS_some, load_un r2, onS_some]
    refine onC_of (uoverlap_ok hX (hF67.sh a ha) (hF67.sh b hb) (by have := h.ln a ha; omega) (by have := h.ln b hb; omega)) ?_
    rw [ifV_bool]
    refine ifB_intro (fun ho => ?_) (fun ho => ?_)
    · refine on2_storeV ty_4 (he67.cells gr) rfl rfl rfl fun m73 hn73 hg73 hk73 => ?_
      exact ⟨by omega, fun c h1c h2c _ => hk73 c (by omega), rfl, hg73, apart_no hij hai hbj ho⟩
    · refine ⟨by omega, fun c _ _ _ => rfl, by omega, o67, fun k' p hk' hp' => ?_⟩
      by_cases e : k' = k
      · subst e; rw [hp] at hp'; cases hp'; exact ho
      · exact h3 k' p (by omega) hp'
  · rintro m' lo2 ⟨h1, h2, h3⟩ hlo2
    have gr' : m'.get m1.n = .cells [.bool false] 4 none := by rw [h2 _ (by omega)]; exact gr
    refine on2_storeV ty_4 gr' rfl rfl rfl fun m77 hn77 hg77 hk77 => ?_
    rw [load_4, cellAt_of hg77]
    show onS (some (Value.bool true)) _
    rw [onS_some]
    refine ⟨?_, by omega⟩
    rw [fabB_true]
    · rfl
    refine ⟨by rw [us_len]; omega, fun u hu => ?_, fun i a b ha hb => ?_, fun i k a b hik ha hb => ?_⟩
    · obtain ⟨x, hx, rfl⟩ := us_mem hu
      obtain ⟨j, hj⟩ := List.getElem?_of_mem hx
      exact hval j x (List.getElem?_eq_some_iff.1 hj).1 hj
    · obtain ⟨x, hx, rfl⟩ := us_get ha
      obtain ⟨y, hy, rfl⟩ := us_get hb
      exact hasc i x y (List.getElem?_eq_some_iff.1 hy).1 hx hy
    · obtain ⟨x, hx, rfl⟩ := us_get ha
      obtain ⟨y, hy, rfl⟩ := us_get hb
      have := pairsU_of i k x y hik hx hy
      obtain ⟨k', hk'⟩ := List.getElem?_of_mem this
      have hkl := (List.getElem?_eq_some_iff.1 hk').1
      exact h3 k' (x, y) (by rw [pairsV_eq, List.length_map]; exact hkl) hk'
  · rintro e m' lo2 hne ⟨rfl, h2, h3⟩ hlo2
    refine ⟨_, List.mem_singleton.2 rfl, rfl, ?_⟩
    dsimp only
    rw [load_4, cellAt_of h2]
    show onS (some (Value.bool false)) _
    rw [onS_some, fabB_false h3]
    exact ⟨rfl, by omega⟩
set_option maxRecDepth 100000 in
theorem rfvalid_ok (hX : NoX X) {l : List UW} {v : Value} (h : FabV m l v) (hlen : l.length < 1000000) : C X (.func 49) [.agg #[v]] m m.n (.bool (fabB (us' l))) m := by
  refine Cl.flat (hX.no _ rfl) fn_49 rfl rfl ?_
  rw [F49]; dsimp only [plainW]
  refine onM_push fun m1 hn1 hg1 hk1 => ?_
  have hx1 : Ext m m1 := ⟨by omega, hk1⟩
  have g1 : m1.get m.n = .cells [v] 31 none := hg1
  have ldF : load? Tab.env m1 29 (.pointer (some ⟨m.n, 0 + 0, none⟩)) = some v := by rw [load_29, cellAt_of g1]; rfl
  have h1 := h.keepE hx1
  unfold ptrTo
  rw [fieldAddr_31_0, onS_some, ldF, onS_some, h1.sl.len slt_uw, on2_some, bin_gtr, onS_some, ifV_bool]
  refine ifB_intro (fun hgt => ?_) (fun hle => ?_)
  · have hgt : (12 : Int) < l.length := by simpa using hgt
    refine ⟨?_, Nat.le_refl _⟩
    rw [fabB_false fun hf => by have := hf.len; rw [us_len] at this; omega]; rfl
  have hle : ¬ (12 : Int) < l.length := by simpa using hle
  have hno : ∀ (lo : Nat), m.n ≤ lo → ¬ FabP (us' l) → mkres [Value.bool false] = .bool (fabB (us' l)) ∧ m.n ≤ lo := fun lo hlo hn => ⟨by rw [fabB_false hn]; rfl, hlo⟩
  refine Lp.intro (γ := Nat) (fun i => l.length - i) (fun i vs mm lo => vs = [.bool false, .int .i64 i] ∧ i ≤ l.length ∧ m1 = mm ∧ m.n ≤ lo ∧ (∀ j x, j < i → l[j]? = some x → unB x.u = true) ∧ (∀ j a b, j + 1 < i → l[j]? = some a → l[j + 1]? = some b → a.u.id < b.u.id) ∧ (∀ j k a b, k < i → j < k → l[j]? = some a → l[k]? = some b → overU a.u b.u = false)) 0
    ⟨rfl, Nat.zero_le _, rfl, Nat.le_refl _, fun j x hj => by omega, fun j a b hj => by omega, fun j k a b hk => by omega⟩ ?_
  rintro i vs mm lo ⟨rfl, hi, rfl, hlo, hval, hasc, hap⟩
  rw [un_cons, un_cons, onS_some, ldF, onS_some, h1.sl.len slt_uw, on2_some, bin_lss, onS_some, ifV_bool]
  refine ifB_intro (fun hlt => ?_) (fun hge => ?_)
  · have hlt : i < l.length := by simpa using hlt
    obtain ⟨x, hxi⟩ : ∃ a, l[i]? = some a := ⟨_, List.getElem?_eq_getElem hlt⟩
    have hxm := List.mem_of_getElem? hxi
    obtain ⟨q, e1, e2, ow⟩ := h1.sl.at_uw (k := .i64) hxi
    refine jn_of (fun vs m' lo => ∃ bad, vs = [.bool bad] ∧ m1 = m' ∧ m.n ≤ lo ∧ (bad = true → ¬ FabP (us' l)) ∧ (bad = false → unB x.u = true ∧ ∀ a, 0 < i → l[i - 1]? = some a → a.u.id < x.u.id)) (fun R hR => ?_) ?_
    · rw [onS_some, ldF, onS_some, e1, onS_some, e2, onS_some]
      refine onC_of (ruvalid_ok hX (u := x.u) (w := x.w) (h1.sh x hxm) (by have := h.ln x hxm; omega)) ?_
      rw [un_not, onS_some, ifV_bool]
      refine ifB_intro (fun hb => ?_) (fun hb => ?_)
      · exact hR _ _ _ ⟨true, rfl, rfl, by omega, fun _ => val_no hxm (by simpa using hb), fun h => by cases h⟩
      have hb : unB x.u = true := by simpa using hb
      rw [bin_gtr, onS_some, ifV_bool]
      refine ifB_intro (fun hp => ?_) (fun hp => ?_)
      · have hp : 0 < i := by simpa using hp
        obtain ⟨a, ha⟩ : ∃ a, l[i - 1]? = some a := ⟨_, List.getElem?_eq_getElem (by omega)⟩
        obtain ⟨q, q0, f1, f2, f3⟩ := uw_id h1.sl ha
        obtain ⟨q', q0', f1', f2', f3'⟩ := uw_id h1.sl hxi
        rw [onS_some, ldF, onS_some, f1', onS_some, f2', onS_some, f3', onS_some, onS_some, ldF, onS_some, bin_sub, onS_some, wrap64 (by omega) (by omega), show ((i : Int) - 1) = ((i - 1 : Nat) : Int) by omega, f1, onS_some, f2, onS_some, f3, onS_some, bin_leq, onS_some]
        refine hR _ _ _ ⟨_, rfl, rfl, by omega, fun hh => ?_, fun hh => ⟨hb, fun a' _ ha' => ?_⟩⟩
        · have hh : x.u.id ≤ a.u.id := by simpa using hh
          exact asc_no ha (by rw [Nat.sub_add_cancel hp]; exact hxi) hh
        · rw [ha] at ha'; cases ha'
          have hh : ¬ x.u.id ≤ a.u.id := by simpa using hh
          omega
      · have hp : ¬ 0 < i := by simpa using hp
        exact hR _ _ _ ⟨false, rfl, rfl, by omega, fun h => (by cases h), fun _ => ⟨hb, fun a h => absurd h hp⟩⟩
    rintro _ _ lo' ⟨bad, rfl, rfl, hlo', hbad, hgood⟩
    rw [un_cons, ifV_bool]
    refine ifB_intro (fun hb => hno lo' hlo' (hbad hb)) (fun hb => ?_)
    obtain ⟨h1', h2'⟩ := hgood hb
    refine Lp.intro (γ := Nat) (fun k => i - k) (fun k vs mm lo => vs = [.bool false, .int .i64 k] ∧ k ≤ i ∧ m1 = mm ∧ m.n ≤ lo ∧ ∀ j a, j < k → l[j]? = some a → overU a.u x.u = false) 0 ⟨rfl, Nat.zero_le _, rfl, hlo', fun j a hj => by omega⟩ ?_
    rintro k vs mm lo2 ⟨rfl, hk, rfl, hlo2, hov⟩
    rw [un_cons, un_cons, bin_lss, onS_some, ifV_bool]
    refine ifB_intro (fun hlt2 => ?_) (fun hge2 => ?_)
    · have hlt2 : k < i := by simpa using hlt2
      obtain ⟨y, hyk⟩ : ∃ a, l[k]? = some a := ⟨_, List.getElem?_eq_getElem (by omega)⟩
      have hym := List.mem_of_getElem? hyk
      obtain ⟨q', e1', e2', _⟩ := h1.sl.at_uw (k := .i64) hyk
      rw [onS_some, ldF, onS_some, e1, onS_some, e2, onS_some, onS_some, ldF, onS_some, e1', onS_some, e2', onS_some]
      refine onC_of (ruoverlap_ok hX (a := x.u) (va := x.w) (b := y.u) (vb := y.w) (h1.sh x hxm) (h1.sh y hym) (by have := h.ln x hxm; omega) (by have := h.ln y hym; omega)) ?_
      rw [ifV_bool]
      refine ifB_intro (fun ho => ?_) (fun ho => ?_)
      · exact hno _ (by omega) (apart_no hlt2 hyk hxi (by rw [overU_comm]; exact ho))
      · rw [bin_add, onS_some, wrap64 (by omega) (by omega)]
        refine ⟨k + 1, by omega, rfl, by omega, rfl, by omega, fun j a hj ha => ?_⟩
        by_cases e : j = k
        · subst e; rw [hyk] at ha; cases ha; rw [overU_comm]; exact ho
        · exact hov j a (by omega) ha
    · have hk' : k = i := by
        have : ¬ (k : Int) < (i : Int) := by simpa using hge2
        omega
      subst hk'
      rw [bin_add, onS_some, wrap64 (by omega) (by omega)]
      refine ⟨k + 1, by omega, rfl, by omega, rfl, hlo2, fun j y hj hy => ?_, fun j a b hj ha hb' => ?_, fun j k' a b hk' hj ha hb' => ?_⟩
      · by_cases e : j = k
        · subst e; rw [hxi] at hy; cases hy; exact h1'
        · exact hval j y (by omega) hy
      · by_cases e : j + 1 = k
        · subst e; rw [hxi] at hb'; cases hb'; exact h2' a (by omega) (by simpa using ha)
        · exact hasc j a b (by omega) ha hb'
      · by_cases e : k' = k
        · subst e; rw [hxi] at hb'; cases hb'; exact hov j a hj ha
        · exact hap j k' a b (by omega) hj ha hb'
  · have hi' : i = l.length := by
      have : ¬ (i : Int) < (l.length : Int) := by simpa using hge
      omega
    subst hi'
    refine ⟨?_, hlo⟩
    rw [fabB_true]
    · rfl
    refine ⟨by rw [us_len]; omega, fun u hu => ?_, fun i a b ha hb => ?_, fun i k a b hik ha hb => ?_⟩
    · obtain ⟨x, hx, rfl⟩ := us_mem hu
      obtain ⟨j, hj⟩ := List.getElem?_of_mem hx
      exact hval j x (List.getElem?_eq_some_iff.1 hj).1 hj
    · obtain ⟨x, hx, rfl⟩ := us_get ha
      obtain ⟨y, hy, rfl⟩ := us_get hb
      exact hasc i x y (List.getElem?_eq_some_iff.1 hy).1 hx hy
    · obtain ⟨x, hx, rfl⟩ := us_get ha
      obtain ⟨y, hy, rfl⟩ := us_get hb
      exact hap i k x y (List.getElem?_eq_some_iff.1 hy).1 hik hx hy
end Go.Proofs.YtjecgmfildhpiaaGreatDoor

/- putlogref12: pick, copied, Block. -/
namespace Go.Proofs.YtjecgmfildhpiaaGreatDoor
open Go Go.D
variable {X : CallFn} {m : M}
theorem wr_R64 (x : Int) : R64 (IntKind.i64.wrap x) := by
  have h := wr_eq x
  unfold wr at h
  unfold R64
  rw [h]
  split <;> omega
theorem rpick_ok (hX : NoX X) {c n : Int} (hc : R64 c) (hn : 0 < n) : C X (.func 42) [.int .i64 c, .int .i64 n] m m.n (.int .i64 (pickZ c n)) m := by
  refine Cl.flat (hX.no _ rfl) fn_42 rfl rfl ?_
  rw [F42]; dsimp only [plainW]
  exact pick_form hc hn (P := fun v => mkres [v] = .int .i64 (pickZ c n) ∧ m.n ≤ m.n) ⟨rfl, Nat.le_refl _⟩
/-- putlogref12.copied -/
theorem copied_ok (hX : NoX X) {u : Un} {w : Value} (hw : Sl m u.shape w) (hl : u.shape.length < 1000000) :
    ∃ w' m', C X (.func 45) [u.v w] m m.n (u.v w') m' ∧ Ext m m' ∧ Sl m' u.shape w' := by
  have key : ∃ r m' b, C X (.func 45) [u.v w] m b r m' ∧ b = m.n ∧ ∃ w', r = u.v w' ∧ Ext m m' ∧ Sl m' u.shape w' := by
    refine Cl.heap (R := fun r m' b => b = m.n ∧ ∃ w', r = u.v w' ∧ Ext m m' ∧ Sl m' u.shape w') (hX.no _ rfl) fn_45 rfl ?_
    rw [F45]; dsimp only [plainW]
    refine onM_push fun m1 hn1 hg1 hk1 => ?_
    refine onM_push fun m2 hn2 hg2 hk2 => ?_
    simp only [cells_agg] at hg1
    have hx2 : Ext m m2 := ⟨by omega, fun c hc => by rw [hk2 c (by omega), hk1 c hc]⟩
    have g1 : m2.get m.n = .cells (u.c w) 57 none := by rw [hk2 _ (by omega)]; exact hg1
    unfold ptrTo
    rw [buildSlice_pl0, on2_some]
    have hx4 : Ext m2 (m2.push (.cells [] 64 none)) := Ext.refl.push
    generalize hm4 : m2.push (.cells [] 64 none) = m4 at *
    have hg4 : m4.get m2.n = .cells [] 64 none := by rw [← hm4]; exact M.get_push_new
    have hn4 : m4.n = m2.n + 1 := by rw [← hm4]; rfl
    have g14 := hx4.cells g1
    obtain ⟨-, -, -, l3, -, -⟩ := unf g14
    rw [fieldAddr_57_3, onS_some, l3, onS_some]
    obtain ⟨v7, m8, ha, hs8, hx8, hl8, hfl⟩ : ∃ v' m1, builtin? Tab.env (m4.wl m4.n) .append [45, 45] [.slice (some ⟨m2.n, 0, none⟩) 0 0, w] = some (v', m1) ∧ Sl m1 u.shape v' ∧ Ext m4 m1 ∧ m1.low = m4.n ∧ ∃ a n c, v' = .slice (some a) n c := by
      have hw4 := (hw.keepE hx2).keepE hx4
      by_cases he : u.shape = []
      · rw [he] at hw4 ⊢
        obtain ⟨a, c, rfl⟩ := hw4.form
        refine ⟨.slice (some ⟨m2.n, 0, none⟩) 0 0, m4.wl m4.n, ?_, .inr ⟨m2.n, 0, 0, [], none, rfl, hg4, by simp, fun i x hi => by simp at hi⟩, ⟨Nat.le_refl _, fun _ _ => rfl⟩, rfl, _, _, _, rfl⟩
        cases a with
        | none => kernel_rfl
        | some a => kernel_rfl
      · obtain ⟨v', m1, h1, h2, h3, h4⟩ := append_copy apt_pl hg4 hw4 he (by omega)
        obtain ⟨a, c, hv⟩ := h2.sl.form
        refine ⟨v', m1, h1, h2.sl, h3, h4, ?_⟩
        rcases h2 with ⟨_, h⟩ | ⟨b, cs, rfl, _⟩
        · exact absurd h he
        · exact ⟨_, _, _, rfl⟩
    rw [ha, on2_some, onS_some]
    have n8 := hx8.n
    have g18 := hx8.cells g14
    have o7 : one v7 = true := hs8.one
    refine on2_store ty_45 g18 (by rw [hs8.cells]; rfl) (by rw [hs8.cells]; simp) (by rw [hs8.cells]; simp [o7]) fun m10 hn10 hg10 hk10 => ?_
    have hg10 : m10.get m.n = .cells (u.c v7) 57 none := by rw [hg10, hs8.cells]; rfl
    rw [load_un hg10, onS_some]
    have g210 : m10.get m1.n = .cells Un.zc 57 none := by rw [hk10 _ (by omega), hx8.get _ (by omega), hx4.get _ (by omega), hg2]
    refine on2_storeV ty_57 g210 rfl rfl (Un.c_one o7) fun m13 hn13 hg13 hk13 => ?_
    have hg13 : m13.get m1.n = .cells (u.c v7) 57 none := hg13
    rw [load_un hg13, onS_some]
    obtain ⟨a, n, c, rfl⟩ := hfl
    refine ⟨.inl ?_, by omega, _, rfl, ⟨by omega, fun b hb => by rw [hk13 b (by omega), hk10 b (by omega), hx8.get b (by omega), hx4.get b (by omega), hx2.get b hb]⟩, ?_⟩
    · show flat2 (u.v (.slice (some a) n c)) = false
      simp [flat2, flat1, flat0]
    · refine hs8.keep fun b cs t g hb ht => ?_
      have hne1 : b ≠ m.n := by
        rintro rfl
        rw [g18] at hb; cases hb
        revert ht
        decide
      have hne2 : b ≠ m1.n := by
        rintro rfl
        rw [hx8.get _ (by omega), hx4.get _ (by omega), hg2] at hb; cases hb
        revert ht
        decide
      rw [hk13 b hne2, hk10 b hne1, hb]
  obtain ⟨r, m', b, hc, rfl, w', rfl, h1, h2⟩ := key
  exact ⟨w', m', hc, h1, h2⟩
theorem idx6 {b o : Nat} {k : IntKind} {i : Nat} (hi : i < 6) : indexAddr? Tab.env 91 (.pointer (some ⟨b, o, none⟩)) (.int k i) = some (.pointer (some ⟨b, o + i, none⟩)) := by
  rcases (show i = 0 ∨ i = 1 ∨ i = 2 ∨ i = 3 ∨ i = 4 ∨ i = 5 by omega) with rfl | rfl | rfl | rfl | rfl | rfl <;> kernel_rfl
set_option maxRecDepth 100000 in
theorem block_tail (hX : NoX X) {R : List Value → M → Nat → Prop} {b6 rc lo0 : Nat} {mm : M} {w : Value} {shp : List Pl} {n i0 i1 i2 i3 i4 i5 : Int} (hb : mm.get b6 = .cells [.int .i64 i0, .int .i64 i1, .int .i64 i2, .int .i64 i3, .int .i64 i4, .int .i64 i5] 91 none)
    (hr : mm.get rc = .cells Un.zc 57 none) (hw : Sl mm shp w) (hn : R64 n) (h5 : R64 i5)
    (hR : ∀ (u : Un) (m' : M) (lo : Nat), u.shape = shp → mm.n = m'.n → m'.get rc = .cells (u.c w) 57 none → (∀ c, c ≠ rc → m'.get c = mm.get c) → min lo0 (min rc mm.n) ≤ lo → R [u.v w] m' lo) :
    (onS (indexAddr? Tab.env 91 (.pointer (some ⟨b6, 0, none⟩)) (.int .i64 5)) fun v323 => (onS (load? Tab.env mm 3 v323) fun v324 => (onC Tab.env X (.func 42) [v324, (.int .i64 4)] mm fun v325 m326 b327 => (onS (bin? Tab.env .eql 3 v325 (.int .i64 3)) fun v328 => (ifV v328
(onS (indexAddr? Tab.env 91 (.pointer (some ⟨b6, 0, none⟩)) (.int .i64 5)) fun v329 => (onS (load? Tab.env m326 3 v329) fun v330 => (onS (bin? Tab.env .quo 3 v330 (.int .i64 4)) fun v331 => (onC Tab.env X (.func 42) [v331, (.int .i64 4)] m326 fun v332 m333 b334 => (onS (bin? Tab.env .add 3 v332 (.int .i64 1)) fun v335 => (onS (indexAddr? Tab.env 91 (.pointer (some ⟨b6, 0, none⟩)) (.int .i64 5)) fun v336 => (onS (load? Tab.env m333 3 v336) fun v337 => (onS (bin? Tab.env .quo 3 v337 (.int .i64 16)) fun v338 => (onC Tab.env X (.func 42) [v338, (.int .i64 4)] m333 fun v339 m340 b341 => (onS (bin? Tab.env .add 3 v335 v339) fun v342 => (onC Tab.env X (.func 42) [(.int .i64 n), (.int .i64 100)] m340 fun v343 m344 b345 => ((M.n m340 ≤ b345) ∧ (onS (indexAddr? Tab.env 91 (.pointer (some ⟨b6, 0, none⟩)) (.int .i64 5)) fun v346 => (onS (load? Tab.env m344 3 v346) fun v347 => (onS (bin? Tab.env .quo 3 v347 (.int .i64 64)) fun v348 => (onC Tab.env X (.func 42) [v348, (.int .i64 8)] m344 fun v349 m350 b351 => ((M.n m344 ≤ b351) ∧ (onS (bin? Tab.env .add 3 (.int .i64 1) v349) fun v352 => (onS (indexAddr? Tab.env 91 (.pointer (some ⟨b6, 0, none⟩)) (.int .i64 5)) fun v353 => (onS (load? Tab.env m350 3 v353) fun v354 => (onS (bin? Tab.env .quo 3 v354 (.int .i64 512)) fun v355 => (onC Tab.env X (.func 42) [v355, (.int .i64 8)] m350 fun v356 m357 b358 => (onS (build? Tab.env 57 [(0, v343), (1, v352), (2, v356), (3, w), (4, v332), (5, v342)]) fun v359 => (on2 (store? Tab.env m357 57 (.pointer (some ⟨rc, 0, none⟩)) v359) fun m360 b361 => (onS (load? Tab.env m360 57 (.pointer (some ⟨rc, 0, none⟩))) fun v362 => (R [v362] m360 (min (min (min (min (min (min (min lo0 b327) b334) b341) b345) b351) b358) b361)))))))))))))))))))))))))))
(onC Tab.env X (.func 42) [(.int .i64 n), (.int .i64 100)] m326 fun v363 m364 b365 => ((M.n m326 ≤ b365) ∧ (onS (indexAddr? Tab.env 91 (.pointer (some ⟨b6, 0, none⟩)) (.int .i64 5)) fun v366 => (onS (load? Tab.env m364 3 v366) fun v367 => (onS (bin? Tab.env .quo 3 v367 (.int .i64 64)) fun v368 => (onC Tab.env X (.func 42) [v368, (.int .i64 8)] m364 fun v369 m370 b371 => ((M.n m364 ≤ b371) ∧ (onS (bin? Tab.env .add 3 (.int .i64 1) v369) fun v372 => (onS (indexAddr? Tab.env 91 (.pointer (some ⟨b6, 0, none⟩)) (.int .i64 5)) fun v373 => (onS (load? Tab.env m370 3 v373) fun v374 => (onS (bin? Tab.env .quo 3 v374 (.int .i64 512)) fun v375 => (onC Tab.env X (.func 42) [v375, (.int .i64 8)] m370 fun v376 m377 b378 => (onS (build? Tab.env 57 [(0, v363), (1, v372), (2, v376), (3, w), (4, (.int .i64 0)), (5, (.int .i64 4))]) fun v379 => (on2 (store? Tab.env m377 57 (.pointer (some ⟨rc, 0, none⟩)) v379) fun m380 b381 => (onS (load? Tab.env m380 57 (.pointer (some ⟨rc, 0, none⟩))) fun v382 => (R [v382] m380 (min (min (min (min (min lo0 b327) b365) b371) b378) b381)))))))))))))))))))))) := by
  have e5 : indexAddr? Tab.env 91 (.pointer (some ⟨b6, 0, none⟩)) (.int .i64 5) = some (.pointer (some ⟨b6, 5, none⟩)) := idx6 (i := 5) (by decide)
  have l5 : load? Tab.env mm 3 (.pointer (some ⟨b6, 5, none⟩)) = some (.int .i64 i5) := by rw [load_3, cellAt_of hb]; rfl
  have ow : one w = true := hw.one
  have bld : ∀ a b c d e : Int, build? Tab.env 57 [(0, .int .i64 a), (1, .int .i64 b), (2, .int .i64 c), (3, w), (4, .int .i64 d), (5, .int .i64 e)] = some (Un.v ⟨a, b, c, shp, d, e⟩ w) := fun a b c d e => by
    have := build_57_0_1_2_3_4_5 (x0 := .int .i64 a) (x1 := .int .i64 b) (x2 := .int .i64 c) (x3 := w) (x4 := .int .i64 d) (x5 := .int .i64 e) rfl rfl rfl (by rw [hw.cells]; rfl) rfl rfl
    rw [this, hw.cells]; rfl
  have fin : ∀ (u : Un) (lo : Nat), u.shape = shp → min lo0 mm.n ≤ lo → on2 (store? Tab.env mm 57 (.pointer (some ⟨rc, 0, none⟩)) (u.v w)) fun m' b => onS (load? Tab.env m' 57 (.pointer (some ⟨rc, 0, none⟩))) fun v => R [v] m' (min lo b) := fun u lo hu hlo => by
    refine on2_storeV ty_57 hr rfl rfl (Un.c_one ow) fun m' hn' hg' hk' => ?_
    have hg' : m'.get rc = .cells (u.c w) 57 none := hg'
    rw [load_un hg', onS_some]
    exact hR u m' _ hu hn'.symm hg' hk' (by omega)
  rw [e5, onS_some, l5, onS_some]
  refine onC_of (rpick_ok hX h5 (by decide)) ?_
  rw [bin_eql, onS_some, ifV_bool]
  refine ifB_intro (fun _ => ?_) (fun _ => ?_)
  · rw [onS_some, l5, onS_some, bin_quo (by decide), onS_some]
    refine onC_of (rpick_ok hX (wr_R64 _) (by decide)) ?_
    rw [bin_add, onS_some, onS_some, l5, onS_some, bin_quo (by decide), onS_some]
    refine onC_of (rpick_ok hX (wr_R64 _) (by decide)) ?_
    rw [bin_add, onS_some]
    refine onC_of (rpick_ok hX hn (by decide)) ⟨Nat.le_refl _, ?_⟩
    rw [onS_some, l5, onS_some, bin_quo (by decide), onS_some]
    refine onC_of (rpick_ok hX (wr_R64 _) (by decide)) ⟨Nat.le_refl _, ?_⟩
    rw [bin_add, onS_some, onS_some, l5, onS_some, bin_quo (by decide), onS_some]
    refine onC_of (rpick_ok hX (wr_R64 _) (by decide)) ?_
    rw [bld, onS_some]
    exact fin _ _ rfl (by omega)
  · refine onC_of (rpick_ok hX hn (by decide)) ⟨Nat.le_refl _, ?_⟩
    rw [onS_some, l5, onS_some, bin_quo (by decide), onS_some]
    refine onC_of (rpick_ok hX (wr_R64 _) (by decide)) ⟨Nat.le_refl _, ?_⟩
    rw [bin_add, onS_some, onS_some, l5, onS_some, bin_quo (by decide), onS_some]
    refine onC_of (rpick_ok hX (wr_R64 _) (by decide)) ?_
    rw [bld, onS_some]
    exact fin _ _ rfl (by omega)
end Go.Proofs.YtjecgmfildhpiaaGreatDoor

/- putlogref12.Block. -/
namespace Go.Proofs.YtjecgmfildhpiaaGreatDoor
open Go Go.D
variable {X : CallFn} {m : M}
theorem store_x {b : Nat} {L : List Pl} {i : Nat} {p : Pl} {g : Option Nat} {x : Int} {P : M → Nat → Prop} (h : m.get b = .cells (plC L) 64 g) (hi : L[i]? = some p)
    (hP : ∀ m1, m1.n = m.n → m1.get b = .cells (plC (L.set i ⟨x, p.y⟩)) 64 g → (∀ c, c ≠ b → m1.get c = m.get c) → P m1 b) : on2 (store? Tab.env m 3 (.pointer (some ⟨b, i * 2 + 0, none⟩)) (.int .i64 x)) P := by
  have hil := (List.getElem?_eq_some_iff.1 hi).1
  have hl := plC_len L
  refine on2_store ty_3 h rfl (by rw [hl]; show i * 2 + 0 + 1 ≤ _; omega) rfl fun m1 h1 h2 h3 => hP m1 h1 ?_ h3
  rw [h2, Nat.add_zero, show i * 2 + (cells (Value.int .i64 x)).length = i * 2 + 1 from rfl]
  have := set_split (cs := plC L) (i := i * 2) (x := Value.int .i64 x) (by rw [hl]; omega)
  rw [show cells (Value.int .i64 x) = [Value.int .i64 x] from rfl, this, plC_setx x hi]
set_option maxRecDepth 100000 in
theorem block_ok (hX : NoX X) {n i0 i1 i2 i3 i4 i5 : Int} (hn : R64 n) (h0 : R64 i0) (h1 : R64 i1) (h2 : R64 i2) (h3 : R64 i3) (h4 : R64 i4) (h5 : R64 i5) :
    ∃ (u : Un) (w : Value) (m' : M), C X (.func 41) [.int .i64 n, .agg #[.int .i64 i0, .int .i64 i1, .int .i64 i2, .int .i64 i3, .int .i64 i4, .int .i64 i5]] m m.n (u.v w) m' ∧ Ext m m' ∧ Sl m' u.shape w ∧ u.shape.length ≤ 4 := by
  have key : ∃ r m' b, C X (.func 41) [.int .i64 n, .agg #[.int .i64 i0, .int .i64 i1, .int .i64 i2, .int .i64 i3, .int .i64 i4, .int .i64 i5]] m b r m' ∧ b = m.n ∧ ∃ (u : Un) (w : Value), r = u.v w ∧ Ext m m' ∧ Sl m' u.shape w ∧ u.shape.length ≤ 4 := by
    refine Cl.heap (R := fun r m' b => b = m.n ∧ ∃ (u : Un) (w : Value), r = u.v w ∧ Ext m m' ∧ Sl m' u.shape w ∧ u.shape.length ≤ 4) (hX.no _ rfl) fn_41 rfl ?_
    rw [F41]; dsimp only [plainW]
    refine onM_push fun m1 hn1 hg1 hk1 => ?_
    refine onM_push fun m2 hn2 hg2 hk2 => ?_
    have hx2 : Ext m m2 := ⟨by omega, fun c hc => by rw [hk2 c (by omega), hk1 c hc]⟩
    have g1 : m2.get m.n = .cells [.int .i64 i0, .int .i64 i1, .int .i64 i2, .int .i64 i3, .int .i64 i4, .int .i64 i5] 91 none := by rw [hk2 _ (by omega)]; exact hg1
    unfold ptrTo
    have ld : ∀ {mm : M} {i : Nat} {x : Int}, Ext m2 mm → [i0, i1, i2, i3, i4, i5][i]? = some x → indexAddr? Tab.env 91 (.pointer (some ⟨m.n, 0, none⟩)) (.int .i64 i) = some (.pointer (some ⟨m.n, i, none⟩)) ∧ load? Tab.env mm 3 (.pointer (some ⟨m.n, i, none⟩)) = some (.int .i64 x) := fun {mm i x} hx hi => by
      have hil := (List.getElem?_eq_some_iff.1 hi).1
      refine ⟨by have := idx6 (b := m.n) (o := 0) (k := .i64) (i := i) hil; rwa [Nat.zero_add] at this, ?_⟩
      have hc : [Value.int .i64 i0, .int .i64 i1, .int .i64 i2, .int .i64 i3, .int .i64 i4, .int .i64 i5][i]? = some (.int .i64 x) := by
        have : ([i0, i1, i2, i3, i4, i5].map (Value.int .i64))[i]? = some (.int .i64 x) := by rw [List.getElem?_map, hi]; rfl
        exact this
      rw [load_3, cellAt_of (hx.cells g1), hc]
    have d0a : indexAddr? Tab.env 91 (.pointer (some ⟨m.n, 0, none⟩)) (.int .i64 0) = some (.pointer (some ⟨m.n, 0, none⟩)) := (@ld m2 0 i0 .refl rfl).1
    have d0b := (@ld m2 0 i0 .refl rfl).2
    have d1a : indexAddr? Tab.env 91 (.pointer (some ⟨m.n, 0, none⟩)) (.int .i64 1) = some (.pointer (some ⟨m.n, 1, none⟩)) := (@ld m2 1 i1 .refl rfl).1
    have d1b := (@ld m2 1 i1 .refl rfl).2
    have d2a : indexAddr? Tab.env 91 (.pointer (some ⟨m.n, 0, none⟩)) (.int .i64 2) = some (.pointer (some ⟨m.n, 2, none⟩)) := (@ld m2 2 i2 .refl rfl).1
    have d2b := (@ld m2 2 i2 .refl rfl).2
    have d3a : indexAddr? Tab.env 91 (.pointer (some ⟨m.n, 0, none⟩)) (.int .i64 3) = some (.pointer (some ⟨m.n, 3, none⟩)) := (@ld m2 3 i3 .refl rfl).1
    have d3b := (@ld m2 3 i3 .refl rfl).2
    rw [d0a, onS_some, d0b, onS_some]
    refine onC_of (rpick_ok hX h0 (by decide)) ?_
    rw [bin_mul, onS_some]
    rw [d1a, onS_some, d1b, onS_some]
    refine onC_of (rpick_ok hX h1 (by decide)) ?_
    rw [bin_mul, onS_some]
    rw [d2a, onS_some, d2b, onS_some]
    refine onC_of (rpick_ok hX h2 (by decide)) ?_
    rw [bin_add, onS_some, bin_mul, onS_some, bin_add, onS_some, min_two, on2_some]
    rw [d3a, onS_some, d3b, onS_some]
    refine onC_of (rpick_ok hX h3 (by decide)) ?_
    rw [bin_add, onS_some, bin_mul, onS_some, bin_add, onS_some]
    generalize IntKind.i64.wrap (4 * pickZ i0 9) = x0
    generalize IntKind.i64.wrap (4 * pickZ i1 6) = y0
    generalize min (IntKind.i64.wrap _) (40 : Int) = x1
    generalize IntKind.i64.wrap (y0 + _) = y1
    have bp : ∀ a b : Int, build? Tab.env 64 [(0, .int .i64 a), (1, .int .i64 b)] = some (Pl.v ⟨a, b⟩) := fun a b => build_64_0_1 rfl rfl
    rw [bp, onS_some, bp, onS_some, bp, onS_some, bp, onS_some]
    obtain ⟨L, hL⟩ : ∃ L : List Pl, L = [⟨x0, y0⟩, ⟨x1, y0⟩, ⟨x1, y1⟩, ⟨x0, y1⟩] := ⟨_, rfl⟩
    have hbs : buildSlice? Tab.env m2 45 4 [(0, Pl.v ⟨x0, y0⟩), (1, Pl.v ⟨x1, y0⟩), (2, Pl.v ⟨x1, y1⟩), (3, Pl.v ⟨x0, y1⟩)] = some (.slice (some ⟨m2.n, 0, none⟩) 4 4, m2.push (.cells (plC L) 64 none)) := by rw [hL]; kernel_rfl
    rw [hbs, on2_some]
    have hx37 : Ext m2 (m2.push (.cells (plC L) 64 none)) := Ext.refl.push
    generalize hm37 : m2.push (.cells (plC L) 64 none) = m37 at *
    have hg37 : m37.get m2.n = .cells (plC L) 64 none := by rw [← hm37]; exact M.get_push_new
    have hn37 : m37.n = m2.n + 1 := by rw [← hm37]; rfl
    have d4a : indexAddr? Tab.env 91 (.pointer (some ⟨m.n, 0, none⟩)) (.int .i64 4) = some (.pointer (some ⟨m.n, 4, none⟩)) := (@ld m37 4 i4 hx37 rfl).1
    have d4b := (@ld m37 4 i4 hx37 rfl).2
    rw [d4a, onS_some, d4b, onS_some]
    refine onC_of (rpick_ok hX h4 (by decide)) ?_
    have gz : m37.get m1.n = .cells Un.zc 57 none := by rw [hx37.get _ (by omega), hg2]
    have hne : m1.n ≠ m2.n := by omega
    have fin : ∀ (mm : M) (lo0 : Nat) (w : Value) (shp : List Pl), (∀ c, c ≠ m2.n → c < m37.n → mm.get c = m37.get c) → m37.n ≤ mm.n → m.n ≤ lo0 → Sl mm shp w → shp.length ≤ 4 → (∃ a n c, w = .slice (some a) n c) → mm.get m.n = .cells [.int .i64 i0, .int .i64 i1, .int .i64 i2, .int .i64 i3, .int .i64 i4, .int .i64 i5] 91 none ∧ mm.get m1.n = .cells Un.zc 57 none ∧
        ∀ (u : Un) (m' : M) (lo : Nat), u.shape = shp → mm.n = m'.n → m'.get m1.n = .cells (u.c w) 57 none → (∀ c, c ≠ m1.n → m'.get c = mm.get c) → min lo0 (min m1.n mm.n) ≤ lo → (flat2 (mkres [u.v w]) = false ∨ lo < m.n) ∧ min m.n lo = m.n ∧ ∃ (u' : Un) (w' : Value), mkres [u.v w] = u'.v w' ∧ Ext m m' ∧ Sl m' u'.shape w' ∧ u'.shape.length ≤ 4 := by
      intro mm lo0 w shp hk hnm hlo hs hl hw
      refine ⟨by rw [hk _ (by omega) (by omega), hx37.get _ (by omega), g1], by rw [hk _ hne (by omega), gz], fun u m' lo hu hnn hg hk' hlo' => ⟨.inl ?_, by omega, u, w, rfl, ⟨by omega, fun c hc => by rw [hk' c (by omega), hk c (by omega) (by omega), hx37.get c (by omega), hx2.get c hc]⟩, ?_, by rw [hu]; exact hl⟩⟩
      · obtain ⟨a, k, c, rfl⟩ := hw
        show flat2 (u.v (.slice (some a) k c)) = false
        simp [flat2, flat1, flat0]
      · rw [hu]
        refine hs.keep fun b cs t g hb ht => ?_
        by_cases e : b = m1.n
        · subst e
          rw [hk _ hne (by omega), gz] at hb
          cases hb
          exact absurd ht (by decide)
        · rw [hk' b e, hb]
    have hsl37 : ∀ {mm : M} {L' : List Pl}, mm.get m2.n = .cells (plC L') 64 none → L'.length = 4 → Sl mm L' (.slice (some ⟨m2.n, 0, none⟩) 4 4) := fun {mm L'} h hl => by
      have := sl_plC (c := 4) h
      rwa [hl] at this
    have hix : ∀ i, i < 4 → indexAddr? Tab.env 45 (.slice (some ⟨m2.n, 0, none⟩) 4 4) (.int .i64 (i : Nat)) = some (.pointer (some ⟨m2.n, i * 2, none⟩)) := fun i hi => idx_pl hi
    have x0' : indexAddr? Tab.env 45 (.slice (some ⟨m2.n, 0, none⟩) 4 4) (.int .i64 0) = some (.pointer (some ⟨m2.n, 0 * 2, none⟩)) := hix 0 (by decide)
    have x1' : indexAddr? Tab.env 45 (.slice (some ⟨m2.n, 0, none⟩) 4 4) (.int .i64 1) = some (.pointer (some ⟨m2.n, 1 * 2, none⟩)) := hix 1 (by decide)
    have x2' : indexAddr? Tab.env 45 (.slice (some ⟨m2.n, 0, none⟩) 4 4) (.int .i64 2) = some (.pointer (some ⟨m2.n, 2 * 2, none⟩)) := hix 2 (by decide)
    have x3' : indexAddr? Tab.env 45 (.slice (some ⟨m2.n, 0, none⟩) 4 4) (.int .i64 3) = some (.pointer (some ⟨m2.n, 3 * 2, none⟩)) := hix 3 (by decide)
    have tail : ∀ (mm : M) (lo0 : Nat) (w : Value) (shp : List Pl), (∀ c, c ≠ m2.n → c < m37.n → mm.get c = m37.get c) → m37.n ≤ mm.n → m.n ≤ lo0 → Sl mm shp w → shp.length ≤ 4 → (∃ a n c, w = .slice (some a) n c) → _ := fun mm lo0 w shp a b c d e f => by
      obtain ⟨f1, f2, f3⟩ := fin mm lo0 w shp a b c d e f
      exact block_tail hX (R := fun vs m' lo => (flat2 (mkres vs) = false ∨ lo < m.n) ∧ min m.n lo = m.n ∧ ∃ (u : Un) (w : Value), mkres vs = u.v w ∧ Ext m m' ∧ Sl m' u.shape w ∧ u.shape.length ≤ 4) (lo0 := lo0) f1 f2 d hn h5 f3
    have ldp : ∀ {mm : M} {L' : List Pl} {i : Nat} {p : Pl}, mm.get m2.n = .cells (plC L') 64 none → L'[i]? = some p → load? Tab.env mm 64 (.pointer (some ⟨m2.n, i * 2, none⟩)) = some p.v := fun {mm L' i p} h hi => by
      have hil := (List.getElem?_eq_some_iff.1 hi).1
      rw [load_64, loadCells_of h (by rw [plC_len]; omega)]
      have := plC_chunk hi
      unfold chunk at this
      rw [this]; rfl
    rw [bin_eql, onS_some, ifV_bool]
    refine ifB_intro (fun _ => ?_) (fun _ => ?_)
    · rw [bin_sub, onS_some, x2', onS_some, fieldAddr_64_0, onS_some]
      refine store_x (L := L) (i := 2) (p := ⟨x1, y1⟩) hg37 (by rw [hL]; rfl) fun m47 hn47 hg47 hk47 => ?_
      rw [bin_add, onS_some, x3', onS_some, fieldAddr_64_0, onS_some]
      refine store_x (i := 3) (p := ⟨x0, y1⟩) hg47 (by rw [hL]; rfl) fun m52 hn52 hg52 hk52 => ?_
      exact tail m52 _ _ _ (fun c h _ => by rw [hk52 c h, hk47 c h]) (by omega) (by omega) (hsl37 hg52 (by rw [hL]; rfl)) (by rw [hL]; exact Nat.le_refl _) ⟨_, _, _, rfl⟩
    rw [bin_eql, onS_some, ifV_bool]
    refine ifB_intro (fun _ => ?_) (fun _ => ?_)
    · rw [bin_add, onS_some, x0', onS_some, fieldAddr_64_0, onS_some]
      refine store_x (L := L) (i := 0) (p := ⟨x0, y0⟩) hg37 (by rw [hL]; rfl) fun m47 hn47 hg47 hk47 => ?_
      rw [bin_sub, onS_some, x1', onS_some, fieldAddr_64_0, onS_some]
      refine store_x (i := 1) (p := ⟨x1, y0⟩) hg47 (by rw [hL]; rfl) fun m52 hn52 hg52 hk52 => ?_
      exact tail m52 _ _ _ (fun c h _ => by rw [hk52 c h, hk47 c h]) (by omega) (by omega) (hsl37 hg52 (by rw [hL]; rfl)) (by rw [hL]; exact Nat.le_refl _) ⟨_, _, _, rfl⟩
    rw [bin_eql, onS_some, ifV_bool]
    have tri : ∀ (p q r : Pl) (lo0 : Nat), m.n ≤ lo0 → ∀ m193 : M, m37.push (.cells (plC [p, q, r]) 64 none) = m193 → Sl m193 [p, q, r] (.slice (some ⟨m37.n, 0, none⟩) 3 3) ∧ (∀ c, c ≠ m2.n → c < m37.n → m193.get c = m37.get c) ∧ m37.n ≤ m193.n := fun p q r lo0 h m193 hm => by
      have hg : m193.get m37.n = .cells (plC [p, q, r]) 64 none := by rw [← hm]; exact M.get_push_new
      refine ⟨sl_plC (l := [p, q, r]) hg, fun c _ hc => by rw [← hm]; exact M.get_push_lt hc, by rw [← hm]; exact Nat.le_succ _⟩
    have bs3 : ∀ p q r : Pl, buildSlice? Tab.env m37 45 3 [(0, p.v), (1, q.v), (2, r.v)] = some (.slice (some ⟨m37.n, 0, none⟩) 3 3, m37.push (.cells (plC [p, q, r]) 64 none)) := fun p q r => by kernel_rfl
    refine ifB_intro (fun _ => ?_) (fun _ => ?_)
    · rw [x0', onS_some, ldp (i := 0) (p := ⟨x0, y0⟩) hg37 (by rw [hL]; rfl), onS_some, x1', onS_some, ldp (i := 1) (p := ⟨x1, y0⟩) hg37 (by rw [hL]; rfl), onS_some, x2', onS_some, ldp (i := 2) (p := ⟨x1, y1⟩) hg37 (by rw [hL]; rfl), onS_some, bs3, on2_some]
      generalize hm : m37.push (.cells (plC [⟨x0, y0⟩, ⟨x1, y0⟩, ⟨x1, y1⟩]) 64 none) = m193
      obtain ⟨s1, s2, s3⟩ := tri _ _ _ m.n (Nat.le_refl _) m193 hm
      exact tail m193 _ _ _ s2 s3 (by omega) s1 (by simp) ⟨_, _, _, rfl⟩
    rw [bin_eql, onS_some, ifV_bool]
    refine ifB_intro (fun _ => ?_) (fun _ => ?_)
    · rw [x0', onS_some, ldp (i := 0) (p := ⟨x0, y0⟩) hg37 (by rw [hL]; rfl), onS_some, x2', onS_some, ldp (i := 2) (p := ⟨x1, y1⟩) hg37 (by rw [hL]; rfl), onS_some, x3', onS_some, ldp (i := 3) (p := ⟨x0, y1⟩) hg37 (by rw [hL]; rfl), onS_some, bs3, on2_some]
      generalize hm : m37.push (.cells (plC [⟨x0, y0⟩, ⟨x1, y1⟩, ⟨x0, y1⟩]) 64 none) = m193
      obtain ⟨s1, s2, s3⟩ := tri _ _ _ m.n (Nat.le_refl _) m193 hm
      exact tail m193 _ _ _ s2 s3 (by omega) s1 (by simp) ⟨_, _, _, rfl⟩
    exact tail m37 _ _ _ (fun c _ _ => rfl) (Nat.le_refl _) (by omega) (hsl37 hg37 (by rw [hL]; rfl)) (by rw [hL]; exact Nat.le_refl _) ⟨_, _, _, rfl⟩
  obtain ⟨r, m', b, hc, rfl, u, w, rfl, h1, h2, h3⟩ := key
  exact ⟨u, w, m', hc, h1, h2, h3⟩
end Go.Proofs.YtjecgmfildhpiaaGreatDoor

/- putlogref12.Add. -/
namespace Go.Proofs.YtjecgmfildhpiaaGreatDoor
open Go Go.D
variable {X : CallFn} {m : M}
def insU (u : Un) : List Un → List Un
  | [] => [u]
  | a :: r => if u.id < a.id then u :: a :: r else a :: insU u r
theorem insU_no {u : Un} : ∀ {p q : List Un}, (∀ x ∈ p, ¬ u.id < x.id) → insU u (p ++ q) = p ++ insU u q
  | [], q, _ => rfl
  | a :: p, q, h => by
    rw [List.cons_append, insU, if_neg (h a (by simp)), insU_no fun x hx => h x (by simp [hx])]; rfl
theorem insU_yes {u x : Un} : ∀ {p : List Un}, (∃ y ∈ p, u.id < y.id) → insU u (p ++ [x]) = insU u p ++ [x]
  | [], h => by obtain ⟨y, hy, _⟩ := h; cases hy
  | a :: p, h => by
    rw [List.cons_append, insU, insU]
    by_cases e : u.id < a.id
    · rw [if_pos e, if_pos e]; rfl
    · rw [if_neg e, if_neg e, insU_yes]
      · rfl
      · obtain ⟨y, hy, hlt⟩ := h
        rcases List.mem_cons.1 hy with rfl | hy
        · exact absurd hlt e
        · exact ⟨y, hy, hlt⟩
/-- All but a cell and rows of units is as it was. -/
structure KeU (oc : Nat) (m m1 : M) : Prop where
  n : m.n ≤ m1.n
  lo : ∀ c, c < oc → m1.get c = m.get c
  get : ∀ c, c < m.n → c ≠ oc → (∀ cs g, m.get c ≠ .cells cs 57 g) → m1.get c = m.get c
/-- A list of units that grows in a cell of one's own. -/
structure GrU (oc : Nat) (mm : M) (acc : List UW) (r : Value) : Prop where
  cell : mm.get oc = .cells [r] 31 none
  ow : Ow (oc + 1) mm acc r
  sh : ∀ x ∈ acc, Sl mm x.u.shape x.w
  ln : ∀ x ∈ acc, x.u.shape.length < 1000000
theorem GrU.fab {oc : Nat} {mm : M} {acc : List UW} {r : Value} (h : GrU oc mm acc r) : FabV mm acc r :=
  ⟨h.ow.sl, h.sh, h.ln, by
    rcases h.ow with ⟨_, h⟩ | ⟨b, cs, h1, h2, h3, h4, h5, h6⟩
    · exact .inl h
    · exact .inr ⟨b, 0, _, cs, _, h1, Nat.le_refl _, h4, .inr rfl⟩⟩
theorem GrU.keepE {oc : Nat} {mm m' : M} {acc : List UW} {r : Value} (h : GrU oc mm acc r) (hx : Ext mm m') : GrU oc m' acc r := ⟨hx.cells h.cell, h.ow.keepE hx, fun x hx' => (h.sh x hx').keepE hx, h.ln⟩
theorem ow_addr' {α : Type} [Rep α] {n1 : Nat} {l : List α} {v : Value} (h : Ow n1 m l v) {a : Addr} {n k : Nat} (e : v = .slice (some a) n k) : ∃ cs g, m.get a.block = .cells cs (Rep.ty α) g ∧ n1 ≤ a.block := by
  rcases h with ⟨rfl, _⟩ | ⟨b, cs, rfl, h2, h3, h4, _⟩
  · cases e
  · cases e; exact ⟨_, _, h4, h3⟩
/-- A unit, appended: step by step. -/
theorem push_un {oc : Nat} {mm : M} {acc : List UW} {r w : Value} {u : Un} (h : GrU oc mm acc r) (hw : Sl mm u.shape w) (hl : u.shape.length < 1000000) (hal : acc.length < 1000000) :
    ∃ m81 r' m83 m85, buildSlice? Tab.env mm 29 1 [(0, u.v w)] = some (.slice (some ⟨mm.n, 0, none⟩) 1 1, m81) ∧ builtin? Tab.env (M.wl m81 (M.n m81)) .append [29, 29] [r, .slice (some ⟨mm.n, 0, none⟩) 1 1] = some (r', m83) ∧
      store? Tab.env m83 29 (.pointer (some ⟨oc, 0 + 0, none⟩)) r' = some (m85, oc) ∧ oc + 1 ≤ m83.low ∧ GrU oc m85 (acc ++ [⟨u, w⟩]) r' ∧ KeU oc mm m85 := by
  have hoc := M.lt_of_get h.cell
  have ow' : one w = true := hw.one
  have hx81 : Ext mm (mm.push (.cells (UW.c ⟨u, w⟩) 57 none)) := Ext.refl.push
  refine ⟨mm.push (.cells (UW.c ⟨u, w⟩) 57 none), ?_⟩
  have hb1 : buildSlice? Tab.env mm 29 1 [(0, u.v w)] = some (.slice (some ⟨mm.n, 0, none⟩) 1 1, mm.push (.cells (UW.c ⟨u, w⟩) 57 none)) := one_un' (x := ⟨u, w⟩)
  generalize hm81 : mm.push (.cells (UW.c ⟨u, w⟩) 57 none) = m81 at *
  have hg81 : m81.get mm.n = .cells (UW.c ⟨u, w⟩) 57 none := by rw [← hm81]; exact M.get_push_new
  have n81 : m81.n = mm.n + 1 := by rw [← hm81]; rfl
  have h81 := h.keepE hx81
  obtain ⟨r', m83, ha, ho83, hf83, hl83, hn83⟩ := Ow.append (y := .slice (some ⟨mm.n, 0, none⟩) 1 1) (ys := [(⟨u, w⟩ : UW)]) apt_uw (by simp [Rep.tys]) h81.ow (sl_one_un hg81 ow') (by omega) (by simp; omega)
  have n83 := hf83.n
  have g83 : m83.get oc = .cells [r] 31 none := by rw [hf83.get _ (by omega), h81.cell]
  have hst := store_of (E := Tab.env) (o := 0 + 0) (x := r') ty_29 g83 (by rw [ho83.sl.cells]; rfl) (by rw [ho83.sl.cells]; simp) (by rw [ho83.sl.cells]; simp [ho83.sl.one])
  refine ⟨r', m83, _, hb1, ha, hst, hl83, ?_⟩
  have hset : ∀ c, c ≠ oc → (m83.set oc (.cells (([r] : List Value).take (0 + 0) ++ (cells r' ++ ([r] : List Value).drop (0 + 0 + (cells r').length))) 31 none)).get c = m83.get c := fun c hc => M.get_set_ne hc
  have g85 : (m83.set oc (.cells (([r] : List Value).take (0 + 0) ++ (cells r' ++ ([r] : List Value).drop (0 + 0 + (cells r').length))) 31 none)).get oc = .cells [r'] 31 none := by
    rw [M.get_set_same (M.lt_of_get g83), ho83.sl.cells]; rfl
  have hnset : (m83.set oc (.cells (([r] : List Value).take (0 + 0) ++ (cells r' ++ ([r] : List Value).drop (0 + 0 + (cells r').length))) 31 none)).n = m83.n := rfl
  generalize m83.set oc (.cells (([r] : List Value).take (0 + 0) ++ (cells r' ++ ([r] : List Value).drop (0 + 0 + (cells r').length))) 31 none) = m85 at *
  have keep : ∀ c, c < m81.n → c ≠ oc → (∀ cs g, m81.get c ≠ .cells cs 57 g) → m85.get c = m81.get c := fun c hc hne ht => by
    rw [hset c hne, append_other ha hc fun a n k e he => ?_]
    obtain ⟨cs, g, hg, _⟩ := ow_addr' h81.ow e
    rw [← he] at hg
    exact ht _ _ hg
  have keepS : ∀ (shp : List Pl) (v : Value), Sl m81 shp v → Sl m85 shp v := fun shp v hs => hs.keep fun b cs t g hb ht => by
    have ht : t = 64 := by simpa [Rep.ty, Rep.tys] using ht
    subst ht
    rw [keep b (M.lt_of_get hb) (fun e => by subst e; rw [h81.cell] at hb; cases hb) (fun cs' g' e => by rw [hb] at e; cases e), hb]
  refine ⟨⟨g85, ho83.keep fun b c t g hb ht => ?_, fun x hx => ?_, fun x hx => ?_⟩, ⟨by omega, fun c hc => ?_, fun c hc hne ht => ?_⟩⟩
  · have ht : t = 57 := by simpa [Rep.ty, Rep.tys] using ht
    rw [hset b (fun e => by subst e; rw [g83] at hb; cases hb; exact absurd ht (by decide)), hb]
  · rcases List.mem_append.1 hx with hx | hx
    · exact keepS _ _ (h81.sh x hx)
    · rw [List.mem_singleton] at hx
      subst hx
      exact keepS _ _ (hw.keepE hx81)
  · rcases List.mem_append.1 hx with hx | hx
    · exact h.ln x hx
    · rw [List.mem_singleton] at hx
      subst hx
      exact hl
  · rw [hset c (by omega), hf83.get c (by omega), hx81.get c (by omega)]
  · rw [keep c (by omega) hne (fun cs g e => ht cs g (by rw [← e, hx81.get c (by omega)])), hx81.get c (by omega)]
/-- A copy of a unit, appended. -/
theorem push_copy (hX : NoX X) {oc : Nat} {mm : M} {acc : List UW} {r w : Value} {u : Un} (h : GrU oc mm acc r) (hw : Sl mm u.shape w) (hl : u.shape.length < 1000000) (hal : acc.length < 1000000) :
    ∃ w' m78 m81 r' m83 m85, C X (.func 45) [u.v w] mm mm.n (u.v w') m78 ∧ buildSlice? Tab.env m78 29 1 [(0, u.v w')] = some (.slice (some ⟨m78.n, 0, none⟩) 1 1, m81) ∧
      builtin? Tab.env (M.wl m81 (M.n m81)) .append [29, 29] [r, .slice (some ⟨m78.n, 0, none⟩) 1 1] = some (r', m83) ∧
      store? Tab.env m83 29 (.pointer (some ⟨oc, 0 + 0, none⟩)) r' = some (m85, oc) ∧ oc + 1 ≤ m83.low ∧ GrU oc m85 (acc ++ [⟨u, w'⟩]) r' ∧ KeU oc mm m85 := by
  have hoc := M.lt_of_get h.cell
  obtain ⟨w', m78, hc, hx78, hs78⟩ := copied_ok hX hw hl
  have n78 := hx78.n
  obtain ⟨m81, r', m83, m85, h1, h2, h3, h4, h5, h6⟩ := push_un (h.keepE hx78) hs78 hl hal
  exact ⟨w', m78, m81, r', m83, m85, hc, h1, h2, h3, h4, h5, ⟨by have := h6.n; omega, fun c hc => by rw [h6.lo c hc, hx78.get c (by omega)], fun c hc hne ht => by rw [h6.get c (by omega) hne (fun cs g e => ht cs g (by rw [← e, hx78.get c hc])), hx78.get c hc]⟩⟩
open Classical in
/-- What putlogref12.Add returns. -/
def AddR (l : List UW) (u : Un) (m' : M) (rv : Value) : Prop :=
  if fabB (us' l) = true ∧ fabB (insU u (us' l)) = true then ∃ l' r, rv = .tuple #[.agg #[r], .int .i64 0] ∧ us' l' = insU u (us' l) ∧ FabV m' l' r else rv = .tuple #[.agg #[.slice none 0 0], .int .i64 120]
theorem AddR.no {l : List UW} {u : Un} {m' : M} (h : ¬ (fabB (us' l) = true ∧ fabB (insU u (us' l)) = true)) : AddR l u m' (.tuple #[.agg #[.slice none 0 0], .int .i64 120]) := by unfold AddR; rw [if_neg h]
theorem AddR.yes {l l' : List UW} {u : Un} {m' : M} {r : Value} (h1 : fabB (us' l) = true) (h2 : fabB (insU u (us' l)) = true) (h3 : us' l' = insU u (us' l)) (h4 : FabV m' l' r) : AddR l u m' (.tuple #[.agg #[r], .int .i64 0]) := by unfold AddR; rw [if_pos ⟨h1, h2⟩]; exact ⟨l', r, rfl, h3, h4⟩
theorem insU_ne (u : Un) (l : List Un) : insU u l ≠ [] := by
  cases l with
  | nil => simp [insU]
  | cons a r => rw [insU]; split <;> simp
set_option maxRecDepth 100000 in
theorem add_ok (hX : NoX X) {l : List UW} {v w : Value} {u : Un} (h : FabV m l v) (hlen : l.length < 1000) (hw : Sl m u.shape w) (hul : u.shape.length < 1000000) :
    ∃ rv m', C X (.func 40) [.agg #[v], u.v w] m m.n rv m' ∧ Ext m m' ∧ AddR l u m' rv := by
  have key : ∃ rv m' b, C X (.func 40) [.agg #[v], u.v w] m b rv m' ∧ b = m.n ∧ Ext m m' ∧ AddR l u m' rv := by
    refine Cl.gen (R := fun rv m' b => b = m.n ∧ Ext m m' ∧ AddR l u m' rv) (hX.no _ rfl) fn_40 rfl ?_
    rw [F40]; dsimp only [plainW]
    refine onM_push fun m1 hn1 hg1 hk1 => ?_
    refine onM_push fun m2 hn2 hg2 hk2 => ?_
    refine onM_push fun m3 hn3 hg3 hk3 => ?_
    simp only [cells_agg] at hg1 hg2
    have hx3 : Ext m m3 := ⟨by omega, fun c hc => by rw [hk3 c (by omega), hk2 c (by omega), hk1 c hc]⟩
    have g1 : m3.get m.n = .cells [v] 31 none := by rw [hk3 _ (by omega), hk2 _ (by omega)]; exact hg1
    have g2 : m3.get m1.n = .cells (u.c w) 57 none := by rw [hk3 _ (by omega)]; exact hg2
    unfold ptrTo
    rw [load_31, loadCells_of g1 (by simp)]
    show onS (some (Value.agg #[v])) _
    rw [onS_some]
    refine onC_of (rfvalid_ok hX (h.keepE hx3) (by omega)) ?_
    rw [un_not, onS_some, ifV_bool]
    have hfail : ∀ (mm : M) (lo : Nat), (∀ c, c < m3.n → mm.get c = m3.get c) → ¬ (fabB (us' l) = true ∧ fabB (insU u (us' l)) = true) → m.n ≤ lo →
        on2 (store? Tab.env mm 31 (.pointer (some ⟨m2.n, 0, none⟩)) (.agg #[.slice none 0 0])) fun m10 b11 => onS (load? Tab.env m10 31 (.pointer (some ⟨m2.n, 0, none⟩))) fun v12 =>
          (flat2 (mkres [v12, .int .i64 120]) = true ∧ m.n ≤ min lo b11 ∧ m.n = m.n ∧ Ext m m ∧ AddR l u m (mkres [v12, .int .i64 120])) ∨
          ((flat2 (mkres [v12, .int .i64 120]) = false ∨ min lo b11 < m.n) ∧ min m.n (min lo b11) = m.n ∧ Ext m m10 ∧ AddR l u m10 (mkres [v12, .int .i64 120])) := by
      intro mm lo hk hno hlo
      have g3 : mm.get m2.n = .cells [.slice none 0 0] 31 none := by rw [hk _ (by omega), hg3]
      refine on2_storeV ty_31 g3 rfl rfl rfl fun m10 hn10 hg10 hk10 => ?_
      have hg10 : m10.get m2.n = .cells [.slice none 0 0] 31 none := hg10
      rw [load_31, loadCells_of hg10 (by simp)]
      show onS (some (Value.agg #[.slice none 0 0])) _
      rw [onS_some]
      exact .inl ⟨rfl, by omega, rfl, .refl, .no hno⟩
    have bld : build? Tab.env 31 [] = some (.agg #[.slice none 0 0]) := build_31_
    refine ifB_intro (fun hb => ?_) (fun hb => ?_)
    · have hb : fabB (us' l) = false := by simpa using hb
      rw [bld, onS_some]
      exact hfail m3 (min m.n m3.n) (fun _ _ => rfl) (fun hh => by rw [hb] at hh; exact absurd hh.1 (by decide)) (by omega)
    have hfl : fabB (us' l) = true := by simpa using hb
    refine onM_push fun m13 hn13 hg13 hk13 => ?_
    obtain ⟨oc, hoc⟩ : ∃ oc, oc = m3.n := ⟨_, rfl⟩
    rw [← hoc] at hg13 ⊢
    have hx13 : Ext m3 m13 := ⟨by omega, fun c hc => hk13 c hc⟩
    refine Lp.intro (γ := Nat) (fun i => l.length - i) (fun i vs mm lo => ∃ (done : Bool) (acc : List UW) (r : Value), vs = [.bool done, .int .i64 i] ∧ i ≤ l.length ∧ GrU oc mm acc r ∧ (∀ c, c < oc → mm.get c = m3.get c) ∧ m.n ≤ lo ∧ m13.n ≤ mm.n ∧
      (done = false → us' acc = (us' l).take i ∧ ∀ x ∈ (us' l).take i, ¬ u.id < x.id) ∧ (done = true → us' acc = insU u ((us' l).take i) ∧ ∃ x ∈ (us' l).take i, u.id < x.id) ∧ acc.length ≤ i + 1) 0
      ⟨false, [], _, rfl, Nat.zero_le _, ⟨hg13, .nil, fun x hx => (by cases hx), fun x hx => (by cases hx)⟩, fun c hc => hk13 c (by omega), by omega, Nat.le_refl _, fun _ => ⟨rfl, fun x hx => (by simp at hx)⟩, fun h => (by cases h), Nat.zero_le _⟩ ?_
    rintro i vs mm lo1 ⟨done, acc, r, rfl, hi, hgr, hk, hlo, hnm, hd0, hd1, hal⟩
    have gf : mm.get m.n = .cells [v] 31 none := by rw [hk _ (by omega), g1]
    have gu : mm.get m1.n = .cells (u.c w) 57 none := by rw [hk _ (by omega), g2]
    have hxm : Ext m mm := ⟨by omega, fun c hc => by rw [hk c (by omega), hx3.get c hc]⟩
    have hF := h.keepE hxm
    have ldF : ∀ m' : M, m'.get m.n = .cells [v] 31 none → load? Tab.env m' 29 (.pointer (some ⟨m.n, 0 + 0, none⟩)) = some v := fun m' h => by rw [load_29, cellAt_of h]; rfl
    have ldO : ∀ (m' : M) acc r, GrU oc m' acc r → load? Tab.env m' 29 (.pointer (some ⟨oc, 0 + 0, none⟩)) = some r := fun m' acc r h => by rw [load_29, cellAt_of h.cell]; rfl
    rw [un_cons, un_cons, fieldAddr_31_0, onS_some, ldF mm gf, onS_some, hF.sl.len slt_uw, on2_some, bin_lss, onS_some, ifV_bool]
    refine ifB_intro (fun hlt => ?_) (fun hge => ?_)
    · have hlt : i < l.length := by simpa using hlt
      obtain ⟨x, hx⟩ : ∃ x, l[i]? = some x := ⟨_, List.getElem?_eq_getElem hlt⟩
      have hxm' := List.mem_of_getElem? hx
      have htk : (us' l).take (i + 1) = (us' l).take i ++ [x.u] := by rw [List.take_add_one, us_at hx]; rfl
      refine jn_of (fun vs m' lo => vs = [.bool (!done && decide (u.id < x.u.id))] ∧ mm = m' ∧ lo1 = lo) (fun R hR => ?_) ?_
      · rw [un_not, onS_some, ifV_bool]
        refine ifB_intro (fun h1 => ?_) (fun h1 => ?_)
        · obtain ⟨q, q0, f1, f2, f3⟩ := uw_id hF.sl hx
          obtain ⟨l0, -⟩ := unf gu
          rw [onS_some, ldF mm gf, onS_some, f1, onS_some, f2, onS_some, f3, onS_some, fieldAddr_57_0, onS_some, l0, onS_some, bin_gtr, onS_some]
          exact hR _ _ _ ⟨by rw [h1, Bool.true_and], rfl, rfl⟩
        · exact hR _ _ _ ⟨by rw [h1, Bool.false_and], rfl, rfl⟩
      rintro _ _ _ ⟨rfl, rfl, rfl⟩
      rw [un_cons, ifV_bool]
      -- one more unit of the list
      have step : ∀ (m' : M) (acc' : List UW) (r' : Value), GrU oc m' acc' r' → (∀ c, c < oc → m'.get c = m3.get c) → m13.n ≤ m'.n → acc'.length < 100000 →
          ∃ q w' m78 m81 r'' m83 m85, indexAddr? Tab.env 29 v (.int .i64 i) = some q ∧ load? Tab.env m' 57 q = some x.v ∧ C X (.func 45) [x.v] m' m'.n (x.u.v w') m78 ∧ buildSlice? Tab.env m78 29 1 [(0, x.u.v w')] = some (.slice (some ⟨m78.n, 0, none⟩) 1 1, m81) ∧
            builtin? Tab.env (M.wl m81 (M.n m81)) .append [29, 29] [r', .slice (some ⟨m78.n, 0, none⟩) 1 1] = some (r'', m83) ∧
            store? Tab.env m83 29 (.pointer (some ⟨oc, 0 + 0, none⟩)) r'' = some (m85, oc) ∧ oc + 1 ≤ m83.low ∧ GrU oc m85 (acc' ++ [⟨x.u, w'⟩]) r'' ∧ (∀ c, c < oc → m85.get c = m3.get c) ∧ m13.n ≤ m85.n := by
        intro m' acc' r' hg hk' hn' hal'
        have hxm2 : Ext m m' := ⟨by omega, fun c hc => by rw [hk' c (by omega), hx3.get c hc]⟩
        obtain ⟨q, q1, q2, _⟩ := (h.keepE hxm2).sl.at_uw (k := .i64) hx
        obtain ⟨w', m78, m81, r'', m83, m85, h1, h2, h3, h4, h5, h6, h7⟩ := push_copy hX hg ((h.keepE hxm2).sh x hxm') (h.ln x hxm') (by omega)
        exact ⟨q, w', m78, m81, r'', m83, m85, q1, q2, h1, h2, h3, h4, h5, h6, fun c hc => by rw [h7.lo c hc, hk' c hc], by have := h7.n; omega⟩
      refine ifB_intro (fun h1 => ?_) (fun h1 => ?_)
      · rw [Bool.and_eq_true] at h1
        obtain ⟨h1, h2⟩ := h1
        have hdone : done = false := by simpa using h1
        have hlt2 : u.id < x.u.id := by simpa using h2
        obtain ⟨e1, e2⟩ := hd0 hdone
        have hal0 : acc.length ≤ i := by
          have := congrArg List.length e1
          rw [us_len, List.length_take] at this
          omega
        obtain ⟨wa, m45, m48, ra, m50, m52, a1, a2, a3, a4, a5, a6, a7⟩ := push_copy hX hgr (hw.keepE hxm) hul (by omega)
        obtain ⟨q, wb, m61, m64, rb, m66, m68, b1, b2, b3, b4, b5, b6, b7, b8, b9, b10⟩ := step m52 _ ra a6 (fun c hc => by rw [a7.lo c hc, hk c hc]) (by have := a7.n; omega) (by rw [List.length_append]; simp; omega)
        have gf52 : m52.get m.n = .cells [v] 31 none := by rw [a7.lo _ (by omega), gf]
        rw [fieldAddr_31_0, onS_some, ldO mm acc r hgr, onS_some, load_un gu, onS_some]
        refine onC_of a1 ⟨Nat.le_refl _, ?_⟩
        rw [a2, on2_some, a3, on2_some, onS_some, a4, on2_some, onS_some, ldO m52 _ _ a6, onS_some, onS_some, ldF m52 gf52, onS_some, b1, onS_some, b2, onS_some]
        refine onC_of b3 ⟨Nat.le_refl _, ?_⟩
        rw [b4, on2_some, b5, on2_some, onS_some, b6, on2_some, bin_add, onS_some, wrap64 (by omega) (by omega)]
        have := a7.n
        refine ⟨i + 1, by omega, true, _, rb, rfl, by omega, b8, b9, by omega, b10, (fun h => by cases h), fun _ => ⟨?_, x.u, by rw [htk]; simp, hlt2⟩, by simp; omega⟩
        rw [htk, insU_no e2]
        show us' ((acc ++ [⟨u, wa⟩]) ++ [⟨x.u, wb⟩]) = _
        unfold us' at e1 ⊢
        rw [List.map_append, List.map_append, e1]
        simp [insU, hlt2]
      · obtain ⟨q, wb, m78, m81, rb, m83, m85, b1, b2, b3, b4, b5, b6, b7, b8, b9, b10⟩ := step mm _ r hgr hk hnm (by omega)
        rw [fieldAddr_31_0, onS_some, ldO mm acc r hgr, onS_some, onS_some, ldF mm gf, onS_some, b1, onS_some, b2, onS_some]
        refine onC_of b3 ⟨Nat.le_refl _, ?_⟩
        rw [b4, on2_some, b5, on2_some, onS_some, b6, on2_some, bin_add, onS_some, wrap64 (by omega) (by omega)]
        refine ⟨i + 1, by omega, done, _, rb, rfl, by omega, b8, b9, by omega, b10, fun hd => ?_, fun hd => ?_, by simp; omega⟩
        · obtain ⟨e1, e2⟩ := hd0 hd
          have hn : ¬ u.id < x.u.id := by
            rw [hd, Bool.not_false, Bool.true_and] at h1
            simpa using h1
          refine ⟨?_, fun y hy => ?_⟩
          · rw [htk]
            unfold us' at e1 ⊢
            rw [List.map_append, e1]; rfl
          · rw [htk] at hy
            rcases List.mem_append.1 hy with hy | hy
            · exact e2 y hy
            · rw [List.mem_singleton] at hy; subst hy; exact hn
        · obtain ⟨e1, y, hy, hlt2⟩ := hd1 hd
          refine ⟨?_, y, by rw [htk]; simp [hy], hlt2⟩
          rw [htk, insU_yes ⟨y, hy, hlt2⟩]
          unfold us' at e1 ⊢
          rw [List.map_append, e1]; rfl
    · have hi' : i = l.length := by
        have : ¬ (i : Int) < (l.length : Int) := by simpa using hge
        omega
      subst hi'
      rw [List.take_of_length_le (by rw [us_len]; exact Nat.le_refl _)] at hd0 hd1
      -- the end
      have fin : ∀ (m' : M) (acc' : List UW) (r' : Value) (lo' : Nat), GrU oc m' acc' r' → (∀ c, c < oc → m'.get c = m3.get c) → m13.n ≤ m'.n → m.n ≤ lo' → us' acc' = insU u (us' l) → acc'.length < 100000 →
          C X (.func 49) [.agg #[r']] m' m'.n (.bool (fabB (insU u (us' l)))) m' ∧ load? Tab.env m' 31 (.pointer (some ⟨oc, 0, none⟩)) = some (.agg #[r']) ∧
          (fabB (insU u (us' l)) = true → on2 (store? Tab.env m' 31 (.pointer (some ⟨m2.n, 0, none⟩)) (.agg #[r'])) fun m112 b113 => onS (load? Tab.env m112 31 (.pointer (some ⟨m2.n, 0, none⟩))) fun v12 =>
            (flat2 (mkres [v12, .int .i64 0]) = true ∧ m.n ≤ min lo' b113 ∧ m.n = m.n ∧ Ext m m ∧ AddR l u m (mkres [v12, .int .i64 0])) ∨
            ((flat2 (mkres [v12, .int .i64 0]) = false ∨ min lo' b113 < m.n) ∧ min m.n (min lo' b113) = m.n ∧ Ext m m112 ∧ AddR l u m112 (mkres [v12, .int .i64 0]))) := by
        intro m' acc' r' lo' hg hk' hn' hlo' hus hal'
        refine ⟨by rw [← hus]; exact rfvalid_ok hX hg.fab (by omega), by rw [load_31, loadCells_of hg.cell (by simp)]; rfl, fun hv => ?_⟩
        have g3 : m'.get m2.n = .cells [.slice none 0 0] 31 none := by rw [hk' _ (by omega), hg3]
        refine on2_storeV ty_31 g3 rfl rfl (by show (one r' && true) = true; rw [hg.ow.sl.one]; rfl) fun m10 hn10 hg10 hk10 => ?_
        have hg10 : m10.get m2.n = .cells [r'] 31 none := hg10
        rw [load_31, loadCells_of hg10 (by simp)]
        show onS (some (Value.agg #[r'])) _
        rw [onS_some]
        have hfab : FabV m10 acc' r' := hg.fab.keep fun c cs t g hb ht => by
          rw [hk10 c (fun e => by subst e; rw [g3] at hb; cases hb; rcases ht with ht | ht <;> exact absurd ht (by decide)), hb]
        refine .inr ⟨.inl ?_, by omega, ⟨by omega, fun c hc => by rw [hk10 c (by omega), hk' c (by omega), hx3.get c hc]⟩, .yes hfl hv hus hfab⟩
        have hne : acc' ≠ [] := fun e => by
          rw [e] at hus
          exact insU_ne u (us' l) hus.symm
        obtain ⟨bb, hv', _⟩ := Own.of hg.ow hne
        rw [hv']
        simp [mkres, flat2, flat1, flat0]
      rw [un_not, onS_some, ifV_bool]
      refine ifB_intro (fun h1 => ?_) (fun h1 => ?_)
      · have hdone : done = false := by simpa using h1
        obtain ⟨e1, e2⟩ := hd0 hdone
        obtain ⟨wa, m93, m96, ra, m98, m100, a1, a2, a3, a4, a5, a6, a7⟩ := push_copy hX hgr (hw.keepE hxm) hul (by omega)
        have hus : us' (acc ++ [⟨u, wa⟩]) = insU u (us' l) := by
          have : insU u (us' l ++ []) = us' l ++ insU u [] := insU_no e2
          rw [List.append_nil] at this
          rw [this]
          unfold us' at e1 ⊢
          rw [List.map_append, e1]; rfl
        have n7 := a7.n
        obtain ⟨f1, f2, f3⟩ := fin m100 _ ra (min (min (min lo1 mm.n) m98.low) oc) a6 (fun c hc => by rw [a7.lo c hc, hk c hc]) (by omega) (by omega) hus (by simp; omega)
        rw [fieldAddr_31_0, onS_some, ldO mm acc r hgr, onS_some, load_un gu, onS_some]
        refine onC_of a1 ⟨Nat.le_refl _, ?_⟩
        rw [a2, on2_some, a3, on2_some, onS_some, a4, on2_some, f2, onS_some]
        refine onC_of f1 ?_
        rw [un_not, onS_some, ifV_bool]
        have hmin : min (min (min (min lo1 mm.n) m98.low) oc) m100.n = min (min (min lo1 mm.n) m98.low) oc := by have := M.lt_of_get a6.cell; omega
        rw [hmin]
        cases hfv : fabB (insU u (us' l)) with
        | false =>
          rw [Bool.not_false, ifB_true, bld, onS_some]
          exact hfail m100 _ (fun c hc => by rw [a7.lo c (by omega), hk c (by omega)]) (fun hh => by rw [hfv] at hh; exact absurd hh.2 (by decide)) (by omega)
        | true =>
          rw [Bool.not_true, ifB_false, f2, onS_some]
          exact f3 hfv
      · have hdone : done = true := by simpa using h1
        obtain ⟨e1, _⟩ := hd1 hdone
        obtain ⟨f1, f2, f3⟩ := fin mm acc r (min lo1 mm.n) hgr hk hnm (by omega) e1 (by omega)
        rw [f2, onS_some]
        refine onC_of f1 ?_
        rw [un_not, onS_some, ifV_bool]
        cases hfv : fabB (insU u (us' l)) with
        | false =>
          rw [Bool.not_false, ifB_true, bld, onS_some]
          exact hfail mm _ (fun c hc => hk c (by omega)) (fun hh => by rw [hfv] at hh; exact absurd hh.2 (by decide)) (by omega)
        | true =>
          rw [Bool.not_true, ifB_false, f2, onS_some]
          exact f3 hfv
  obtain ⟨rv, m', b, hc, rfl, h1, h2⟩ := key
  exact ⟨rv, m', hc, h1, h2⟩
end Go.Proofs.YtjecgmfildhpiaaGreatDoor

/- putlogref12.Made: a valid fabric. -/
namespace Go.Proofs.YtjecgmfildhpiaaGreatDoor
open Go Go.D
variable {X : CallFn} {m : M}
structure I6 where
  a : Int
  b : Int
  c : Int
  d : Int
  e : Int
  f : Int
def I6.c' (x : I6) : List Value := [.int .i64 x.a, .int .i64 x.b, .int .i64 x.c, .int .i64 x.d, .int .i64 x.e, .int .i64 x.f]
def I6.ok (x : I6) : Prop := R64 x.a ∧ R64 x.b ∧ R64 x.c ∧ R64 x.d ∧ R64 x.e ∧ R64 x.f
instance : Rep I6 where
  ty := 91
  sz := 6
  agg := true
  tys := []
  rep _ x cs := cs = x.c'
  pos := by decide
  one := by intro h; cases h
  len := by rintro _ _ _ rfl; rfl
  ones := by rintro _ _ _ rfl; rfl
  keep := by rintro _ _ _ _ rfl _; rfl
theorem slt_i6 : SlT Tab.env 22 91 I6 := ⟨Tab.t22, Tab.t91, by kernel_rfl, ⟨_, rfl⟩, rfl, by kernel_rfl, rfl, rfl⟩
/-- Six integers that were handed in. -/
theorem i6_at {l : List I6} {v : Value} (h : SlR m l v) {i : Nat} {x : I6} (hx : l[i]? = some x) : ∃ b o, indexAddr? Tab.env 22 v (.int .i64 i) = some (.pointer (some ⟨b, o, none⟩)) ∧ load? Tab.env m 91 (.pointer (some ⟨b, o, none⟩)) = some (.agg x.c'.toArray) ∧ load? Tab.env m 3 (.pointer (some ⟨b, o + 5, none⟩)) = some (.int .i64 x.f) := by
  obtain ⟨p, cs, e1, e2, e3⟩ := h.index slt_i6 (k := .i64) hx
  have e3 : cs = x.c' := e3
  subst e3
  have hlt := (List.getElem?_eq_some_iff.1 hx).1
  rcases h with h | h
  · obtain ⟨b, o, bc, g, cs, f1, hb, hr, hle, hj⟩ := h.indexA slt_i6 (k := .i64) hx
    have hr : cs = x.c' := hr
    subst hr
    rw [e1] at f1
    cases f1
    refine ⟨b, o, e1, e2, ?_⟩
    rw [load_3, cellAt_of hb, hj 5 (by decide)]; rfl
  · rcases h with ⟨_, rfl⟩ | ⟨b, o, c, bc, rfl, hb, hel⟩
    · simp at hx
    · obtain ⟨hle, hr⟩ := hel i x hx
      have hr : (bc.drop (o + i * 6)).take 6 = x.c' := hr
      have f1 : indexAddr? Tab.env 22 (.slice (some ⟨b, o, none⟩) l.length c) (.int .i64 i) = some (.pointer (some ⟨b, o + i * 6, none⟩)) := by
        have hc : 0 ≤ (i : Int) ∧ (i : Int) < (l.length : Int) ∧ 0 < Tab.t22.es := ⟨by omega, by omega, by decide⟩
        have hd : Tab.t22.d = .slice 91 := rfl
        simp only [indexAddr?, ty_22, hd]
        rw [if_pos hc, addr_add rfl]; rfl
      rw [e1] at f1
      cases f1
      refine ⟨b, o + i * 6, e1, e2, ?_⟩
      have h5 : bc[o + i * 6 + 5]? = some (.int .i64 x.f) := by
        have := congrArg (·[5]?) hr
        simp only [List.getElem?_take_of_lt (show 5 < 6 by decide), List.getElem?_drop] at this
        rw [this]; rfl
      rw [load_3, cellAt_ro hb h5 rfl]
set_option maxRecDepth 100000 in
theorem made12_ok (hX : NoX X) {xs : List I6} {v : Value} (hv : SlR m xs v) (hok : ∀ x ∈ xs, x.ok) (hlen : xs.length < 9223372036854775808) :
    ∃ l r m', C X (.func 10) [v] m m.n (.agg #[r]) m' ∧ Ext m m' ∧ FabV m' l r ∧ FabP (us' l) := by
  have key : ∃ rv m' b, C X (.func 10) [v] m b rv m' ∧ b = m.n ∧ Ext m m' ∧ ∃ l r, rv = .agg #[r] ∧ FabV m' l r ∧ FabP (us' l) := by
    refine Cl.gen (R := fun rv m' b => b = m.n ∧ Ext m m' ∧ ∃ l r, rv = .agg #[r] ∧ FabV m' l r ∧ FabP (us' l)) (hX.no _ rfl) fn_10 rfl ?_
    rw [F10]; dsimp only [plainW]
    refine onM_push fun m1 hn1 hg1 hk1 => ?_
    refine onM_push fun m2 hn2 hg2 hk2 => ?_
    have hx2 : Ext m m2 := ⟨by omega, fun c hc => by rw [hk2 c (by omega), hk1 c hc]⟩
    have g1 : m2.get m.n = .cells [.slice none 0 0] 31 none := by rw [hk2 _ (by omega), hg1]
    have fab0 : ∀ mm : M, FabV mm [] (.slice none 0 0) := fun mm => ⟨.nil, fun x hx => (by cases hx), fun x hx => (by cases hx), .inl rfl⟩
    have fabp0 : FabP (us' []) := ⟨by simp [us'], fun u hu => (by simp [us'] at hu), fun i a b ha => (by simp [us'] at ha), fun i k a b _ ha => (by simp [us'] at ha)⟩
    unfold ptrTo
    refine Lp.intro (γ := Nat) (fun i => 12 - i) (fun i vs mm lo => ∃ l r, vs = [.int .i64 i] ∧ i ≤ 12 ∧ Ext m mm ∧ m2.n ≤ mm.n ∧ mm.get m.n = .cells [.slice none 0 0] 31 none ∧ mm.get m1.n = .cells [r] 31 none ∧ FabV mm l r ∧ FabP (us' l) ∧ m.n ≤ lo ∧ (l = [] → r = .slice none 0 0)) 0
      ⟨[], _, rfl, by omega, hx2, Nat.le_refl _, g1, hg2, fab0 _, fabp0, Nat.le_refl _, fun _ => rfl⟩ ?_
    rintro i vs mm lo ⟨l, r, rfl, hi, hx, hnm, ga, gb, hF, hP, hlo, hnil⟩
    have hll : l.length ≤ 12 := by have := hP.len; rwa [us_len] at this
    rw [un_cons]
    refine jn_of (fun vs m' lo' => vs = [.bool (decide (i < xs.length) && decide (i < 12))] ∧ mm = m' ∧ lo = lo') (fun R hR => ?_) ?_
    · rw [(hv.keepE hx).len slt_i6, on2_some, bin_lss, onS_some, ifV_bool]
      refine ifB_intro (fun h => ?_) (fun h => ?_)
      · have h : i < xs.length := by simpa using h
        rw [bin_lss, onS_some]
        refine hR _ _ _ ⟨?_, rfl, rfl⟩
        rw [decide_eq_true h, Bool.true_and]
        congr 2
        rw [decide_eq_decide]; omega
      · have h : ¬ i < xs.length := by simpa using h
        exact hR _ _ _ ⟨by rw [decide_eq_false h]; rfl, rfl, rfl⟩
    rintro _ _ _ ⟨rfl, rfl, rfl⟩
    rw [un_cons, ifV_bool]
    have ldF : ∀ (m' : M) (b : Nat) (r : Value), m'.get b = .cells [r] 31 none → load? Tab.env m' 31 (.pointer (some ⟨b, 0, none⟩)) = some (.agg #[r]) := fun m' b r h => by rw [load_31, loadCells_of h (by simp)]; rfl
    refine ifB_intro (fun h => ?_) (fun h => ?_)
    · simp only [Bool.and_eq_true, decide_eq_true_eq] at h
      obtain ⟨hix, hi12⟩ := h
      obtain ⟨x, hxi⟩ : ∃ x, xs[i]? = some x := ⟨_, List.getElem?_eq_getElem hix⟩
      obtain ⟨k0, k1, k2, k3, k4, k5⟩ := hok x (List.mem_of_getElem? hxi)
      obtain ⟨b, o, e1, e2, e3⟩ := i6_at (hv.keepE hx) hxi
      have e4 : indexAddr? Tab.env 91 (.pointer (some ⟨b, o, none⟩)) (.int .i64 5) = some (.pointer (some ⟨b, o + 5, none⟩)) := idx6 (i := 5) (by decide)
      rw [ldF mm _ _ gb, onS_some, bin_mul, onS_some, e1, onS_some, e4, onS_some, e3, onS_some]
      refine onC_of (rpick_ok hX k5 (by decide)) ⟨Nat.le_refl _, ?_⟩
      rw [bin_add, onS_some, onS_some, e2, onS_some]
      obtain ⟨u, w, m30, hc30, hx30, hs30, hl30⟩ := block_ok (m := mm) hX (wr_R64 _) k0 k1 k2 k3 k4 k5
      refine onC_of hc30 ⟨Nat.le_refl _, ?_⟩
      obtain ⟨rv, m33, hc33, hx33, hr33⟩ := add_ok (m := m30) hX (hF.keepE hx30) (by omega) hs30 (by omega)
      refine onC_of hc33 ⟨Nat.le_refl _, ?_⟩
      have n30 := hx30.n
      have n33 := hx33.n
      have hx333 := hx30.trans hx33
      by_cases hc : fabB (us' l) = true ∧ fabB (insU u (us' l)) = true
      · unfold AddR at hr33
        rw [if_pos hc] at hr33
        obtain ⟨l', r', rfl, hus, hF'⟩ := hr33
        rw [extr_tuple, extr_tuple]
        simp only [List.getElem?_cons_zero, List.getElem?_cons_succ, onS_some]
        refine onM_push fun m37 hn37 hg37 hk37 => ?_
        have or : one r' = true := hF'.sl.one
        refine on2_storeV ty_31 hg37 rfl rfl (by show (one r' && true) = true; rw [or]; rfl) fun m38 hn38 hg38 hk38 => ?_
        have hg38 : m38.get m33.n = .cells [r'] 31 none := hg38
        have hx38 : Ext m33 m38 := ⟨by omega, fun c hc => by rw [hk38 c (by omega), hk37 c hc]⟩
        rw [bin_eql, onS_some, ifV_bool, decide_eq_true rfl, ifB_true, ldF m38 _ _ hg38, onS_some]
        have gb38 : m38.get m1.n = .cells [r] 31 none := hx38.cells (hx333.cells gb)
        refine on2_storeV ty_31 gb38 rfl rfl (by show (one r' && true) = true; rw [or]; rfl) fun m42 hn42 hg42 hk42 => ?_
        have hg42 : m42.get m1.n = .cells [r'] 31 none := hg42
        rw [bin_add, onS_some, wrap64 (by omega) (by omega)]
        refine ⟨i + 1, by omega, l', r', rfl, by omega, ⟨by have := hx.n; omega, fun c hc => by rw [hk42 c (by omega), hx38.get c (by have := hx.n; omega), hx333.get c (by have := hx.n; omega), hx.get c hc]⟩, by omega, ?_, hg42, ?_, ?_, by have := hx.n; omega, fun e => ?_⟩
        · rw [hk42 _ (by omega), hx38.get _ (by omega), hx333.get _ (by omega), ga]
        · exact (hF'.keepE hx38).keep fun c cs t g hb ht => by
            rw [hk42 c (fun e => by subst e; rw [gb38] at hb; cases hb; rcases ht with ht | ht <;> exact absurd ht (by decide)), hb]
        · rw [hus]; exact fabB_iff.1 hc.2
        · rw [e] at hus
          exact absurd hus.symm (insU_ne u _)
      · unfold AddR at hr33
        rw [if_neg hc] at hr33
        subst hr33
        rw [extr_tuple, extr_tuple]
        simp only [List.getElem?_cons_zero, List.getElem?_cons_succ, onS_some]
        refine onM_push fun m37 hn37 hg37 hk37 => ?_
        refine on2_storeV ty_31 hg37 rfl rfl rfl fun m38 hn38 hg38 hk38 => ?_
        have hx38 : Ext m33 m38 := ⟨by omega, fun c hc => by rw [hk38 c (by omega), hk37 c hc]⟩
        rw [bin_eql, onS_some, ifV_bool, show decide ((120 : Int) = 0) = false from rfl, ifB_false, bin_add, onS_some, wrap64 (by omega) (by omega)]
        have hxx := hx333.trans hx38
        exact ⟨i + 1, by omega, l, r, rfl, by omega, hx.trans hxx, by have := hxx.n; omega, hxx.cells ga, hxx.cells gb, hF.keepE hxx, hP, by have := hx.n; omega, hnil⟩
    · rw [ldF mm _ _ gb, onS_some]
      have or : one r = true := hF.sl.one
      refine on2_storeV ty_31 ga rfl rfl (by show (one r && true) = true; rw [or]; rfl) fun m47 hn47 hg47 hk47 => ?_
      have hg47 : m47.get m.n = .cells [r] 31 none := hg47
      rw [ldF m47 _ _ hg47, onS_some]
      have hF47 : FabV m47 l r := hF.keep fun c cs t g hb ht => by
        rw [hk47 c (fun e => by subst e; rw [ga] at hb; cases hb; rcases ht with ht | ht <;> exact absurd ht (by decide)), hb]
      have hx47 : Ext m m47 := ⟨by have := hx.n; omega, fun c hc => by rw [hk47 c (by omega), hx.get c hc]⟩
      by_cases hl : l = []
      · have hr := hnil hl
        subst hl
        subst hr
        exact .inl ⟨rfl, by omega, rfl, .refl, [], _, rfl, fab0 m, fabp0⟩
      · refine .inr ⟨.inl ?_, by omega, hx47, l, r, rfl, hF47, hP⟩
        rcases hF.cap with h | ⟨bb, o, c, bc, g, rfl, _⟩
        · exact absurd h hl
        · simp [mkres, flat2, flat1, flat0]
  obtain ⟨rv, m', b, hc, rfl, h1, l, r, rfl, h2, h3⟩ := key
  exact ⟨l, r, m', hc, h1, h2, h3⟩
end Go.Proofs.YtjecgmfildhpiaaGreatDoor

/- Rows of six integers as an argument. -/
namespace Go.Proofs.YtjecgmfildhpiaaGreatDoor
open Go Go.D Go.ChangeShapes Go.WideShapes Go.ChangeAt Go.RowKit
theorem u_sixes : Tryz.prog.underlying 22 = some (.slice 91) := by kernel_rfl
theorem u_six : Tryz.prog.underlying 91 = some (.array 6 3) := by kernel_rfl
section
variable {H : Type} {enc : TypeId × Value → H} {W W' : World} {sp : Nat → Bool} {held : Bool} {base : Nat}
theorem el_six : ∀ fuel cs x, DataW.trod enc Tryz.prog W 0 sp held fuel 91 cs = some x → ∃ y : I6, y.ok ∧ (∀ m, Rep.rep m y cs) ∧ ∀ u ∈ cs, flat0 u = true := by
  intro fuel cs x h
  obtain ⟨l, rfl, hl, hr⟩ := ints_of u_six (by kernel_rfl) h
  match l, hl, hr with
  | [a, b, c, d, e, f], _, hr =>
    refine ⟨⟨a, b, c, d, e, f⟩, ⟨hr _ (by simp), hr _ (by simp), hr _ (by simp), hr _ (by simp), hr _ (by simp), hr _ (by simp)⟩, fun m => rfl, fun u hu => ?_⟩
    obtain ⟨z, _, rfl⟩ := List.mem_map.1 hu
    rfl
set_option maxRecDepth 100000 in
theorem sixes_of {v : Value} {d : DataW H} {ps : List MemPlace} (hok : Value.okWide Tryz.prog W .any base 22 v) (h : DataW.Trod enc Tryz.prog W 0 sp held 22 v d ps) :
    VRel (sgOf W) v v ∧ ∃ l : List I6, SlI (storeOf W) l v ∧ l.length < 9223372036854775808 ∧ ∀ y ∈ l, y.ok := by
  simp only [Value.okWide, u_sixes] at hok
  obtain ⟨fuel, h⟩ := h
  have hv : v.cells.toList = [v] := by
    cases v with
    | agg cs =>
      exfalso
      revert hok
      simp [Cell.okWide, Cell.ok, u_sixes]
    | _ => rfl
  rw [hv] at h
  obtain ⟨a, l, b, c, d⟩ := slI_of (α := I6) (v := v) u_sixes (by kernel_rfl) el_six hok h
  exact ⟨a, l, b, c, d⟩
theorem stays22 {v : Value} {d : DataW H} {ps : List MemPlace} (hb : Below W.heap.size W W') (h : DataW.Trod enc Tryz.prog W 0 (fun _ => true) true 22 v d ps) (hlt : ∀ x ∈ ps, x.block < W.heap.size) (sp : Nat → Bool) (hs : ∀ x ∈ ps, sp x.block = true) : DataW.Trod enc Tryz.prog W' 0 sp true 22 v d ps :=
  WideElems.Trod_stays laidOut (by kernel_rfl) (of_decide_eq_true (by kernel_rfl)) h (fun x hx => hb.same (hlt x hx)) hs
end
end Go.Proofs.YtjecgmfildhpiaaGreatDoor

/- A body, leaf by leaf. -/
namespace Go.D
open Go
section
variable {E : Env} {call : CallFn} {n : Nat}
def flat : Code → List Code
  | .seq a b => flat a ++ flat b
  | c => [c]
def execs (f : Code → Fr → Option (Ex × Fr)) : List Code → Fr → Option (Ex × Fr)
  | [], fr => some (.normal, fr)
  | c :: r, fr => match f c fr with
    | some (.normal, fr) => execs f r fr
    | r => r
theorem execs_app (f : Code → Fr → Option (Ex × Fr)) : ∀ (a b : List Code) (fr : Fr), execs f (a ++ b) fr = match execs f a fr with | some (.normal, fr) => execs f b fr | r => r
  | [], b, fr => rfl
  | c :: a, b, fr => by
    show (match f c fr with | some (.normal, fr) => execs f (a ++ b) fr | r => r) = match (match f c fr with | some (.normal, fr) => execs f a fr | r => r) with | some (.normal, fr) => execs f b fr | r => r
    cases h : f c fr with
    | none => rfl
    | some p =>
      obtain ⟨e, fr1⟩ := p
      cases e with
      | normal => exact execs_app f a b fr1
      | exit id => rfl
      | ret => rfl
theorem exec_flat : ∀ (c : Code) (fr : Fr), exec? E call n c fr = execs (exec? E call n) (flat c) fr
  | .seq a b, fr => by
    rw [flat, execs_app, ← exec_flat a fr]
    show (match exec? E call n a fr with | some (.normal, fr) => exec? E call n b fr | r => r) = _
    cases h : exec? E call n a fr with
    | none => rfl
    | some p =>
      obtain ⟨e, fr1⟩ := p
      cases e with
      | normal => exact exec_flat b fr1
      | exit id => rfl
      | ret => rfl
  | .skip, fr => one_leaf _ fr
  | .region _ _ _, fr => one_leaf _ fr
  | .cond _ _ _, fr => one_leaf _ fr
  | .block _ _, fr => one_leaf _ fr
  | .loop _, fr => one_leaf _ fr
  | .exit _, fr => one_leaf _ fr
  | .ret, fr => one_leaf _ fr
  | .label _, fr => one_leaf _ fr
  | .goto _, fr => one_leaf _ fr
  | .rangeFunc _ _ _ _, fr => one_leaf _ fr
  | .scope _, fr => one_leaf _ fr
  | .refuse _, fr => one_leaf _ fr
where
  one_leaf (c : Code) (fr : Fr) : exec? E call n c fr = execs (exec? E call n) [c] fr := by
    unfold execs
    cases h : exec? E call n c fr with
    | none => rfl
    | some p =>
      obtain ⟨e, fr1⟩ := p
      cases e <;> rfl
theorem execs_cut {f : Code → Fr → Option (Ex × Fr)} {l : List Code} {fr fr' : Fr} (a k : Nat) (h : execs f ((l.drop a).take k) fr = some (.normal, fr')) : execs f (l.drop a) fr = execs f (l.drop (a + k)) fr' := by
  have e : l.drop a = (l.drop a).take k ++ l.drop (a + k) := by rw [← List.drop_drop, List.take_append_drop]
  rw [e, execs_app, h]
/-- A call, out of its body's run. -/
theorem call_of_exec {X : CallFn} {f : FuncId} {fn : Func} {c : Code} {args : List Value} {m : M} {fr : Fr} {v : Value} (hX : X (.func f) args m = none) (hf : E.fn.get f = some fn) (hb : fn.body = some c) (hle : Nat.ble args.length fn.ntmps = true)
    (he : exec? E (call? E X n) n c { T := enter args 0, m := { m with low := m.n } } = some (.ret, fr)) (hr : result? E fn fr.T fr.m = some v) (hv : flat2 v = true) (hl : Nat.ble m.n fr.m.low = true) : call? E X (n + 1) (.func f) args m = some (v, m) := by
  unfold call?
  rw [hX, hf]
  dsimp only
  rw [hb]
  dsimp only
  rw [hle, cond_true, he]
  dsimp only
  rw [hr]
  dsimp only
  rw [hv, hl]
  rfl
end
end Go.D

/- What is known of calls, put together; runs of a region, part by part; a call known at one store. -/
namespace Go.D
open Go
section
variable {P : Program}
noncomputable def orX (X Y : CallFn) : CallFn := fun f args m => match X f args m with | some r => some r | none => Y f args m
theorem orX_cases {X Y : CallFn} {f : Fn} {args : List Value} {m : M} {r : Value × M} (h : orX X Y f args m = some r) : X f args m = some r ∨ Y f args m = some r := by
  unfold orX at h
  cases hx : X f args m with
  | none => rw [hx] at h; exact .inr h
  | some r' => rw [hx] at h; exact .inl h
theorem orX_ok {X Y : CallFn} (hX : CallOK P X) (hY : CallOK P Y) : CallOK P (orX X Y) :=
  ⟨fun f args m v m' h => (orX_cases h).elim (hX.func f args m v m') (hY.func f args m v m'),
   fun l args m v m' h => (orX_cases h).elim (hX.yield l args m v m') (hY.yield l args m v m'),
   fun f args m v m' h => (orX_cases h).elim (hX.keep f args m v m') (hY.keep f args m v m'),
   fun a m v m' b h => (orX_cases h).elim (hX.prv a m v m' b) (hY.prv a m v m' b)⟩
end
section
variable {E : Env} {call : CallFn}
theorem draw_app {ops : Array Oper} : ∀ (a b : List Oper) (j : Nat) (fr : Fr), draw? E call ops (a ++ b) j fr = match draw? E call ops a j fr with | some fr => draw? E call ops b (j + a.length) fr | none => none
  | [], b, j, fr => rfl
  | o :: a, b, j, fr => by
    have hj : j + (o :: a).length = (j + 1) + a.length := by simp only [List.length_cons]; omega
    rw [List.cons_append, draw?_cons, draw?_cons, hj]
    cases wanted? ops fr.T o with
    | false => simp only [cond_false]; exact draw_app a b _ _
    | true =>
      simp only [cond_true]
      cases op? o.op E call fr.T { fr.m with low := fr.m.n } with
      | none => rfl
      | some r =>
        dsimp only
        cases (Nat.ble fr.m.n r.2.low || (barrier ops j || priv ops j fr.m fr.T o.op)) with
        | false => rfl
        | true => simp only [cond_true]; exact draw_app a b _ _
theorem draw_cut {ops : Array Oper} {l : List Oper} {fr fr' : Fr} (a k j : Nat) (hk : ((l.drop a).take k).length = k) (h : draw? E call ops ((l.drop a).take k) j fr = some fr') : draw? E call ops (l.drop a) j fr = draw? E call ops (l.drop (a + k)) (j + k) fr' := by
  have e : l.drop a = (l.drop a).take k ++ l.drop (a + k) := by rw [← List.drop_drop, List.take_append_drop]
  rw [e, draw_app, h, hk]
end
end Go.D

/- slices.Sorted over the keys of a map: what is known of the call beforehand. -/
namespace Go.D
open Go

section
variable {P : Program} {σ : Sg} {m : M} {w w' : World}

/-- A new block, somewhere behind what lay there. -/
theorem Ev.new_at (h : Sim P σ m w) {g : Nat} {gr : Option (Nat × Nat × Nat)} {ob : Ob} (hk : ∀ B, B < w.heap.size → w'.heap[B]? = w.heap[B]?) (hle : w.heap.size ≤ w'.heap.size) (hg : w.heap.size ≤ g) (hg' : g < w'.heap.size)
    (hh : Holds (σ.add m.n ⟨g, gr⟩) ⟨g, gr⟩ w' ob) (ho : w'.os = w.os) (ht : w'.tape = w.tape) (hu : w'.output = w.output) : Ev P σ m w (σ.add m.n ⟨g, gr⟩) (m.push ob) w' := by
  have hn := h.next_none
  have hl := Sg.le_add (i := ⟨g, gr⟩) hn
  have hcase : ∀ b i, (σ.add m.n ⟨g, gr⟩) b = some i → (b = m.n ∧ i = ⟨g, gr⟩) ∨ (b ≠ m.n ∧ σ b = some i) := by
    intro b i hb
    unfold Sg.add at hb
    by_cases hbn : b = m.n
    · rw [if_pos hbn] at hb; exact .inl ⟨hbn, by injection hb with hb; exact hb.symm⟩
    · rw [if_neg hbn] at hb; exact .inr ⟨hbn, hb⟩
  have hpn : (m.push ob).n = m.n + 1 := rfl
  refine ⟨hl, ⟨?_, ?_, ?_, ?_, fun g hg => hl g _ (h.glob g hg)⟩, Nat.le_refl _, by omega, hle, ?_, ?_, fun B hB _ => hk B hB, ho, ht, hu⟩
  · intro b i hb
    rcases hcase b i hb with ⟨rfl, _⟩ | ⟨_, hb⟩
    · omega
    · have := h.dom b i hb; omega
  · intro b i hb
    rw [M.get_push]
    rcases hcase b i hb with ⟨rfl, rfl⟩ | ⟨hne, hb⟩
    · rw [if_pos rfl]; exact hh
    · rw [if_neg hne]; exact (h.obj b i hb).keep hl (hk _ (h.lt b i hb))
  · intro b i hb
    rcases hcase b i hb with ⟨_, rfl⟩ | ⟨_, hb⟩
    · exact hg'
    · have := h.lt b i hb; omega
  · intro b b' i i' hb hb' hd hd' he
    rw [M.get_push] at hd hd'
    rcases hcase b i hb with ⟨rfl, rfl⟩ | ⟨hne, hb⟩ <;> rcases hcase b' i' hb' with ⟨rfl, rfl⟩ | ⟨hne', hb'⟩
    · rfl
    · have := h.lt b' i' hb'; dsimp only at he; omega
    · have := h.lt b i hb; dsimp only at he; omega
    · rw [if_neg hne] at hd; rw [if_neg hne'] at hd'; exact h.inj b b' i i' hb hb' hd hd' he
  · intro b i hb hs
    rcases hcase b i hb with ⟨rfl, rfl⟩ | ⟨_, hb⟩
    · exact ⟨Nat.le_refl _, .inl hg⟩
    · rw [hs] at hb; cases hb
  · intro b _ hb
    rw [M.get_push, if_neg (by omega)]
/-- Nothing of what the store knows has turned. -/
theorem Ev.kept (h : Sim P σ m w) (hk : ∀ B, B < w.heap.size → w'.heap[B]? = w.heap[B]?) (hle : w.heap.size ≤ w'.heap.size) (ho : w'.os = w.os) (ht : w'.tape = w.tape) (hu : w'.output = w.output) : Ev P σ m w σ m w' :=
  ⟨fun _ _ x => x, ⟨h.dom, fun b i hb => (h.obj b i hb).keep (fun _ _ x => x) (hk _ (h.lt b i hb)), fun b i hb => Nat.lt_of_lt_of_le (h.lt b i hb) hle, h.inj, h.glob⟩, Nat.le_refl _, Nat.le_refl _, hle, fun b i x y => (by rw [x] at y; cases y), fun _ _ _ => rfl, fun B hB _ => hk B hB, ho, ht, hu⟩

/-- A list of ints, with one more, in order. -/
def ins (x : Int) : List Int → List Int
  | [] => [x]
  | y :: l => bif x ≤ y then x :: y :: l else y :: ins x l
def isort : List Int → List Int
  | [] => []
  | x :: l => ins x (isort l)
/-- The keys, if they are ints, each another, each entry older than the clock. -/
def intKeys? (clock : Nat) : List MapEntry → Option (List Int)
  | [] => some []
  | e :: es =>
    match e.key, intKeys? clock es with
    | .int .i64 x, some ks => bif Nat.blt e.born clock && !(ks.contains x) && !(es.any fun f => f.born == e.born) && decide (-9223372036854775808 ≤ x) && decide (x ≤ 9223372036854775807) then some (x :: ks) else none
    | _, _ => none
end
end Go.D

/- Calls that a contract makes known: what they come to, said of a store of one's own choice. -/
namespace Go.D
open Go
section
variable {P : Program} {E : Env} {X : CallFn} {σ : Sg} {m m1 : M} {w w' : World} {f : Nat} {args : List Value} {v : Value} {args' : Array Value}
theorem Cl.calls (hE : E.OK P) (hX : CallOK P X) (hc : Cl E X (.func f) args m m.n v m1) (hs : Sim P σ m w) (hl : LRel σ args args'.toList) :
    CallsIn Fence.wide 0 P f args' w (CallRes P σ (m.wl m.n) w v (m1.wl m.n)) ∧ (callFunc f args').run P w = .ok (.enter f args') w := by
  obtain ⟨hn, _, n0, h⟩ := hc
  have h1 := h (n0 + 1) (by omega) m.n (Nat.le_refl _)
  rw [Nat.min_self] at h1
  exact call_calls hE hX (call_sound' hE hX n0) h1 (hs.low m.n) hl
/-- A result without addresses. -/
theorem CallRes.flat (hs : Sim P σ m w) (hv : flat0 v = true) {e : Ending} (h : CallRes P σ (m.wl m.n) w v (m1.wl m.n) e w') : CallRes P σ m w v m e w' := by
  obtain ⟨v', σ', rfl, hv', he⟩ := h
  have := hv'.eq_of_flat0 hv
  subst this
  exact ⟨_, σ, rfl, .flat _ hv, Ev.kept hs (fun B hB => he.heap B hB fun b i hb _ => hs.dom b i hb) he.hle he.os he.tape he.output⟩
/-- A new row: it may as well be the next block. -/
theorem Ev.row (hs : Sim P σ m w) {σ' : Sg} (he : Ev P σ (m.wl m.n) w σ' (m1.wl m.n) w') {b n : Nat} {cs : List Value} {t : TypeId} {k : Nat} (hb : m.n ≤ b) (hg : m1.get b = .cells cs t (some k)) (hf : ∀ u ∈ cs, flat0 u = true) {u' : Value}
    (hv : VRel σ' (.slice (some ⟨b, 0, none⟩) n n) u') (hn : 0 < n) : ∃ τ, VRel τ (.slice (some ⟨m.n, 0, none⟩) n n) u' ∧ Ev P σ m w τ (m.push (.cells cs t (some k))) w' := by
  have go : ∀ i : BI, σ' b = some i → Ev P σ m w (σ.add m.n i) (m.push (.cells cs t (some k))) w' := by
    intro i hi
    have hσb : σ b = none := by
      cases h : σ b with
      | none => rfl
      | some j => have := hs.dom b j h; omega
    obtain ⟨_, hnew⟩ := he.new b i hi hσb
    have hnew : w.heap.size ≤ i.blk := by
      rcases hnew with h | ⟨b0, i0, h1, _, h2⟩
      · exact h
      · have := hs.dom b0 i0 h1
        have h2 : m.n ≤ b0 := h2
        omega
    have hobj : Holds σ' i w' (.cells cs t (some k)) := by
      have := he.sim.obj b i hi
      rw [show (m1.wl m.n).get b = .cells cs t (some k) from hg] at this
      exact this
    obtain ⟨blk, gr⟩ := i
    refine Ev.new_at hs (fun B hB => he.heap B hB fun b i hb _ => hs.dom b i hb) he.hle hnew (he.sim.lt b _ hi) ?_ he.os he.tape he.output
    obtain ⟨c', h1, h2, h3, h4⟩ := hobj
    refine ⟨c', h1, h2, ⟨h3.1, fun j u u' hu hu' => ?_⟩, h4⟩
    have hff := hf u (List.mem_of_getElem? hu)
    have := (h3.2 j u u' hu hu').eq_of_flat0 hff
    subst this
    exact .flat _ hff
  have hadd : ∀ i : BI, (σ.add m.n i) m.n = some i := fun i => by unfold Sg.add; rw [if_pos rfl]
  cases hv with
  | flat _ h => cases h
  | slice a i _ _ h hsn hgr => exact ⟨_, .slice ⟨m.n, 0, none⟩ i n n (hadd i) rfl hgr, go i h⟩
  | sliceG a i _ _ c' k' sz N h hsn hgr hc => exact ⟨_, .sliceG ⟨m.n, 0, none⟩ i n n c' k' sz N (hadd i) rfl hgr hc, go i h⟩
  | empty a a' i c' k' sz N h hgr ho => omega
end
end Go.D
