/- A list that proves an answer proves the right one. Contracts: statute.Check and permit.Check. -/
import Derived.Test.YtbpmlholiohkpaaGreatDoorC3
import Derived.Test.YtbpmlholiohkpaaGreatDoorFv
/- A list that proves an answer proves the right one. -/
namespace Go.Proofs.YtbpmlholiohkpaaGreatDoor
open Go Go.D
/-- The finding is right, where the findings of the list about lesser numbers are. -/
theorem right_sound {l : Law} (hl : l.ok = true) {q : Query} {lst : List Finding} {x : Finding} (h0 : 0 ≤ x.says) (h1 : x.says < 20) (ih : ∀ y ∈ lst, 0 ≤ y.says → y.says < x.says → y.holds = soS l q y.says) (hr : rightS l q x lst = true) : x.holds = soS l q x.says := by
  have hf : ∀ k b, 0 ≤ k → k < x.says → finds lst k b = true → soS l q k = b := by
    intro k b hk0 hk h
    unfold finds at h
    obtain ⟨y, hy, hp⟩ := List.any_eq_true.1 h
    simp only [Bool.and_eq_true, decide_eq_true_eq, beq_iff_eq] at hp
    obtain ⟨rfl, rfl⟩ := hp
    exact (ih y hy hk0 hk).symm
  rw [soS_eq hl q h0 h1]
  obtain ⟨says, holds, fact, clause⟩ := x
  dsimp only at *
  unfold fndS findS
  cases holds with
  | true =>
    by_cases hc : clause = -1
    · subst hc
      rw [rightS_fact, Bool.and_eq_true] at hr
      cases hfd : (l.facts' q).find? (factSays l says) with
      | some z => rfl
      | none => exact absurd hr.2 (List.find?_eq_none.1 hfd fact (List.contains_iff_mem.1 hr.1))
    · rw [rightS_clause hc] at hr
      simp only [Bool.and_eq_true, decide_eq_true_eq] at hr
      obtain ⟨_, hm, hb⟩ := hr
      have hm := List.contains_iff_mem.1 hm
      obtain ⟨j, c, rfl, hcl⟩ := mem_rules' hm
      obtain ⟨_, _, hn, hbr, _⟩ := clause_bounds (clause_ok hl hcl)
      simp only [borneS, Int.toNat_natCast, hcl, Bool.and_eq_true, decide_eq_true_eq, Bool.not_eq_true'] at hb
      obtain ⟨hg, b1, b2⟩ := hb
      cases hfd : (l.facts' q).find? (factSays l says) with
      | some z => rfl
      | none =>
        dsimp only
        cases hrd : (l.rules' q).find? (takes l (soS l q) says) with
        | some z => rfl
        | none =>
          refine absurd ?_ (List.find?_eq_none.1 hrd _ hm)
          simp only [takes, Int.toNat_natCast, hcl, hg, decide_true, Bool.true_and, Bool.and_eq_true, Bool.not_eq_true']
          rw [List.any_eq_false] at b1 b2
          constructor
          · rw [List.any_eq_false]
            intro k hk
            have h3 := b1 k hk
            have hk' := hn k hk
            rw [hf k true hk'.1 (by omega) (by simpa using h3)]
            simp
          · rw [List.any_eq_false]
            intro k hk
            have h3 := b2 k hk
            have hk' := hbr k hk
            rw [hf k false hk'.1 (by omega) (by simpa using h3)]
            simp
  | false =>
    rw [rightS_none] at hr
    simp only [Bool.and_eq_true, decide_eq_true_eq, Bool.not_eq_true'] at hr
    obtain ⟨_, n1, n2⟩ := hr
    rw [List.any_eq_false] at n1 n2
    rw [List.find?_eq_none.2 n1]
    dsimp only
    have : (l.rules' q).find? (takes l (soS l q) says) = none := by
      rw [List.find?_eq_none]
      intro z hz ht
      obtain ⟨j, c, rfl, hcl⟩ := mem_rules' hz
      obtain ⟨_, _, hn, hbr, _⟩ := clause_bounds (clause_ok hl hcl)
      have h2 := n2 _ hz
      simp only [takes, Int.toNat_natCast, hcl, Bool.and_eq_true, decide_eq_true_eq, Bool.not_eq_true'] at ht
      obtain ⟨hg, t1, t2⟩ := ht
      rw [List.any_eq_false] at t1 t2
      simp only [givesS, barredS, Int.toNat_natCast, hcl, hg, decide_true, Bool.true_and, Bool.not_eq_true', Bool.not_eq_false, Bool.or_eq_true, List.any_eq_true] at h2
      rcases h2 with ⟨k, hk, h3⟩ | ⟨k, hk, h3⟩
      · have hk' := hn k hk
        have := t1 k hk
        rw [hf k false hk'.1 (by omega) h3] at this
        simp at this
      · have hk' := hbr k hk
        have := t2 k hk
        rw [hf k true hk'.1 (by omega) h3] at this
        simp at this
    rw [this]
theorem all_sound {l : Law} (hl : l.ok = true) {q : Query} {lst : List Finding} (h : ∀ x ∈ lst, 0 ≤ x.says ∧ x.says < 20 ∧ rightS l q x lst = true) : ∀ (n : Nat), ∀ x ∈ lst, x.says < n → x.holds = soS l q x.says
  | 0, x, hx, hn => by have := (h x hx).1; omega
  | n + 1, x, hx, hn => by
    obtain ⟨h0, h1, hr⟩ := h x hx
    exact right_sound hl h0 h1 (fun y hy _ hlt => all_sound hl h n y hy (by omega)) hr
theorem before_ge {lst : List Finding} (h : ∀ i x, lst[i]? = some x → -1 ≤ beforeF lst i → beforeF lst i + 1 ≤ x.says) : ∀ (i : Nat), i ≤ lst.length → -1 ≤ beforeF lst i
  | 0, _ => by unfold beforeF; simp
  | i + 1, hi => by
    have hx : lst[i]? = some lst[i] := List.getElem?_eq_getElem (by omega)
    have h1 := before_ge h i (by omega)
    have := h i _ hx h1
    unfold beforeF
    rw [if_neg (by omega), Nat.add_sub_cancel, hx]
    dsimp only
    omega
/-- What is proved is so. -/
theorem proves_sound {l : Law} (hl : l.ok = true) {q : Query} {n : Int} {holds : Bool} {lst : List Finding} (h : provesS l q n holds lst = true) : holds = soS l q n := by
  unfold provesS at h
  simp only [Bool.and_eq_true, decide_eq_true_eq] at h
  obtain ⟨hall, hpos, hlast, hh⟩ := h
  rw [List.all_eq_true] at hall
  have hat : ∀ i x, lst[i]? = some x → (beforeF lst i + 1 ≤ x.says ∧ x.says ≤ 19) ∧ rightS l q x lst = true := by
    intro i x hx
    have := hall i (List.mem_range.2 (List.getElem?_eq_some_iff.1 hx).1)
    unfold okAt at this
    rw [hx] at this
    simpa only [inB, Bool.and_eq_true, decide_eq_true_eq] using this
  have hbef := before_ge (lst := lst) fun i x hx _ => (hat i x hx).1.1
  have hmem : ∀ x ∈ lst, 0 ≤ x.says ∧ x.says < 20 ∧ rightS l q x lst = true := by
    intro x hx
    obtain ⟨i, hi⟩ := List.mem_iff_getElem?.1 hx
    have h1 := hat i x hi
    have h2 := hbef i (Nat.le_of_lt (List.getElem?_eq_some_iff.1 hi).1)
    exact ⟨by omega, by omega, h1.2⟩
  have hx : lst[lst.length - 1]? = some lst[lst.length - 1] := List.getElem?_eq_getElem (by omega)
  rw [hx] at hh
  unfold lastSays beforeF at hlast
  rw [if_neg (by omega), hx] at hlast
  dsimp only at hlast hh
  have hm := List.mem_of_getElem? hx
  rw [beq_iff_eq] at hh
  rw [← hh, ← hlast]
  exact all_sound hl hmem 20 _ hm (by have := (hmem _ hm).2.1; omega)
end Go.Proofs.YtbpmlholiohkpaaGreatDoor

/- Contracts: statute.Check and permit.Check. -/
namespace Go.Proofs.YtbpmlholiohkpaaGreatDoor
open Go Go.D
variable {X : CallFn} {m : M}
theorem scheck_ok (hX : NoX X) {l : Law} {v1 v2 v3 : Value} (hl : LawV m l v1 v2 v3) (q : Query) (hlo : l.ok = true) (hqo : q.ok = true) {lst : List Finding} {pv : Value} (hS : Sl m lst pv) (hs : lst.length < 1000) (holds : Bool) :
    C X (.func 13) [.agg #[v1, v2, v3], q.v, .bool holds, pv] m m.n (.bool (provesS l q q.says holds lst)) m := by
  refine Cl.flat (hX.no 13 rfl) fn_13 rfl rfl ?_
  rw [F13]
  refine onM_push fun m1 hn1 hg1 hk1 => ?_
  refine onM_push fun m2 hn2 hg2 hk2 => ?_
  have hg1' := (hk2 m.n (by omega)).trans hg1
  simp only [cells_agg] at hg1' hg2
  have he2 : Ext m m2 := ⟨by omega, fun b hb => by rw [hk2 b (by omega), hk1 b hb]⟩
  simp only [onS_some, on2_some, onFn_func, ifV_bool, ifB_true, ifB_false, bin_leq, bin_lss, bin_geq, bin_gtr, bin_eql, bin_neq, un_not, ptrTo, nilck_ptr, nilck_func, Nat.zero_add, Nat.reduceAdd, List.getElem?_cons_zero, List.getElem?_cons_succ, List.drop_zero, List.drop_succ_cons, List.take_succ_cons, List.take_zero, Option.map_some, cells_agg, cells_int, cells_bool, cells_slice, cells_ptr, cells_map, cells_func, fieldAddr_55_1, load_3, load_38, load_55]
  rw [loadCells_of hg1' (by simp)]
  simp only [onS_some, on2_some, onFn_func, ifV_bool, ifB_true, ifB_false, bin_leq, bin_lss, bin_geq, bin_gtr, bin_eql, bin_neq, un_not, ptrTo, nilck_ptr, nilck_func, Nat.zero_add, Nat.reduceAdd, List.getElem?_cons_zero, List.getElem?_cons_succ, List.drop_zero, List.drop_succ_cons, List.take_succ_cons, List.take_zero, Option.map_some, cells_agg, cells_int, cells_bool, cells_slice, cells_ptr, cells_map, cells_func]
  rw [loadCells_of hg2 (by simp)]
  simp only [onS_some, on2_some, onFn_func, ifV_bool, ifB_true, ifB_false, bin_leq, bin_lss, bin_geq, bin_gtr, bin_eql, bin_neq, un_not, ptrTo, nilck_ptr, nilck_func, Nat.zero_add, Nat.reduceAdd, List.getElem?_cons_zero, List.getElem?_cons_succ, List.drop_zero, List.drop_succ_cons, List.take_succ_cons, List.take_zero, Option.map_some, cells_agg, cells_int, cells_bool, cells_slice, cells_ptr, cells_map, cells_func]
  obtain ⟨bj, bm, w1, w2, m6, hc6, hJ6, he6, hbj, hbm⟩ := open_ok hX (hl.keepE he2) q hlo hqo
  refine onC_of hc6 ?_
  simp only [extr_tuple, onS_some, on2_some, onFn_func, ifV_bool, ifB_true, ifB_false, bin_leq, bin_lss, bin_geq, bin_gtr, bin_eql, bin_neq, un_not, ptrTo, nilck_ptr, nilck_func, Nat.zero_add, Nat.reduceAdd, List.getElem?_cons_zero, List.getElem?_cons_succ, List.drop_zero, List.drop_succ_cons, List.take_succ_cons, List.take_zero, Option.map_some, cells_agg, cells_int, cells_bool, cells_slice, cells_ptr, cells_map, cells_func, fieldAddr_55_1, load_3, load_38, load_55, decide_true, cellAt_of (he6.cells hg2)]
  refine onC_of (proves_ok hX hlo hJ6 ((hS.keepE he2).keepE he6) hs _ holds) ?_
  have := he6.n
  exact ⟨rfl, by omega⟩
/-- An index names an element that applies, or -1 says that none does. -/
def namedS {α : Type} (p : α → Bool) (l : List α) (i : Int) : Bool := if i = -1 then !(l.any p) else inB i 0 (l.length - 1) && (match l[i.toNat]? with | some x => p x | none => false)
theorem named38_ok (hX : NoX X) {l : List Deed} {v : Value} {g : Fn} {fi ca : Array Value} (p : Deed → Bool) (hb : l.length < 4611686018427387904) (hl : Sl m l v)
    (hs : ∀ x ∈ l, ∀ cs, Rep.rep m x cs → C X g (fi.toList ++ ([Rep.val Deed cs] ++ ca.toList)) m m.n (.bool (p x)) m) (i : Int) : C X (.func 38) [v, .int .i64 i, .func g fi ca] m m.n (.bool (namedS p l i)) m := by
  refine Cl.flat (hX.no 38 rfl) fn_38 rfl rfl ?_
  rw [F38]
  simp only [bin_eql, onS_some, ifV_bool]
  refine ifB_intro (fun h => ?_) (fun h => ?_)
  · have h : i = -1 := by simpa using h
    refine onC_of (first33_ok hX p hb hl hs) ?_
    simp only [bin_lss, onS_some]
    exact ⟨by rw [mkres, namedS, if_pos h, idx_neg], by omega⟩
  · have h : i ≠ -1 := by simpa using h
    rw [hl.len slt_deed, on2_some, bin_sub, onS_some, wrap64 (by omega) (by omega)]
    refine onC_of (isIn46_ok hX _ _ _) ?_
    rw [ifV_bool]
    refine ifB_intro (fun h1 => ?_) (fun h1 => ⟨by rw [mkres, namedS, if_neg h, h1]; rfl, by omega⟩)
    have h1' := h1
    simp only [inB, Bool.and_eq_true, decide_eq_true_eq] at h1'
    obtain ⟨k, rfl⟩ : ∃ k : Nat, i = k := ⟨i.toNat, by omega⟩
    have hx : l[k]? = some l[k] := List.getElem?_eq_getElem (by omega)
    obtain ⟨p', cs, e1, e2, hrep⟩ := hl.index slt_deed (k := .i64) hx
    rw [e1, onS_some, e2, onS_some, onFn_func]
    refine onC_of (hs _ (List.mem_of_getElem? hx) cs hrep) ?_
    refine ⟨?_, by omega⟩
    rw [mkres, namedS, if_neg h, h1, Int.toNat_natCast, hx]; rfl
theorem named39_ok (hX : NoX X) {l : List Grant} {v : Value} {g : Fn} {fi ca : Array Value} (p : Grant → Bool) (hb : l.length < 4611686018427387904) (hl : Sl m l v)
    (hs : ∀ x ∈ l, ∀ cs, Rep.rep m x cs → C X g (fi.toList ++ ([Rep.val Grant cs] ++ ca.toList)) m m.n (.bool (p x)) m) (i : Int) : C X (.func 39) [v, .int .i64 i, .func g fi ca] m m.n (.bool (namedS p l i)) m := by
  refine Cl.flat (hX.no 39 rfl) fn_39 rfl rfl ?_
  rw [F39]
  simp only [bin_eql, onS_some, ifV_bool]
  refine ifB_intro (fun h => ?_) (fun h => ?_)
  · have h : i = -1 := by simpa using h
    refine onC_of (first35_ok hX p hb hl hs) ?_
    simp only [bin_lss, onS_some]
    exact ⟨by rw [mkres, namedS, if_pos h, idx_neg], by omega⟩
  · have h : i ≠ -1 := by simpa using h
    rw [hl.len slt_grant, on2_some, bin_sub, onS_some, wrap64 (by omega) (by omega)]
    refine onC_of (isIn46_ok hX _ _ _) ?_
    rw [ifV_bool]
    refine ifB_intro (fun h1 => ?_) (fun h1 => ⟨by rw [mkres, namedS, if_neg h, h1]; rfl, by omega⟩)
    have h1' := h1
    simp only [inB, Bool.and_eq_true, decide_eq_true_eq] at h1'
    obtain ⟨k, rfl⟩ : ∃ k : Nat, i = k := ⟨i.toNat, by omega⟩
    have hx : l[k]? = some l[k] := List.getElem?_eq_getElem (by omega)
    obtain ⟨p', cs, e1, e2, hrep⟩ := hl.index slt_grant (k := .i64) hx
    rw [e1, onS_some, e2, onS_some, onFn_func]
    refine onC_of (hs _ (List.mem_of_getElem? hx) cs hrep) ?_
    refine ⟨?_, by omega⟩
    rw [mkres, namedS, if_neg h, h1, Int.toNat_natCast, hx]; rfl
theorem named_any {α : Type} {p : α → Bool} {l : List α} {i : Int} (h : namedS p l i = true) : decide (0 ≤ i) = l.any p := by
  unfold namedS at h
  by_cases e : i = -1
  · subst e
    rw [if_pos rfl, Bool.not_eq_true'] at h
    rw [h]; rfl
  · rw [if_neg e, Bool.and_eq_true] at h
    obtain ⟨h1, h2⟩ := h
    simp only [inB, Bool.and_eq_true, decide_eq_true_eq] at h1
    cases hx : l[i.toNat]? with
    | none => rw [hx] at h2; cases h2
    | some x =>
      rw [hx] at h2
      rw [List.any_eq_true.2 ⟨x, List.mem_of_getElem? hx, h2⟩]
      simp; omega
theorem named_idx {α : Type} {p : α → Bool} {l : List α} : namedS p l (idx p l) = true := by
  unfold namedS
  rcases idx_cases p l with ⟨h1, h2⟩ | ⟨k, y, h1, h2, h3, h4⟩
  · rw [h1, if_pos rfl, List.any_eq_false.2 fun x hx => by rw [h2 x hx]; simp]; rfl
  · have hk := (List.getElem?_eq_some_iff.1 h2).1
    rw [h1, if_neg (by omega), Int.toNat_natCast, h2]
    simp only [inB, h3, Bool.and_true, Bool.and_eq_true, decide_eq_true_eq]
    omega
/-- What Check says, of valid registries and wishes. -/
def checkS (r : Registry) (w : Wish) (a n : Bool) (d g : Int) (lst : List Finding) : Bool :=
  (a == allowsB n d g) && (namedS (deedB w) r.deeds d && (namedS (grantB w) r.grants g && provesS r.law w.query w.query.says n lst))
theorem pcheck_ok (hX : NoX X) {r : Registry} {v1 v2 v3 v4 v5 : Value} (hr : RegV m r v1 v2 v3 v4 v5) (hs : r.Sized) (hro : r.ok = true) (w : Wish) (hwo : w.ok = true) {a n : Bool} {d g : Int} {lst : List Finding} {pv : Value} (hS : Sl m lst pv) (hl : lst.length < 1000) :
    C X (.func 12) [.agg #[v1, v2, v3, v4, v5], w.v, decV a n pv d g] m m.n (.bool (checkS r w a n d g lst)) m := by
  have hwo' := hwo
  simp only [Wish.ok, inB, Bool.and_eq_true, decide_eq_true_eq] at hwo'
  have hro' := hro
  simp only [Registry.ok, Bool.and_eq_true] at hro'
  have hqo := query_valid hwo
  refine Cl.flat (hX.no 12 rfl) fn_12 rfl rfl ?_
  rw [F12]
  refine onM_push fun m1 hn1 hg1 hk1 => ?_
  refine onM_push fun m2 hn2 hg2 hk2 => ?_
  refine onM_push fun m3 hn3 hg3 hk3 => ?_
  have hb1 := (hk3 m.n (by omega)).trans ((hk2 m.n (by omega)).trans hg1)
  have hb2 := (hk3 m1.n (by omega)).trans hg2
  have hb3 := hg3
  simp only [cells_agg] at hb1 hb2 hb3
  have he3 : Ext m m3 := ⟨by omega, fun b hb => by rw [hk3 b (by omega), hk2 b (by omega), hk1 b hb]⟩
  have hr3 := hr.keepE he3
  have hS3 := hS.keepE he3
  clear hg1 hg2 hg3 hk1 hk2 hk3
  simp only [ptrTo]
  rw [load_42, loadCells_of hb1 (by simp), Option.map_some, onS_some]
  refine onC_of (show C X (.func 17) [Value.agg (List.take 5 (List.drop 0 [v1, v2, v3, v4, v5])).toArray] m3 m3.n _ m3 from validReg_ok hX hr3 hs) ?_
  rw [hro, ifV_bool, ifB_true, load_45, loadCells_of hb2 (by simp), Option.map_some, onS_some]
  refine onC_of (show C X (.func 23) [Value.agg (List.take 5 (List.drop 0 w.c)).toArray] m3 m3.n _ m3 from asks_ok hX w) ?_
  rw [hwo, ifV_bool, ifB_true]
  simp only [fieldAddr_49_0, fieldAddr_49_1, fieldAddr_49_3, fieldAddr_49_4, load_4, load_3, cellAt_of hb3, onS_some, on2_some, onFn_func, ifV_bool, ifB_true, ifB_false, bin_leq, bin_lss, bin_geq, bin_gtr, bin_eql, bin_neq, un_not, ptrTo, nilck_ptr, nilck_func, Nat.zero_add, Nat.reduceAdd, List.getElem?_cons_zero, List.getElem?_cons_succ, List.drop_zero, List.drop_succ_cons, List.take_succ_cons, List.take_zero, Option.map_some, cells_agg, cells_int, cells_bool, cells_slice, cells_ptr, cells_map, cells_func]
  refine onC_of (allows_ok hX _ _ _) ?_
  refine ⟨Nat.le_refl _, ?_⟩
  simp only [bin_eqlB, onS_some, on2_some, onFn_func, ifV_bool, ifB_true, ifB_false, bin_leq, bin_lss, bin_geq, bin_gtr, bin_eql, bin_neq, un_not, ptrTo, nilck_ptr, nilck_func, Nat.zero_add, Nat.reduceAdd, List.getElem?_cons_zero, List.getElem?_cons_succ, List.drop_zero, List.drop_succ_cons, List.take_succ_cons, List.take_zero, Option.map_some, cells_agg, cells_int, cells_bool, cells_slice, cells_ptr, cells_map, cells_func]
  refine ifB_intro (fun h1 => ?_) (fun h1 => ⟨by rw [mkres, checkS, h1]; rfl, by omega⟩)
  simp only [fieldAddr_42_1, fieldAddr_49_3, load_39, load_3, cellAt_of hb1, cellAt_of hb3, onS_some, on2_some, onFn_func, ifV_bool, ifB_true, ifB_false, bin_leq, bin_lss, bin_geq, bin_gtr, bin_eql, bin_neq, un_not, ptrTo, nilck_ptr, nilck_func, Nat.zero_add, Nat.reduceAdd, List.getElem?_cons_zero, List.getElem?_cons_succ, List.drop_zero, List.drop_succ_cons, List.take_succ_cons, List.take_zero, Option.map_some, cells_agg, cells_int, cells_bool, cells_slice, cells_ptr, cells_map, cells_func]
  rw [load_45, loadCells_of hb2 (by simp), Option.map_some, onS_some]
  obtain ⟨m4, hc4, he4, hw4⟩ := deeds_ok hX (m := m3) w
  refine onC_of (show C X (.func 34) [Value.agg (List.take 5 (List.drop 0 w.c)).toArray] m3 m3.n _ m4 from hc4) ?_
  refine ⟨Nat.le_refl _, ?_⟩
  refine onC_of (named38_ok hX (deedB w) hs.sd (hr3.deeds.keepE he4) (fun x _ cs hx => by cases hx; rw [val_agg rfl]; exact deeds1_ok hX x hw4) d) ?_
  have hn4 := he4.n
  rw [ifV_bool]
  refine ifB_intro (fun h2 => ?_) (fun h2 => ⟨by rw [mkres, checkS, h1, h2]; rfl, by omega⟩)
  have hb1' := he4.cells hb1
  have hb2' := he4.cells hb2
  have hb3' := he4.cells hb3
  simp only [fieldAddr_42_2, fieldAddr_49_4, load_40, load_3, cellAt_of hb1', cellAt_of hb3', onS_some, on2_some, onFn_func, ifV_bool, ifB_true, ifB_false, bin_leq, bin_lss, bin_geq, bin_gtr, bin_eql, bin_neq, un_not, ptrTo, nilck_ptr, nilck_func, Nat.zero_add, Nat.reduceAdd, List.getElem?_cons_zero, List.getElem?_cons_succ, List.drop_zero, List.drop_succ_cons, List.take_succ_cons, List.take_zero, Option.map_some, cells_agg, cells_int, cells_bool, cells_slice, cells_ptr, cells_map, cells_func]
  rw [load_45, loadCells_of hb2' (by simp), Option.map_some, onS_some]
  obtain ⟨m5, hc5, he5, hw5⟩ := grants_ok hX (m := m4) w
  refine onC_of (show C X (.func 36) [Value.agg (List.take 5 (List.drop 0 w.c)).toArray] m4 m4.n _ m5 from hc5) ?_
  refine ⟨Nat.le_refl _, ?_⟩
  refine onC_of (named39_ok hX (grantB w) hs.sg ((hr3.grants.keepE he4).keepE he5) (fun x _ cs hx => by cases hx; rw [val_agg rfl]; exact grants1_ok hX x hw5) g) ?_
  have hn5 := he5.n
  rw [ifV_bool]
  refine ifB_intro (fun h3 => ?_) (fun h3 => ⟨by rw [mkres, checkS, h1, h2, h3]; rfl, by omega⟩)
  have hb1'' := he5.cells hb1'
  have hb2'' := he5.cells hb2'
  have hb3'' := he5.cells hb3'
  simp only [fieldAddr_42_0, Nat.add_zero, onS_some]
  rw [load_38, loadCells_of hb1'' (by simp), Option.map_some, onS_some, load_45, loadCells_of hb2'' (by simp), Option.map_some, onS_some]
  obtain ⟨m6, hc6, he6⟩ := query_ok hX (m := m5) w (by omega)
  refine onC_of (show C X (.func 32) [Value.agg (List.take 5 (List.drop 0 w.c)).toArray] m5 m5.n _ m6 from hc6) ?_
  refine ⟨Nat.le_refl _, ?_⟩
  have hn6 := he6.n
  simp only [fieldAddr_49_1, fieldAddr_49_2, load_4, load_47, cellAt_of (he6.cells hb3''), onS_some, on2_some, onFn_func, ifV_bool, ifB_true, ifB_false, bin_leq, bin_lss, bin_geq, bin_gtr, bin_eql, bin_neq, un_not, ptrTo, nilck_ptr, nilck_func, Nat.zero_add, Nat.reduceAdd, List.getElem?_cons_zero, List.getElem?_cons_succ, List.drop_zero, List.drop_succ_cons, List.take_succ_cons, List.take_zero, Option.map_some, cells_agg, cells_int, cells_bool, cells_slice, cells_ptr, cells_map, cells_func]
  have he36 : Ext m3 m6 := (he4.trans he5).trans he6
  refine onC_of (show C X (.func 13) [Value.agg #[v1, v2, v3], _, _, _] m6 m6.n _ m6 from scheck_ok hX (hr3.law.keepE he36) w.query hro'.1 hqo (hS3.keepE he36) hl n) ?_
  exact ⟨by rw [mkres, checkS, h1, h2, h3]; rfl, by omega⟩
/-- Check accepts no decision with another Allowed or another Needed. -/
theorem check_sound {r : Registry} (hro : r.ok = true) {w : Wish} {a n : Bool} {d g : Int} {lst : List Finding} (h : checkS r w a n d g lst = true) : a = allowedS r w ∧ n = neededS r w := by
  simp only [Registry.ok, Bool.and_eq_true] at hro
  simp only [checkS, Bool.and_eq_true, beq_iff_eq] at h
  obtain ⟨rfl, h2, h3, h4⟩ := h
  obtain rfl : n = neededS r w := proves_sound hro.1 h4
  refine ⟨?_, rfl⟩
  unfold allowedS allowsB deedS grantS
  rw [named_any h2, named_any h3, idx_nonneg, idx_nonneg]
/-- Check accepts what Decide returns. -/
theorem check_own {r : Registry} {w : Wish} {lst : List Finding} (h : provesS r.law w.query w.query.says (neededS r w) lst = true) : checkS r w (allowedS r w) (neededS r w) (deedS r w) (grantS r w) lst = true := by
  unfold checkS deedS grantS
  rw [named_idx, named_idx, h]
  simp [allowedS, deedS, grantS]
end Go.Proofs.YtbpmlholiohkpaaGreatDoor
