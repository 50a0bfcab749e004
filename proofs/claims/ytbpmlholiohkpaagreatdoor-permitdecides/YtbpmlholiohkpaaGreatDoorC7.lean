/- Contracts: BentProof and BentDecision. -/
import Derived.Test.YtbpmlholiohkpaaGreatDoorC6
import Derived.Test.YtbpmlholiohkpaaGreatDoorFv
import Derived.Test.YtbpmlholiohkpaaGreatDoorC5
/- Contracts: BentProof and BentDecision. -/
namespace Go.D
open Go
section
variable {E : Env} {m : M} {T : TypeId} {α : Type} [Rep α]
/-- A slice value that points somewhere. -/
def Real (v : Value) : Prop := ∃ a n c, v = .slice (some a) n c
theorem Ow.real {n1 : Nat} {l : List α} {v : Value} (h : Ow n1 m l v) (hne : l ≠ []) : Real v := by
  rcases h with ⟨_, rfl⟩ | ⟨b, cs, rfl, _⟩
  · exact absurd rfl hne
  · exact ⟨_, _, _, rfl⟩
theorem Sl.real {l : List α} {v : Value} (h : Sl m l v) (hne : l ≠ []) : Real v := by
  rcases h with ⟨_, rfl⟩ | ⟨b, o, c, bc, g, rfl, _⟩
  · exact absurd rfl hne
  · exact ⟨_, _, _, rfl⟩
theorem Real.flat {v : Value} (h : Real v) : flat2 v = false := by
  obtain ⟨a, n, c, rfl⟩ := h; rfl
/-- s[:i:i] of a row of one's own. -/
theorem slice_cap {ti : TI} {e te : TypeId} {b n k : Nat} {cs : List Value} (t1 : E.ty.get T = some ti) (t2 : ti.d = .slice e) (t3 : ti.es = k) (hk : 0 < k) (h : m.get b = .cells cs te (some k)) {i : Nat} (hi : i ≤ n) :
    slice? E m T (.slice (some ⟨b, 0, none⟩) n n) none (some (.int .i64 i)) (some (.int .i64 i)) = some (.slice (some ⟨b, 0, none⟩) i i) := by
  have b1 : bounds? n n none (some (.int .i64 i)) (some (.int .i64 i)) = some (0, i, i) := by unfold bounds?; simp only [bound_ok hi, bound_ok (Nat.le_refl i)]
  have e1 : Nat.beq ti.es 0 = false := by
    cases hb : Nat.beq ti.es 0 with
    | false => rfl
    | true => have := Nat.eq_of_beq_eq_true hb; omega
  have e2 : Nat.ble n n = true := Nat.ble_eq_true_of_le (Nat.le_refl _)
  have e3 : Nat.beq k ti.es = true := by rw [t3]; exact Nat.beq_refl _
  simp only [slice?, t1, t2, b1, h, e1, e2, e3, Bool.not_true, Bool.or_false, cond_false, cond_true, Option.isNone_some, Bool.false_and, Bool.not_false, Bool.and_true]
  simp only [Nat.zero_mul, Addr.add, if_true, Nat.sub_zero]
  cases Nat.beq i 0 <;> rfl
/-- append to an empty slice of one's own, perhaps of nothing. -/
theorem append_zero (hT : ApT E T α) {ys : List α} {y : Value} {b : Nat} (h : m.get b = .cells [] (Rep.ty α) none) (hy : Sl m ys y) (hs : ys.length ≤ 1000000) :
    ∃ v' m1, builtin? E (m.wl m.n) .append [T, T] [.slice (some ⟨b, 0, none⟩) 0 0, y] = some (v', m1) ∧ ((ys = [] ∧ v' = .slice (some ⟨b, 0, none⟩) 0 0) ∨ (ys ≠ [] ∧ Ow m.n m1 ys v')) ∧ Ext m m1 ∧ m1.low = m.n := by
  by_cases hne : ys = []
  · subst hne
    obtain ⟨ti, ei, t1, t2, t3, t4, t5, t6⟩ := hT
    obtain ⟨news, e1, e2, e3, e4, e5⟩ := hy.first
    have hpos := Rep.pos (α := α)
    have hnews : news = [] := List.length_eq_zero_iff.1 (by rw [e3]; simp)
    subst hnews
    have hc : (Nat.beq ti.es 0 || Nat.blt 65536 ei.bytes || !([] : List Value).all D.one || Nat.blt 268435456 (0 + ([] : List α).length) || !Nat.beq ([] : List Value).length (([] : List α).length * ti.es) || !zeroLen ei.zero ti.es) = false := by
      have c1 : Nat.beq ti.es 0 = false := by
        cases hb : Nat.beq ti.es 0 with
        | false => rfl
        | true => have := Nat.eq_of_beq_eq_true hb; omega
      have c2 : Nat.blt 65536 ei.bytes = false := by
        cases hb : Nat.blt 65536 ei.bytes with
        | false => rfl
        | true => rw [Nat.blt_eq] at hb; omega
      have c4 : Nat.beq ([] : List Value).length (([] : List α).length * ti.es) = true := by rw [List.length_nil, List.length_nil, Nat.zero_mul]; rfl
      rw [c1, c2, c4, t3, t6]; rfl
    have hfirst : first? (m.wl m.n) ti.es ([] : List α).length y = some [] := by rw [first?_wl, t3]; exact e2
    refine ⟨.slice (some ⟨b, 0, none⟩) 0 0, m.wl m.n, ?_, .inl ⟨rfl, rfl⟩, ⟨Nat.le_refl _, fun _ _ => rfl⟩, rfl⟩
    simp only [builtin?, append?, t1, e1, t2, t4, hfirst, hc, cond_false]
    rfl
  · obtain ⟨v', m1, h1, h2, h3, h4⟩ := append_copy hT h hy hne hs
    exact ⟨v', m1, h1, .inr ⟨hne, h2⟩, h3, h4⟩
/-- append to a slice of one's own, cut with its room. -/
theorem append_cut (hT : ApT E T α) {l ys : List α} {y : Value} {b : Nat} {cs : List Value} {te : TypeId} (h : m.get b = .cells cs te (some (Rep.sz α))) (hl : l.length * Rep.sz α < cs.length) (hone : cs.all D.one = true)
    (hrep : ∀ i x, l[i]? = some x → Rep.rep m x (chunk cs (Rep.sz α) i)) (hte : te = Rep.ty α) (hy : Sl m ys y) (hs : l.length + ys.length ≤ 1000000) :
    ∃ v' m1, builtin? E (m.wl m.n) .append [T, T] [.slice (some ⟨b, 0, none⟩) l.length l.length, y] = some (v', m1) ∧ Real v' ∧ Sl m1 (l ++ ys) v' ∧ Ext m m1 ∧ m1.low = m.n := by
  obtain ⟨ti, ei, t1, t2, t3, t4, t5, t6⟩ := hT
  obtain ⟨news, e1, e2, e3, e4, e5⟩ := hy.first
  have hpos := Rep.pos (α := α)
  have hc : (Nat.beq ti.es 0 || Nat.blt 65536 ei.bytes || !news.all D.one || Nat.blt 268435456 (l.length + ys.length) || !Nat.beq news.length (ys.length * ti.es) || !zeroLen ei.zero ti.es) = false := by
    have c1 : Nat.beq ti.es 0 = false := by
      cases hb : Nat.beq ti.es 0 with
      | false => rfl
      | true => have := Nat.eq_of_beq_eq_true hb; omega
    have c2 : Nat.blt 65536 ei.bytes = false := by
      cases hb : Nat.blt 65536 ei.bytes with
      | false => rfl
      | true => rw [Nat.blt_eq] at hb; omega
    have c3 : Nat.blt 268435456 (l.length + ys.length) = false := by
      cases hb : Nat.blt 268435456 (l.length + ys.length) with
      | false => rfl
      | true => rw [Nat.blt_eq] at hb; omega
    have c4 : Nat.beq news.length (ys.length * ti.es) = true := by rw [e3, t3]; exact Nat.beq_refl _
    rw [c1, c2, c3, c4, e4, t3, t6]; rfl
  have hfirst : first? (m.wl m.n) ti.es ys.length y = some news := by rw [first?_wl, t3]; exact e2
  have hg : (m.wl m.n).get b = .cells cs te (some (Rep.sz α)) := h
  by_cases hys : ys = []
  · subst hys
    refine ⟨.slice (some ⟨b, 0, none⟩) l.length l.length, m.wl m.n, ?_, ⟨_, _, _, rfl⟩, ?_, ⟨Nat.le_refl _, fun _ _ => rfl⟩, rfl⟩
    · simp only [builtin?, append?, t1, e1, t2, t4, hfirst]
      simp only [List.length_nil, Nat.add_zero] at hc ⊢
      rw [hc, Nat.ble_eq_true_of_le (Nat.le_refl l.length)]
      rfl
    · rw [List.append_nil]
      refine .inr ⟨b, 0, _, cs, _, rfl, by rw [hg, hte], by omega, fun i x hi => ?_⟩
      rw [Nat.zero_add]
      exact Rep.keep (m := m) (hrep i x hi) fun _ _ _ _ hb _ => hb
  · have hylen : 0 < ys.length := List.length_pos_iff.2 hys
    have hble : Nat.ble (l.length + ys.length) l.length = false := by
      cases hb : Nat.ble (l.length + ys.length) l.length with
      | false => rfl
      | true => have := Nat.le_of_ble_eq_true hb; omega
    have hold : (bif Nat.beq l.length 0 then some [] else loadCells (m.wl m.n) ⟨b, 0, none⟩ (l.length * Rep.sz α)) = some (cs.take (l.length * Rep.sz α)) := by
      cases hb : Nat.beq l.length 0 with
      | true =>
        have := Nat.eq_of_beq_eq_true hb
        rw [this, Nat.zero_mul, List.take_zero]; rfl
      | false =>
        simp only [cond_false, loadCells_wl]
        rw [loadCells_of h (by omega), List.drop_zero]
    have g1 : ((some (Rep.sz α) : Option Nat).isNone || ((some (Rep.sz α) : Option Nat) == some (Rep.sz α) && Nat.blt (0 + l.length * Rep.sz α) cs.length)) = true := by
      have : Nat.blt (0 + l.length * Rep.sz α) cs.length = true := by rw [Nat.blt_eq]; omega
      rw [this]; simp
    have hEx : Ext m ((m.wl m.n).push (.cells (cs.take (l.length * Rep.sz α) ++ news) (Rep.ty α) (some (Rep.sz α)))) := ⟨Nat.le_succ _, fun c hc => by rw [M.get_push_lt (m := m.wl m.n) hc]; rfl⟩
    have hA : (cs.take (l.length * Rep.sz α)).length = l.length * Rep.sz α := by rw [List.length_take]; omega
    refine ⟨.slice (some ⟨m.n, 0, none⟩) (l.length + ys.length) (l.length + ys.length), (m.wl m.n).push (.cells (cs.take (l.length * Rep.sz α) ++ news) (Rep.ty α) (some (Rep.sz α))), ?_, ⟨_, _, _, rfl⟩, ?_, hEx, rfl⟩
    · simp only [builtin?, append?, t1, e1, t2, t4, hfirst]
      rw [hc, hble]
      simp only [cond_false, grow?, t3, hg, hold, g1, cond_true]
      rfl
    · refine .inr ⟨m.n, 0, l.length + ys.length, _, _, by rw [List.length_append], M.get_push_new (m := m.wl m.n), by simp [hA, e3, Nat.add_mul], fun i x hi => ?_⟩
      rw [Nat.zero_add]
      show Rep.rep _ x (chunk (cs.take (l.length * Rep.sz α) ++ news) (Rep.sz α) i)
      by_cases hlt : i < l.length
      · rw [chunk_append_left hA hlt]
        rw [List.getElem?_append_left hlt] at hi
        have := hrep i x hi
        have e : chunk (cs.take (l.length * Rep.sz α)) (Rep.sz α) i = chunk cs (Rep.sz α) i := by
          have h0 := chunk_sub (bc := cs) (o := 0) (k := Rep.sz α) hlt
          rw [List.drop_zero, Nat.zero_add] at h0
          exact h0
        rw [e]
        exact Rep.keepE this hEx
      · rw [chunk_append_right hA (by omega)]
        rw [List.getElem?_append_right (by omega)] at hi
        exact Rep.keepE (e5 _ x hi) hEx
end
end Go.D
namespace Go.Proofs.YtbpmlholiohkpaaGreatDoor
open Go Go.D
variable {X : CallFn} {m : M}
/-- A finding of the call's own, changed in place. -/
theorem Ow.finding {n1 : Nat} {l : List Finding} {v : Value} (h : Ow n1 m l v) {i : Nat} {x : Finding} (hi : l[i]? = some x) :
    ∃ b cs, v = .slice (some ⟨b, 0, none⟩) l.length l.length ∧ indexAddr? Tab.env 47 v (.int .i64 i) = some (.pointer (some ⟨b, i * 4, none⟩)) ∧ n1 ≤ b ∧ m.get b = .cells cs 150 (some 4) ∧ cs.length = l.length * 4 ∧ cs.all D.one = true ∧
      (∀ j z, l[j]? = some z → chunk cs 4 j = z.c) ∧ (∀ f, f < 4 → cs[i * 4 + f]? = x.c[f]?) ∧
      ∀ (y : Finding) m' (vals : List Value) f, f + vals.length ≤ 4 → x.c.take f ++ (vals ++ x.c.drop (f + vals.length)) = y.c → m'.get b = .cells (cs.take (i * 4 + f) ++ (vals ++ cs.drop (i * 4 + f + vals.length))) 150 (some 4) → Ow n1 m' (l.set i y) v := by
  have hlt := (List.getElem?_eq_some_iff.1 hi).1
  rcases h with ⟨_, rfl⟩ | ⟨b, cs, rfl, h2, h3, h4, h5, h6⟩
  · simp at hi
  have h5 : cs.length = l.length * 4 := h5
  have h4 : m.get b = .cells cs 150 (some 4) := h4
  have h6 : ∀ j z, l[j]? = some z → chunk cs 4 j = z.c := h6
  have hB : chunk cs 4 i = x.c := h6 i x hi
  have hle : (i + 1) * 4 ≤ l.length * 4 := Nat.mul_le_mul_right _ hlt
  obtain ⟨ti, te, e1, ⟨e, e2⟩, e3, _⟩ := slt_finding
  refine ⟨b, cs, rfl, ?_, h3, h4, h5, all_chunks l.length cs h5 fun j hj => Rep.ones (α := Finding) (m := m) (h6 j _ (List.getElem?_eq_getElem hj)), h6, fun f hf => ?_, fun y m' vals f hf hy hb => ?_⟩
  · have hc : 0 ≤ (i : Int) ∧ (i : Int) < (l.length : Int) ∧ 0 < ti.es := ⟨by omega, by omega, by rw [e3]; decide⟩
    simp only [indexAddr?, e1, e2]
    rw [if_pos hc, addr_add rfl, e3, Nat.zero_add]
    rfl
  · rw [← hB, chunk, List.getElem?_take_of_lt hf, List.getElem?_drop]
  · have hxl : x.c.length = 4 := rfl
    have hsplit : cs.drop (i * 4) = x.c ++ (cs.drop (i * 4)).drop 4 := by
      rw [← hB, chunk, List.take_append_drop]
    have hA : (cs.take (i * 4)).length = i * 4 := by rw [List.length_take]; omega
    have hold : cs = cs.take (i * 4) ++ (x.c ++ (cs.drop (i * 4)).drop 4) := by rw [← hsplit, List.take_append_drop]
    have hnew : cs.take (i * 4 + f) ++ (vals ++ cs.drop (i * 4 + f + vals.length)) = cs.take (i * 4) ++ (y.c ++ (cs.drop (i * 4)).drop 4) := by
      have d1 : cs.take (i * 4 + f) = cs.take (i * 4) ++ x.c.take f := by
        rw [List.take_add, hsplit, List.take_append_of_le_length (by rw [hxl]; omega)]
      have d2 : cs.drop (i * 4 + f + vals.length) = x.c.drop (f + vals.length) ++ (cs.drop (i * 4)).drop 4 := by
        rw [Nat.add_assoc, ← List.drop_drop, hsplit, List.drop_append_of_le_length (by rw [hxl]; omega), ← hsplit]
      rw [d1, d2, ← hy]
      simp only [List.append_assoc]
    rw [hnew] at hb
    refine .inr ⟨b, _, by rw [List.length_set], by rw [List.length_set]; exact h2, h3, hb, ?_, fun j z hj => ?_⟩
    · rw [List.length_set]
      have := congrArg List.length hold
      simp only [List.length_append] at this ⊢
      have hyl : y.c.length = 4 := rfl
      show _ = l.length * 4
      omega
    · show chunk _ 4 j = z.c
      by_cases hji : j < i
      · rw [List.getElem?_set_ne (by omega)] at hj
        rw [chunk_append_left hA hji, ← h6 j z hj]
        conv => rhs; rw [hold]
        rw [chunk_append_left hA hji]
      · rw [chunk_append_right hA (by omega)]
        by_cases e : j = i
        · subst e
          rw [List.getElem?_set_self hlt] at hj
          cases hj
          rw [Nat.sub_self]
          rfl
        · rw [List.getElem?_set_ne (by omega)] at hj
          rw [chunk_append_right (n := 1) (by rfl) (by omega), ← h6 j z hj]
          conv => rhs; rw [hold]
          rw [chunk_append_right hA (by omega), chunk_append_right (n := 1) (by rfl) (by omega)]
theorem tdiv5 {a : Int} (h1 : -9223372036854775808 ≤ a) (h2 : a < 9223372036854775808) : -9223372036854775808 ≤ a.tdiv 5 ∧ a.tdiv 5 < 9223372036854775808 := by
  rcases Int.le_total 0 a with h | h
  · rw [Int.tdiv_eq_ediv_of_nonneg h]; omega
  · have e : a.tdiv 5 = -((-a).tdiv 5) := by rw [Int.neg_tdiv, Int.neg_neg]
    rw [e, Int.tdiv_eq_ediv_of_nonneg (by omega)]; omega
theorem bentProof_ok (hX : NoX X) {lst : List Finding} {pv : Value} (hS : Sl m lst pv) (hs : lst.length ≤ 100) {how n wo : Int} (r0 : InR how) (r2 : InR wo) :
    ∃ (lst' : List Finding) (v' : Value) (m' : M), C X (.func 42) [pv, .int .i64 how, .int .i64 n, .int .i64 wo] m m.n v' m' ∧ Sl m' lst' v' ∧ Real v' ∧ lst'.length ≤ lst.length + 1 ∧ Ext m m' := by
  have key := Cl.heap (E := Tab.env) (X := X) (f := 42) (args := [pv, .int .i64 how, .int .i64 n, .int .i64 wo]) (m := m) (R := fun v' m' b => b = m.n ∧ ∃ lst' : List Finding, Sl m' lst' v' ∧ Real v' ∧ lst'.length ≤ lst.length + 1 ∧ Ext m m') (hX.no 42 rfl) fn_42 rfl ?_
  · obtain ⟨v', m', b, hc, rfl, lst', h3⟩ := key
    exact ⟨lst', v', m', hc, h3⟩
  · rw [F42, buildSlice_f0, on2_some]
    have he1 : Ext m (m.push (.cells [] 150 none)) := Ext.refl.push
    obtain ⟨v3, m4, e1, hcase, he4, hlow4⟩ := append_zero (m := m.push (.cells [] 150 none)) apt_finding (b := m.n) M.get_push_new (hS.keepE he1) (by omega)
    rw [e1, on2_some]
    rw [M.push_n] at hlow4
    have hn4 := he4.n
    rw [M.push_n] at hn4
    have hE4 := he1.trans he4
    have hlen0 : ∀ (mm : M) (a : Option Addr) (n c : Nat), builtin? Tab.env mm .len [47] [.slice a n c] = some (.int .i64 n, mm) := fun mm a n c => by simp only [builtin?, len?, ty47, Tab.t47, Option.map_some]
    rcases hcase with ⟨hnil, rfl⟩ | ⟨hne, hOw⟩
    · subst hnil
      rw [hlen0, on2_some]
      simp only [bin_eql, onS_some, ifV_bool]
      refine ifB_intro (fun _ => ?_) (fun h => by simp at h)
      have hrow : m4.get m.n = .cells [] 150 none := he4.cells M.get_push_new
      rw [build_150_0_2_3 rfl rfl rfl, onS_some]
      simp only [cells_int, List.cons_append, List.nil_append]
      rw [show (#[Value.int .i64 n, .bool false, .int .i64 (-1), .int .i64 (-1)] : Array Value) = (Finding.c ⟨n, false, -1, -1⟩).toArray from rfl, buildSlice_f1, on2_some]
      have he5 : Ext m4 (m4.push (.cells (Finding.c ⟨n, false, -1, -1⟩) 150 none)) := Ext.refl.push
      have hone : Sl (m4.push (.cells (Finding.c ⟨n, false, -1, -1⟩) 150 none)) [(⟨n, false, -1, -1⟩ : Finding)] (.slice (some ⟨m4.n, 0, none⟩) 1 1) := sl_one (x := (⟨n, false, -1, -1⟩ : Finding)) rfl
      obtain ⟨v', m6, e6, hcase6, he6, hlow6⟩ := append_zero (m := m4.push (.cells (Finding.c ⟨n, false, -1, -1⟩) 150 none)) apt_finding (b := m.n) (he5.cells hrow) hone (by simp)
      rw [e6, on2_some]
      rw [M.push_n] at hlow6
      rcases hcase6 with ⟨h, _⟩ | ⟨hne, hOw⟩
      · cases h
      · exact ⟨.inl (hOw.real hne).flat, by omega, _, hOw.sl, hOw.real hne, by simp, (hE4.trans he5).trans he6⟩
    · have hpos : 0 < lst.length := List.length_pos_iff.2 hne
      rw [hOw.sl.len slt_finding, on2_some]
      simp only [bin_eql, onS_some, ifV_bool]
      refine ifB_intro (fun h => absurd h (by simp; omega)) (fun _ => ?_)
      rw [on2_some]
      refine onC_of (pick58_ok hX r2 (by omega)) ?_
      refine onC_of (pick58_ok hX r0 (by omega)) ?_
      have pk := pickS_bounds (c := wo) (n := (lst.length : Int)) (by omega)
      generalize pickS wo (lst.length : Int) = ki at pk ⊢
      obtain ⟨k, rfl⟩ : ∃ k : Nat, ki = k := ⟨ki.toNat, by omega⟩
      have hkl : k < lst.length := by omega
      have hx : lst[k]? = some lst[k] := List.getElem?_eq_getElem hkl
      generalize lst[k] = x at hx
      obtain ⟨b, cs, hv, hidx, hb1, hb2, hcl, hone, hall, hat, hset⟩ := Ow.finding hOw hx
      rw [M.push_n] at hb1
      have hreal := hOw.real hne
      have hext : ∀ m5 : M, m5.n = m4.n → (∀ c, c ≠ b → m5.get c = m4.get c) → Ext m m5 := fun m5 h1 h2 => ⟨by have := hE4.n; omega, fun c hc => by rw [h2 c (by omega), hE4.get c hc]⟩
      generalize pickS how 6 = hw
      simp only [bin_eql, onS_some, ifV_bool]
      refine ifB_intro (fun _ => ?_) (fun _ => ?_)
      · rw [hidx, onS_some, fieldAddr_150_0, onS_some]
        refine on2_store ty_3 hb2 (by rfl) (by simp only [cells_int, List.length_cons, List.length_nil]; omega) rfl fun m5 hn5 hg5 hk5 => ?_
        exact ⟨.inl hreal.flat, by omega, _, (hset ⟨n, x.holds, x.fact, x.clause⟩ m5 [.int .i64 n] 0 (by simp) rfl hg5).sl, hreal, by rw [List.length_set]; omega, hext m5 hn5 hk5⟩
      refine ifB_intro (fun _ => ?_) (fun _ => ?_)
      · simp only [hidx, fieldAddr_150_1, load_4, cellAt_of hb2, onS_some, on2_some, onFn_func, ifV_bool, ifB_true, ifB_false, bin_leq, bin_lss, bin_geq, bin_gtr, bin_eql, bin_neq, un_not, ptrTo, nilck_ptr, nilck_func, Nat.zero_add, Nat.reduceAdd, List.getElem?_cons_zero, List.getElem?_cons_succ, List.drop_zero, List.drop_succ_cons, List.take_succ_cons, List.take_zero, Option.map_some, cells_agg, cells_int, cells_bool, cells_slice, cells_ptr, cells_map, cells_func]
        rw [hat 1 (by decide)]
        simp only [onS_some, on2_some, onFn_func, ifV_bool, ifB_true, ifB_false, bin_leq, bin_lss, bin_geq, bin_gtr, bin_eql, bin_neq, un_not, ptrTo, nilck_ptr, nilck_func, Nat.zero_add, Nat.reduceAdd, List.getElem?_cons_zero, List.getElem?_cons_succ, List.drop_zero, List.drop_succ_cons, List.take_succ_cons, List.take_zero, Option.map_some, cells_agg, cells_int, cells_bool, cells_slice, cells_ptr, cells_map, cells_func]
        refine on2_store ty_4 hb2 (by rfl) (by simp only [cells_bool, List.length_cons, List.length_nil]; omega) rfl fun m5 hn5 hg5 hk5 => ?_
        exact ⟨.inl hreal.flat, by omega, _, (hset ⟨x.says, !x.holds, x.fact, x.clause⟩ m5 [.bool (!x.holds)] 1 (by simp) rfl hg5).sl, hreal, by rw [List.length_set]; omega, hext m5 hn5 hk5⟩
      refine ifB_intro (fun _ => ?_) (fun _ => ?_)
      · rw [hidx, onS_some, fieldAddr_150_2, onS_some]
        refine on2_store ty_3 hb2 (by rfl) (by simp only [cells_int, List.length_cons, List.length_nil]; omega) rfl fun m5 hn5 hg5 hk5 => ?_
        exact ⟨.inl hreal.flat, by omega, _, (hset ⟨x.says, x.holds, n, x.clause⟩ m5 [.int .i64 n] 2 (by simp) rfl hg5).sl, hreal, by rw [List.length_set]; omega, hext m5 hn5 hk5⟩
      refine ifB_intro (fun _ => ?_) (fun _ => ?_)
      · rw [hidx, onS_some, fieldAddr_150_3, onS_some]
        refine on2_store ty_3 hb2 (by rfl) (by simp only [cells_int, List.length_cons, List.length_nil]; omega) rfl fun m5 hn5 hg5 hk5 => ?_
        exact ⟨.inl hreal.flat, by omega, _, (hset ⟨x.says, x.holds, x.fact, n⟩ m5 [.int .i64 n] 3 (by simp) rfl hg5).sl, hreal, by rw [List.length_set]; omega, hext m5 hn5 hk5⟩
      refine ifB_intro (fun _ => ?_) (fun _ => ?_)
      · subst hv
        rw [slice_cap ty47 (by rfl) (by rfl) (by decide) hb2 (Nat.le_of_lt hkl), onS_some, bin_add, onS_some, wrap64 (by omega) (by omega), show ((k : Int) + 1) = ((k + 1 : Nat) : Int) from rfl,
          slice_from ty47 (by rfl) (by rfl) (by decide) hb2 hcl (j := k + 1) (by omega), onS_some]
        have hy : Sl m4 (lst.drop (k + 1)) (.slice (some ⟨b, (k + 1) * 4, none⟩) (lst.length - (k + 1)) (lst.length - (k + 1))) := by
          refine .inr ⟨b, (k + 1) * 4, lst.length - (k + 1), cs, some 4, by rw [List.length_drop], hb2, ?_, fun i z hi => ?_⟩
          · rw [List.length_drop]
            show (k + 1) * 4 + (lst.length - (k + 1)) * 4 ≤ cs.length
            omega
          · rw [List.getElem?_drop] at hi
            have := hall _ z hi
            unfold chunk at this
            show (cs.drop ((k + 1) * 4 + i * 4)).take 4 = z.c
            rw [← Nat.add_mul]
            exact this
        have htk : (lst.take k).length = k := by rw [List.length_take]; omega
        obtain ⟨v', m6, e6, hr6, hS6, he6, hlow6⟩ := append_cut (l := lst.take k) apt_finding hb2 (by rw [htk, hcl]; show k * 4 < _; omega) hone (fun i z hi => hall i z (by
          have hik : i < k := by have := (List.getElem?_eq_some_iff.1 hi).1; omega
          rwa [List.getElem?_take_of_lt hik] at hi)) rfl hy (by simp only [List.length_take, List.length_drop]; omega)
        rw [htk] at e6
        rw [e6, on2_some]
        exact ⟨.inl hr6.flat, by omega, _, hS6, hr6, by simp only [List.length_append, List.length_take, List.length_drop]; omega, hE4.trans he6⟩
      · simp only [hidx, fieldAddr_150_0, load_3, cellAt_of hb2, onS_some, on2_some, onFn_func, ifV_bool, ifB_true, ifB_false, bin_leq, bin_lss, bin_geq, bin_gtr, bin_eql, bin_neq, un_not, ptrTo, nilck_ptr, nilck_func, Nat.zero_add, Nat.reduceAdd, List.getElem?_cons_zero, List.getElem?_cons_succ, List.drop_zero, List.drop_succ_cons, List.take_succ_cons, List.take_zero, Option.map_some, cells_agg, cells_int, cells_bool, cells_slice, cells_ptr, cells_map, cells_func]
        rw [hat 0 (by decide)]
        simp only [onS_some, on2_some, onFn_func, ifV_bool, ifB_true, ifB_false, bin_leq, bin_lss, bin_geq, bin_gtr, bin_eql, bin_neq, un_not, ptrTo, nilck_ptr, nilck_func, Nat.zero_add, Nat.reduceAdd, List.getElem?_cons_zero, List.getElem?_cons_succ, List.drop_zero, List.drop_succ_cons, List.take_succ_cons, List.take_zero, Option.map_some, cells_agg, cells_int, cells_bool, cells_slice, cells_ptr, cells_map, cells_func]
        rw [build_150_0_1_2_3 rfl rfl rfl rfl, onS_some]
        refine on2_store ty_150 hb2 (by rfl) (by simp only [cells_agg, cells_int, cells_bool, List.cons_append, List.nil_append, List.length_cons, List.length_nil]; omega) rfl fun m5 hn5 hg5 hk5 => ?_
        exact ⟨.inl hreal.flat, by omega, _, (hset ⟨x.says, true, -1, n⟩ m5 [.int .i64 x.says, .bool true, .int .i64 (-1), .int .i64 n] 0 (by simp) rfl hg5).sl, hreal, by rw [List.length_set]; omega, hext m5 hn5 hk5⟩
/-- A decision with something changed. -/
theorem bentDecision_ok (hX : NoX X) {lst : List Finding} {pv : Value} (hS : Sl m lst pv) (hr : Real pv) (hs : lst.length ≤ 100) {a n : Bool} {d g how k wo : Int} (r0 : InR how) (r2 : InR wo) :
    ∃ (a' n' : Bool) (d' g' : Int) (lst' : List Finding) (pv' : Value) (m' : M), C X (.func 14) [decV a n pv d g, .int .i64 how, .int .i64 k, .int .i64 wo] m m.n (decV a' n' pv' d' g') m' ∧ Sl m' lst' pv' ∧ Real pv' ∧ lst'.length ≤ lst.length + 1 ∧ Ext m m' := by
  have key := Cl.heap (E := Tab.env) (X := X) (f := 14) (args := [decV a n pv d g, .int .i64 how, .int .i64 k, .int .i64 wo]) (m := m) (R := fun v' m' b => b = m.n ∧ ∃ (a' n' : Bool) (d' g' : Int) (lst' : List Finding) (pv' : Value), v' = decV a' n' pv' d' g' ∧ Sl m' lst' pv' ∧ Real pv' ∧ lst'.length ≤ lst.length + 1 ∧ Ext m m') (hX.no 14 rfl) fn_14 rfl ?_
  · obtain ⟨v', m', b, hc, rfl, a', n', d', g', lst', pv', rfl, h3⟩ := key
    exact ⟨a', n', d', g', lst', pv', m', hc, h3⟩
  · rw [F14]
    refine onM_push fun m1 hn1 hg1 hk1 => ?_
    refine onM_push fun m2 hn2 hg2 hk2 => ?_
    have hb0 := (hk2 m.n (by omega)).trans hg1
    simp only [cells_agg] at hb0
    have he2 : Ext m m2 := ⟨by omega, fun b hb => by rw [hk2 b (by omega), hk1 b hb]⟩
    have hS2 := hS.keepE he2
    have hp1 := hS.one
    have fin : ∀ (m3 : M) (a' n' : Bool) (d' g' : Int) (lst' : List Finding) (pv' : Value) (lo : Nat), m3.get m.n = .cells [.bool a', .bool n', pv', .int .i64 d', .int .i64 g'] 49 none → m3.get m1.n = .cells [.bool false, .bool false, .slice none 0 0, .int .i64 0, .int .i64 0] 49 none →
        Ext m m3 → Sl m3 lst' pv' → Real pv' → lst'.length ≤ lst.length + 1 → m.n ≤ lo →
        onS (load? Tab.env m3 49 (ptrTo m.n)) fun v => on2 (store? Tab.env m3 49 (ptrTo m1.n) v) fun m4 b => onS (load? Tab.env m4 49 (ptrTo m1.n)) fun v =>
          (flat2 (mkres [v]) = false ∨ min lo b < m.n) ∧ (min m.n (min lo b) = m.n ∧ ∃ (a' n' : Bool) (d' g' : Int) (lst' : List Finding) (pv' : Value), mkres [v] = decV a' n' pv' d' g' ∧ Sl m4 lst' pv' ∧ Real pv' ∧ lst'.length ≤ lst.length + 1 ∧ Ext m m4) := by
      intro m3 a' n' d' g' lst' pv' lo h1 h2 h3 h4 h5 h6 h7
      have hp := h4.one
      simp only [ptrTo]
      rw [load_49, loadCells_of h1 (by simp), Option.map_some, onS_some]
      refine on2_storeV ty_49 h2 (by rfl) (by rfl) (by simp [cells_agg, hp]; exact ⟨rfl, rfl, rfl, rfl⟩) fun m4 hn4 hg4 hk4 => ?_
      simp only [cells_agg] at hg4
      rw [load_49, loadCells_of hg4 (by simp), Option.map_some, onS_some]
      have hS4 : Sl m4 lst' pv' := h4.keep fun c cs e g hc ht => by
        rw [hk4 c fun e => ?_, hc]
        subst e
        rw [h2] at hc
        cases hc
        simp [Rep.tys, Rep.ty] at ht
      have hn3 := h3.n
      refine ⟨.inl ?_, by omega, a', n', d', g', lst', pv', rfl, hS4, h5, h6, ⟨by omega, fun c hc => by rw [hk4 c (by omega), h3.get c hc]⟩⟩
      obtain ⟨_, _, _, rfl⟩ := h5
      rfl
    have keep1 : ∀ (m3 : M), (∀ c, c ≠ m.n → m3.get c = m2.get c) → m3.n = m2.n → Ext m m3 ∧ Sl m3 lst pv ∧ m3.get m1.n = .cells [.bool false, .bool false, .slice none 0 0, .int .i64 0, .int .i64 0] 49 none := fun m3 hk hn =>
      ⟨⟨by omega, fun c hc => by rw [hk c (by omega), he2.get c hc]⟩, hS2.keep fun c cs e g hc ht => by
        rw [hk c fun e => ?_, hc]
        subst e
        rw [hb0] at hc
        cases hc
        simp [Rep.tys, Rep.ty] at ht, by rw [hk _ (by omega), hg2]⟩
    refine onC_of (pick29_ok hX r0 (by omega)) ?_
    generalize pickS how 5 = hw
    simp only [bin_eql, onS_some, ifV_bool]
    refine ifB_intro (fun _ => ?_) (fun _ => ?_)
    · simp only [fieldAddr_49_0, load_4, cellAt_of hb0, onS_some, on2_some, onFn_func, ifV_bool, ifB_true, ifB_false, bin_leq, bin_lss, bin_geq, bin_gtr, bin_eql, bin_neq, un_not, ptrTo, nilck_ptr, nilck_func, Nat.zero_add, Nat.reduceAdd, List.getElem?_cons_zero, List.getElem?_cons_succ, List.drop_zero, List.drop_succ_cons, List.take_succ_cons, List.take_zero, Option.map_some, cells_agg, cells_int, cells_bool, cells_slice, cells_ptr, cells_map, cells_func]
      refine on2_store ty_4 hb0 (by rfl) (by simp [cells_bool]) rfl fun m3 hn3 hg3 hk3 => ?_
      obtain ⟨k1, k2, k3⟩ := keep1 m3 hk3 hn3
      exact fin m3 (!a) n d g lst pv _ hg3 k3 k1 k2 hr (by omega) (by omega)
    refine ifB_intro (fun _ => ?_) (fun _ => ?_)
    · simp only [fieldAddr_49_1, load_4, cellAt_of hb0, onS_some, on2_some, onFn_func, ifV_bool, ifB_true, ifB_false, bin_leq, bin_lss, bin_geq, bin_gtr, bin_eql, bin_neq, un_not, ptrTo, nilck_ptr, nilck_func, Nat.zero_add, Nat.reduceAdd, List.getElem?_cons_zero, List.getElem?_cons_succ, List.drop_zero, List.drop_succ_cons, List.take_succ_cons, List.take_zero, Option.map_some, cells_agg, cells_int, cells_bool, cells_slice, cells_ptr, cells_map, cells_func]
      refine on2_store ty_4 hb0 (by rfl) (by simp [cells_bool]) rfl fun m3 hn3 hg3 hk3 => ?_
      obtain ⟨k1, k2, k3⟩ := keep1 m3 hk3 hn3
      exact fin m3 a (!n) d g lst pv _ hg3 k3 k1 k2 hr (by omega) (by omega)
    refine ifB_intro (fun _ => ?_) (fun _ => ?_)
    · simp only [fieldAddr_49_3, onS_some, on2_some, onFn_func, ifV_bool, ifB_true, ifB_false, bin_leq, bin_lss, bin_geq, bin_gtr, bin_eql, bin_neq, un_not, ptrTo, nilck_ptr, nilck_func, Nat.zero_add, Nat.reduceAdd, List.getElem?_cons_zero, List.getElem?_cons_succ, List.drop_zero, List.drop_succ_cons, List.take_succ_cons, List.take_zero, Option.map_some, cells_agg, cells_int, cells_bool, cells_slice, cells_ptr, cells_map, cells_func]
      refine on2_store ty_3 hb0 (by rfl) (by simp [cells_int]) rfl fun m3 hn3 hg3 hk3 => ?_
      obtain ⟨k1, k2, k3⟩ := keep1 m3 hk3 hn3
      exact fin m3 a n k g lst pv _ hg3 k3 k1 k2 hr (by omega) (by omega)
    refine ifB_intro (fun _ => ?_) (fun _ => ?_)
    · simp only [fieldAddr_49_4, onS_some, on2_some, onFn_func, ifV_bool, ifB_true, ifB_false, bin_leq, bin_lss, bin_geq, bin_gtr, bin_eql, bin_neq, un_not, ptrTo, nilck_ptr, nilck_func, Nat.zero_add, Nat.reduceAdd, List.getElem?_cons_zero, List.getElem?_cons_succ, List.drop_zero, List.drop_succ_cons, List.take_succ_cons, List.take_zero, Option.map_some, cells_agg, cells_int, cells_bool, cells_slice, cells_ptr, cells_map, cells_func]
      refine on2_store ty_3 hb0 (by rfl) (by simp [cells_int]) rfl fun m3 hn3 hg3 hk3 => ?_
      obtain ⟨k1, k2, k3⟩ := keep1 m3 hk3 hn3
      exact fin m3 a n d k lst pv _ hg3 k3 k1 k2 hr (by omega) (by omega)
    · simp only [fieldAddr_49_2, load_47, cellAt_of hb0, onS_some, on2_some, onFn_func, ifV_bool, ifB_true, ifB_false, bin_leq, bin_lss, bin_geq, bin_gtr, bin_eql, bin_neq, un_not, ptrTo, nilck_ptr, nilck_func, Nat.zero_add, Nat.reduceAdd, List.getElem?_cons_zero, List.getElem?_cons_succ, List.drop_zero, List.drop_succ_cons, List.take_succ_cons, List.take_zero, Option.map_some, cells_agg, cells_int, cells_bool, cells_slice, cells_ptr, cells_map, cells_func]
      unfold InR at r0
      have q5 : -9223372036854775808 ≤ how.tdiv 5 ∧ how.tdiv 5 < 9223372036854775808 := tdiv5 r0.1 r0.2
      rw [bin_quo (by decide), onS_some, wrap64 q5.1 q5.2]
      obtain ⟨lst', pv', m5, hc5, hS5, hr5, hl5, he5⟩ := bentProof_ok hX hS2 hs (n := k) q5 r2
      refine onC_of hc5 ?_
      have hb5 := he5.cells hb0
      have hz5 := he5.cells hg2
      have hn5 := he5.n
      refine on2_store ty_47 hb5 (by rw [hS5.cells]; rfl) (by rw [hS5.cells]; simp) (by rw [hS5.cells]; simp [hS5.one]) fun m3 hn3 hg3 hk3 => ?_
      rw [hS5.cells] at hg3
      have hS3 : Sl m3 lst' pv' := hS5.keep fun c cs e g hc ht => by
        rw [hk3 c fun e => ?_, hc]
        subst e
        rw [hb5] at hc
        cases hc
        simp [Rep.tys, Rep.ty] at ht
      exact fin m3 a n d g lst' pv' _ hg3 (by rw [hk3 _ (by omega), hz5]) ⟨by omega, fun c hc => by rw [hk3 c (by omega), he5.get c (by omega), he2.get c hc]⟩ hS3 hr5 hl5 (by omega)
end Go.Proofs.YtbpmlholiohkpaaGreatDoor
