/- A list that proves an answer proves the right one. append to an empty slice that points somewhere. What append leaves as it is. Contracts: insert, and what it leaves. Contracts: what a proof leans on: Uses. -/
import Derived.Test.YtbpmlholiohkpaaGreatDoorC3
import Derived.Test.YtbpmlholiohkpaaGreatDoorE3
import Derived.Test.YtbpmlholiohkpaaGreatDoorC2
import Derived.Test.YtbpmlholiohkpaaGreatDoorFk2
/- A list that proves an answer proves the right one. -/
namespace Go.Proofs.YtbpmlholiohkpaaGreatDoor
open Go Go.D
/-- The finding is right, where the findings of the list about lesser numbers are. -/
theorem right_sound {l : Law} (hl : l.ok = true) {q : Query} {lst : List Finding} {x : Finding} (h0 : 0 ≤ x.says) (h1 : x.says < 20) (ih : ∀ y ∈ lst, 0 ≤ y.says → y.says < x.says → y.holds = soS l q y.says) (hr : rightS l q x lst = true) : x.holds = soS l q x.says := by
  have hf : ∀ k b, 0 ≤ k → k < x.says → finds lst k b = true → soS l q k = b := by
    intro k b hk0 hk h
    unfold finds at h
    obtain ⟨y, hy, hp⟩ := List.any_eq_true.1 h
    simp only [Bool.and_eq_true, decide_eq_true_eq, beq_iff_eq] at hp
    obtain ⟨rfl, rfl⟩ := hp
    exact (ih y hy hk0 hk).symm
  rw [soS_eq hl q h0 h1]
  obtain ⟨says, holds, fact, clause⟩ := x
  dsimp only at *
  unfold fndS findS
  cases holds with
  | true =>
    by_cases hc : clause = -1
    · subst hc
      rw [rightS_fact, Bool.and_eq_true] at hr
      cases hfd : (l.facts' q).find? (factSays l says) with
      | some z => rfl
      | none => exact absurd hr.2 (List.find?_eq_none.1 hfd fact (List.contains_iff_mem.1 hr.1))
    · rw [rightS_clause hc] at hr
      simp only [Bool.and_eq_true, decide_eq_true_eq] at hr
      obtain ⟨_, hm, hb⟩ := hr
      have hm := List.contains_iff_mem.1 hm
      obtain ⟨j, c, rfl, hcl⟩ := mem_rules' hm
      obtain ⟨_, _, hn, hbr, _⟩ := clause_bounds (clause_ok hl hcl)
      simp only [borneS, Int.toNat_natCast, hcl, Bool.and_eq_true, decide_eq_true_eq, Bool.not_eq_true'] at hb
      obtain ⟨hg, b1, b2⟩ := hb
      cases hfd : (l.facts' q).find? (factSays l says) with
      | some z => rfl
      | none =>
        dsimp only
        cases hrd : (l.rules' q).find? (takes l (soS l q) says) with
        | some z => rfl
        | none =>
          refine absurd ?_ (List.find?_eq_none.1 hrd _ hm)
          simp only [takes, Int.toNat_natCast, hcl, hg, decide_true, Bool.true_and, Bool.and_eq_true, Bool.not_eq_true']
          rw [List.any_eq_false] at b1 b2
          constructor
          · rw [List.any_eq_false]
            intro k hk
            have h3 := b1 k hk
            have hk' := hn k hk
            rw [hf k true hk'.1 (by omega) (by simpa using h3)]
            simp
          · rw [List.any_eq_false]
            intro k hk
            have h3 := b2 k hk
            have hk' := hbr k hk
            rw [hf k false hk'.1 (by omega) (by simpa using h3)]
            simp
  | false =>
    rw [rightS_none] at hr
    simp only [Bool.and_eq_true, decide_eq_true_eq, Bool.not_eq_true'] at hr
    obtain ⟨_, n1, n2⟩ := hr
    rw [List.any_eq_false] at n1 n2
    rw [List.find?_eq_none.2 n1]
    dsimp only
    have : (l.rules' q).find? (takes l (soS l q) says) = none := by
      rw [List.find?_eq_none]
      intro z hz ht
      obtain ⟨j, c, rfl, hcl⟩ := mem_rules' hz
      obtain ⟨_, _, hn, hbr, _⟩ := clause_bounds (clause_ok hl hcl)
      have h2 := n2 _ hz
      simp only [takes, Int.toNat_natCast, hcl, Bool.and_eq_true, decide_eq_true_eq, Bool.not_eq_true'] at ht
      obtain ⟨hg, t1, t2⟩ := ht
      rw [List.any_eq_false] at t1 t2
      simp only [givesS, barredS, Int.toNat_natCast, hcl, hg, decide_true, Bool.true_and, Bool.not_eq_true', Bool.not_eq_false, Bool.or_eq_true, List.any_eq_true] at h2
      rcases h2 with ⟨k, hk, h3⟩ | ⟨k, hk, h3⟩
      · have hk' := hn k hk
        have := t1 k hk
        rw [hf k false hk'.1 (by omega) h3] at this
        simp at this
      · have hk' := hbr k hk
        have := t2 k hk
        rw [hf k true hk'.1 (by omega) h3] at this
        simp at this
    rw [this]
theorem all_sound {l : Law} (hl : l.ok = true) {q : Query} {lst : List Finding} (h : ∀ x ∈ lst, 0 ≤ x.says ∧ x.says < 20 ∧ rightS l q x lst = true) : ∀ (n : Nat), ∀ x ∈ lst, x.says < n → x.holds = soS l q x.says
  | 0, x, hx, hn => by have := (h x hx).1; omega
  | n + 1, x, hx, hn => by
    obtain ⟨h0, h1, hr⟩ := h x hx
    exact right_sound hl h0 h1 (fun y hy _ hlt => all_sound hl h n y hy (by omega)) hr
theorem before_ge {lst : List Finding} (h : ∀ i x, lst[i]? = some x → -1 ≤ beforeF lst i → beforeF lst i + 1 ≤ x.says) : ∀ (i : Nat), i ≤ lst.length → -1 ≤ beforeF lst i
  | 0, _ => by unfold beforeF; simp
  | i + 1, hi => by
    have hx : lst[i]? = some lst[i] := List.getElem?_eq_getElem (by omega)
    have h1 := before_ge h i (by omega)
    have := h i _ hx h1
    unfold beforeF
    rw [if_neg (by omega), Nat.add_sub_cancel, hx]
    dsimp only
    omega
/-- What is proved is so. -/
theorem proves_sound {l : Law} (hl : l.ok = true) {q : Query} {n : Int} {holds : Bool} {lst : List Finding} (h : provesS l q n holds lst = true) : holds = soS l q n := by
  unfold provesS at h
  simp only [Bool.and_eq_true, decide_eq_true_eq] at h
  obtain ⟨hall, hpos, hlast, hh⟩ := h
  rw [List.all_eq_true] at hall
  have hat : ∀ i x, lst[i]? = some x → (beforeF lst i + 1 ≤ x.says ∧ x.says ≤ 19) ∧ rightS l q x lst = true := by
    intro i x hx
    have := hall i (List.mem_range.2 (List.getElem?_eq_some_iff.1 hx).1)
    unfold okAt at this
    rw [hx] at this
    simpa only [inB, Bool.and_eq_true, decide_eq_true_eq] using this
  have hbef := before_ge (lst := lst) fun i x hx _ => (hat i x hx).1.1
  have hmem : ∀ x ∈ lst, 0 ≤ x.says ∧ x.says < 20 ∧ rightS l q x lst = true := by
    intro x hx
    obtain ⟨i, hi⟩ := List.mem_iff_getElem?.1 hx
    have h1 := hat i x hi
    have h2 := hbef i (Nat.le_of_lt (List.getElem?_eq_some_iff.1 hi).1)
    exact ⟨by omega, by omega, h1.2⟩
  have hx : lst[lst.length - 1]? = some lst[lst.length - 1] := List.getElem?_eq_getElem (by omega)
  rw [hx] at hh
  unfold lastSays beforeF at hlast
  rw [if_neg (by omega), hx] at hlast
  dsimp only at hlast hh
  have hm := List.mem_of_getElem? hx
  rw [beq_iff_eq] at hh
  rw [← hh, ← hlast]
  exact all_sound hl hmem 20 _ hm (by have := (hmem _ hm).2.1; omega)
end Go.Proofs.YtbpmlholiohkpaaGreatDoor

/- append to an empty slice that points somewhere. -/
namespace Go.D
open Go
section
variable {E : Env} {m : M} {T : TypeId} {α : Type} [Rep α]
/-- A slice value that points somewhere. -/
def Real (v : Value) : Prop := ∃ a n c, v = .slice (some a) n c
theorem Ow.real {n1 : Nat} {l : List α} {v : Value} (h : Ow n1 m l v) (hne : l ≠ []) : Real v := by
  rcases h with ⟨_, rfl⟩ | ⟨b, cs, rfl, _⟩
  · exact absurd rfl hne
  · exact ⟨_, _, _, rfl⟩
theorem Sl.real {l : List α} {v : Value} (h : Sl m l v) (hne : l ≠ []) : Real v := by
  rcases h with ⟨_, rfl⟩ | ⟨b, o, c, bc, g, rfl, _⟩
  · exact absurd rfl hne
  · exact ⟨_, _, _, rfl⟩
theorem Real.flat {v : Value} (h : Real v) : flat2 v = false := by
  obtain ⟨a, n, c, rfl⟩ := h; rfl
/-- append to an empty slice of one's own, perhaps of nothing. -/
theorem append_zero (hT : ApT E T α) {ys : List α} {y : Value} {b : Nat} (h : m.get b = .cells [] (Rep.ty α) none) (hy : Sl m ys y) (hs : ys.length ≤ 1000000) :
    ∃ v' m1, builtin? E (m.wl m.n) .append [T, T] [.slice (some ⟨b, 0, none⟩) 0 0, y] = some (v', m1) ∧ ((ys = [] ∧ v' = .slice (some ⟨b, 0, none⟩) 0 0) ∨ (ys ≠ [] ∧ Ow m.n m1 ys v')) ∧ Ext m m1 ∧ m1.low = m.n := by
  by_cases hne : ys = []
  · subst hne
    obtain ⟨ti, ei, t1, t2, t3, t4, t5, t6⟩ := hT
    obtain ⟨news, e1, e2, e3, e4, e5⟩ := hy.first
    have hpos := Rep.pos (α := α)
    have hnews : news = [] := List.length_eq_zero_iff.1 (by rw [e3]; simp)
    subst hnews
    have hc : (Nat.beq ti.es 0 || Nat.blt 65536 ei.bytes || !([] : List Value).all D.one || Nat.blt 268435456 (0 + ([] : List α).length) || !Nat.beq ([] : List Value).length (([] : List α).length * ti.es) || !zeroLen ei.zero ti.es) = false := by
      have c1 : Nat.beq ti.es 0 = false := by
        cases hb : Nat.beq ti.es 0 with
        | false => rfl
        | true => have := Nat.eq_of_beq_eq_true hb; omega
      have c2 : Nat.blt 65536 ei.bytes = false := by
        cases hb : Nat.blt 65536 ei.bytes with
        | false => rfl
        | true => rw [Nat.blt_eq] at hb; omega
      have c4 : Nat.beq ([] : List Value).length (([] : List α).length * ti.es) = true := by rw [List.length_nil, List.length_nil, Nat.zero_mul]; rfl
      rw [c1, c2, c4, t3, t6]; rfl
    have hfirst : first? (m.wl m.n) ti.es ([] : List α).length y = some [] := by rw [first?_wl, t3]; exact e2
    refine ⟨.slice (some ⟨b, 0, none⟩) 0 0, m.wl m.n, ?_, .inl ⟨rfl, rfl⟩, ⟨Nat.le_refl _, fun _ _ => rfl⟩, rfl⟩
    simp only [builtin?, append?, t1, e1, t2, t4, hfirst, hc, cond_false]
    rfl
  · obtain ⟨v', m1, h1, h2, h3, h4⟩ := append_copy hT h hy hne hs
    exact ⟨v', m1, h1, .inr ⟨hne, h2⟩, h3, h4⟩
end
end Go.D

/- What append leaves as it is. -/
namespace Go.D
open Go
section
variable {E : Env} {m m1 : M} {T U : TypeId} {v' : Value} {c : Nat}
theorem storeCells_other {a : Addr} {vs : List Value} (h : storeCells m a vs = some m1) (hne : c ≠ a.block) : m1.get c = m.get c := by
  unfold storeCells at h
  cases hb : m.get a.block with
  | cells cs e g =>
    simp only [hb] at h
    cases hc : (a.spot.isNone && Nat.ble (a.off + vs.length) cs.length && vs.all one) with
    | true => rw [hc, cond_true] at h; cases h; exact M.get_set_ne hne
    | false => rw [hc, cond_false] at h; cases h
  | _ => simp only [hb] at h; cases h
theorem grow?_other {e k : Nat} {base : Option Addr} {sl sc need : Nat} {news : List Value} (h : grow? m e k base sl sc need news = some (v', m1)) (hc : c < m.n) (hs : ∀ a, base = some a → c ≠ a.block) : m1.get c = m.get c := by
  unfold grow? at h
  cases base with
  | none =>
    dsimp only at h
    cases h1 : (Nat.beq sl 0 && Nat.beq sc 0) with
    | true => rw [h1, cond_true] at h; cases h; exact M.get_push_lt hc
    | false => rw [h1, cond_false] at h; cases h
  | some a =>
    dsimp only at h
    cases hb : m.get a.block with
    | cells cs te g =>
      cases ho : (bif Nat.beq sl 0 then some [] else loadCells m a (sl * k)) with
      | none => simp only [hb, ho] at h; cases h
      | some old =>
        simp only [hb, ho] at h
        cases h1 : (g.isNone || (g == some k && Nat.blt (a.off + sc * k) cs.length)) with
        | true => rw [h1, cond_true] at h; cases h; exact M.get_push_lt hc
        | false =>
          rw [h1, cond_false] at h
          cases h2 : (g == some k && Nat.beq a.off 0 && a.spot.isNone && Nat.beq (sl * k) cs.length && Nat.beq sc sl && Nat.beq te e) with
          | true => rw [h2, cond_true] at h; cases h; rw [M.get_push_lt (m := m.set a.block .dead) hc, M.get_set_ne (hs a rfl)]
          | false => rw [h2, cond_false] at h; cases h
    | _ => simp only [hb] at h; cases h
theorem append?_other {s x : Value} (h : append? E m T U s x = some (v', m1)) (hc : c < m.n) (hs : ∀ a n k, s = .slice (some a) n k → c ≠ a.block) : m1.get c = m.get c := by
  unfold append? at h
  split at h
  · rename_i ti ui base sl sc n _ _ _
    split at h
    · cases h
    · rename_i e _ _
      cases h1 : E.ty.get e with
      | none => simp only [h1] at h; cases h
      | some ei =>
        cases h2 : first? m ti.es n x with
        | none => simp only [h1, h2] at h; cases h
        | some news =>
          simp only [h1, h2] at h
          cases h3 : (Nat.beq ti.es 0 || Nat.blt 65536 ei.bytes || !news.all one || Nat.blt 268435456 (sl + n) || !Nat.beq news.length (n * ti.es) || !zeroLen ei.zero ti.es) with
          | true => rw [h3, cond_true] at h; cases h
          | false =>
            rw [h3, cond_false] at h
            cases h4 : Nat.ble (sl + n) sc with
            | false =>
              rw [h4, cond_false] at h
              exact grow?_other h hc fun a ha => hs a sl sc (by rw [ha])
            | true =>
              rw [h4, cond_true] at h
              cases base with
              | none =>
                dsimp only at h
                cases h5 : Nat.beq n 0 with
                | true => rw [h5, cond_true] at h; cases h; rfl
                | false => rw [h5, cond_false] at h; cases h
              | some a =>
                dsimp only at h
                cases h5 : Nat.beq n 0 with
                | true => rw [h5, cond_true] at h; cases h; rfl
                | false =>
                  rw [h5, cond_false] at h
                  cases h6 : storeCells m (a.add (sl * ti.es)) news with
                  | none => rw [h6] at h; cases h
                  | some m2 =>
                    rw [h6] at h
                    cases h
                    refine storeCells_other h6 ?_
                    have : (a.add (sl * ti.es)).block = a.block := by
                      unfold Addr.add; split <;> rfl
                    rw [this]
                    exact hs a sl sc rfl
    · cases h
  · cases h
theorem append_other {s x : Value} (h : builtin? E (m.wl m.n) .append [T, U] [s, x] = some (v', m1)) (hc : c < m.n) (hs : ∀ a n k, s = .slice (some a) n k → c ≠ a.block) : m1.get c = m.get c :=
  (append?_other (m := m.wl m.n) h hc hs).trans rfl
end
end Go.D

/- Contracts: insert, and what it leaves. -/
namespace Go.D
open Go
section
variable {E : Env} {m m1 : M} {T U : TypeId} {v' : Value}
theorem grow?_block {e k : Nat} {base : Option Addr} {sl sc need : Nat} {news : List Value} (h : grow? m e k base sl sc need news = some (v', m1)) : v' = .slice (some ⟨m.n, 0, none⟩) need need := by
  unfold grow? at h
  cases base with
  | none =>
    dsimp only at h
    cases h1 : (Nat.beq sl 0 && Nat.beq sc 0) with
    | true => rw [h1, cond_true] at h; cases h; rfl
    | false => rw [h1, cond_false] at h; cases h
  | some a =>
    dsimp only at h
    cases hb : m.get a.block with
    | cells cs te g =>
      cases ho : (bif Nat.beq sl 0 then some [] else loadCells m a (sl * k)) with
      | none => simp only [hb, ho] at h; cases h
      | some old =>
        simp only [hb, ho] at h
        cases h1 : (g.isNone || (g == some k && Nat.blt (a.off + sc * k) cs.length)) with
        | true => rw [h1, cond_true] at h; cases h; rfl
        | false =>
          rw [h1, cond_false] at h
          cases h2 : (g == some k && Nat.beq a.off 0 && a.spot.isNone && Nat.beq (sl * k) cs.length && Nat.beq sc sl && Nat.beq te e) with
          | true => rw [h2, cond_true] at h; cases h; rfl
          | false => rw [h2, cond_false] at h; cases h
    | _ => simp only [hb] at h; cases h
/-- append of something to a slice without room: a row of its own. -/
theorem append_fresh {base : Option Addr} {n k : Nat} {x : Value} (hx : length? x = some k) (hk : 0 < k) (h : builtin? E (m.wl m.n) .append [T, U] [.slice base n n, x] = some (v', m1)) : ∃ len, v' = .slice (some ⟨m.n, 0, none⟩) len len := by
  have h : append? E (m.wl m.n) T U (.slice base n n) x = some (v', m1) := h
  unfold append? at h
  split at h
  · rename_i ti ui base' sl sc n' _ _ he hx'
    cases he
    rw [hx] at hx'
    cases hx'
    split at h
    · cases h
    · rename_i e _ _
      cases h1 : E.ty.get e with
      | none => simp only [h1] at h; cases h
      | some ei =>
        cases h2 : first? (m.wl m.n) ti.es k x with
        | none => simp only [h1, h2] at h; cases h
        | some news =>
          simp only [h1, h2] at h
          cases h3 : (Nat.beq ti.es 0 || Nat.blt 65536 ei.bytes || !news.all one || Nat.blt 268435456 (n + k) || !Nat.beq news.length (k * ti.es) || !zeroLen ei.zero ti.es) with
          | true => rw [h3, cond_true] at h; cases h
          | false =>
            rw [h3, cond_false] at h
            have h4 : Nat.ble (n + k) n = false := by
              cases hb : Nat.ble (n + k) n with
              | false => rfl
              | true => have := Nat.le_of_ble_eq_true hb; omega
            rw [h4, cond_false] at h
            exact ⟨_, grow?_block (m := m.wl m.n) h⟩
    · cases h
  · cases h
end
end Go.D
namespace Go.Proofs.YtbpmlholiohkpaaGreatDoor
open Go Go.D
variable {X : CallFn} {m : M}
/-- insert, where the numbers are others, and what it leaves. -/
theorem insert_ok' (hX : NoX X) {n1 : Nat} {l ys : List Int} {v y : Value} (h : Ow n1 m l v) (hy : Sl m ys y) (hn : n1 ≤ m.n) (hne : ys ≠ []) (hs : l.length + ys.length ≤ 1000) (hd : (l ++ ys).Nodup) :
    ∃ v' m' b, C X (.func 51) [v, y] m b v' m' ∧ Ow m.n m' (isort (l ++ ys)) v' ∧ (∀ c, c < m.n → (∀ a n k, v = .slice (some a) n k → c ≠ a.block) → m'.get c = m.get c) ∧ m.n ≤ m'.n ∧ n1 ≤ b := by
  have hsorted := isort_sorted (l ++ ys)
  have hnd : (isort (l ++ ys)).Nodup := (isort_perm (l ++ ys)).nodup_iff.2 hd
  have hlen : (isort (l ++ ys)).length = l.length + ys.length := by rw [isort_length, List.length_append]
  have hpos : 0 < ys.length := List.length_pos_iff.2 hne
  have hne' : isort (l ++ ys) ≠ [] := fun e => by have := congrArg List.length e; rw [hlen, List.length_nil] at this; omega
  refine Cl.heap (R := fun v' m' b => Ow m.n m' (isort (l ++ ys)) v' ∧ (∀ c, c < m.n → (∀ a n k, v = .slice (some a) n k → c ≠ a.block) → m'.get c = m.get c) ∧ m.n ≤ m'.n ∧ n1 ≤ b) (hX.no 51 rfl) fn_51 rfl ?_
  rw [F51]
  obtain ⟨v1, m1, e1, hOw, hFr, hlow, hn2⟩ := h.append apt_int (by simp [Rep.tys]) hy hn (by omega)
  rw [e1, on2_some]
  have hoth := fun c hc hs => append_other (c := c) e1 hc hs
  obtain ⟨_, hyl, _⟩ := hy.first
  have hOwn : Ow m.n m1 (l ++ ys) v1 := by
    have hfresh : ∃ len, v1 = .slice (some ⟨m.n, 0, none⟩) len len := by
      rcases h with ⟨rfl, rfl⟩ | ⟨b, cs, rfl, _⟩
      · exact append_fresh hyl hpos e1
      · exact append_fresh hyl hpos e1
    obtain ⟨len, rfl⟩ := hfresh
    rcases hOw with ⟨hc, _⟩ | ⟨b, cs, hc, h2, h3, h4⟩
    · cases hc
    · cases hc
      exact .inr ⟨_, cs, rfl, h2, Nat.le_refl _, h4⟩
  obtain ⟨b, m2, hc, hOw2, hFr2, hb⟩ := sort_ok hX hOwn hFr.n (by rw [List.length_append]; omega)
  refine onC_of hc ?_
  have hfl := hOw2.flat hne'
  obtain ⟨m3, hc3, he3⟩ := compact_ok hX hOw2.sl hfl (by omega) (fun i x z hx hz e => by
    subst e
    have := List.pairwise_iff_getElem.1 hnd i (i + 1) (List.getElem?_eq_some_iff.1 hx).1 (List.getElem?_eq_some_iff.1 hz).1 (by omega)
    rw [(List.getElem?_eq_some_iff.1 hx).2, (List.getElem?_eq_some_iff.1 hz).2] at this
    exact this rfl)
  refine onC_of hc3 ?_
  have hm1 := hFr.n
  have hm2 := hFr2.n
  have hm3 := he3.n
  exact ⟨.inl hfl, hOw2.keepE he3, fun c hc hs => by rw [he3.get c (by omega), hFr2.get c hc, hoth c hc hs], by omega, by omega⟩
end Go.Proofs.YtbpmlholiohkpaaGreatDoor

/- Contracts: what a proof leans on: Uses. -/
namespace Go.Proofs.YtbpmlholiohkpaaGreatDoor
open Go Go.D
variable {X : CallFn} {m : M}
/-- Does a finding lean on a clause? -/
def usesB (l : Law) (q : Query) (x : Finding) (z : Int) : Bool := if 0 ≤ x.fact then false else if 0 ≤ x.clause then decide (z = x.clause) else (l.rules' q).contains z && givesS l x.says z
theorem proves_at {l : Law} {q : Query} {n : Int} {b : Bool} {lst : List Finding} (h : provesS l q n b lst = true) : ∀ i x, lst[i]? = some x → (beforeF lst i + 1 ≤ x.says ∧ x.says ≤ 19) ∧ rightS l q x lst = true := by
  unfold provesS at h
  simp only [Bool.and_eq_true, decide_eq_true_eq] at h
  obtain ⟨hall, _⟩ := h
  rw [List.all_eq_true] at hall
  intro i x hx
  have := hall i (List.mem_range.2 (List.getElem?_eq_some_iff.1 hx).1)
  unfold okAt at this
  rw [hx] at this
  simpa only [inB, Bool.and_eq_true, decide_eq_true_eq] using this
theorem right_cases {l : Law} {q : Query} {x : Finding} {lst : List Finding} (h : rightS l q x lst = true) :
    (∃ k f, x.fact = (k : Nat) ∧ l.facts[k]? = some f ∧ f.says = x.says) ∨ (x.fact = -1 ∧ ∃ k c, x.clause = (k : Nat) ∧ l.clauses[k]? = some c ∧ c.gives = x.says) ∨ (x.fact = -1 ∧ x.clause = -1) := by
  obtain ⟨says, holds, fact, clause⟩ := x
  cases holds with
  | true =>
    by_cases hc : clause = -1
    · subst hc
      rw [rightS_fact, Bool.and_eq_true] at h
      obtain ⟨k, f, rfl, hf⟩ := mem_facts' (List.contains_iff_mem.1 h.1)
      refine .inl ⟨k, f, rfl, hf, ?_⟩
      have h2 := h.2
      simp only [factSays, Int.toNat_natCast, hf, decide_eq_true_eq] at h2
      exact h2
    · rw [rightS_clause hc] at h
      simp only [Bool.and_eq_true, decide_eq_true_eq] at h
      obtain ⟨h1, h2, h3⟩ := h
      obtain ⟨k, c, rfl, hcl⟩ := mem_rules' (List.contains_iff_mem.1 h2)
      refine .inr (.inl ⟨h1, k, c, rfl, hcl, ?_⟩)
      simp only [borneS, Int.toNat_natCast, hcl, Bool.and_eq_true, decide_eq_true_eq] at h3
      exact h3.1
  | false =>
    rw [rightS_none] at h
    simp only [Bool.and_eq_true, decide_eq_true_eq] at h
    exact .inr (.inr h.1)
theorem beforeF_succ {lst : List Finding} {i : Nat} {x : Finding} (hx : lst[i]? = some x) : beforeF lst (i + 1) = x.says := by
  unfold beforeF
  rw [if_neg (by omega), Nat.add_sub_cancel, hx]
theorem ow_keep_int {n1 : Nat} {l : List Int} {v : Value} {m' : M} (h : Ow n1 m l v) (hk : ∀ a n k, v = .slice (some a) n k → m'.get a.block = m.get a.block) : Ow n1 m' l v := by
  rcases h with ⟨rfl, rfl⟩ | ⟨b, cs, rfl, h2, h3, h4, h5, h6⟩
  · exact .nil
  · exact .inr ⟨b, cs, rfl, h2, h3, by rw [← h4]; exact hk _ _ _ rfl, h5, h6⟩
/-- Two slices in rows of their own. -/
def Apart (v w : Value) : Prop := ∀ a n k a' n' k', v = .slice (some a) n k → w = .slice (some a') n' k' → a.block ≠ a'.block
theorem ow_lt {n1 : Nat} {l : List Int} {v : Value} (h : Ow n1 m l v) : ∀ a n k, v = .slice (some a) n k → a.block < m.n := by
  rcases h with ⟨rfl, rfl⟩ | ⟨b, cs, rfl, h2, h3, h4, _⟩
  · intro a n k e; cases e
  · intro a n k e; cases e; exact M.lt_of_get h4
theorem ow_ge {n1 : Nat} {l : List Int} {v : Value} (h : Ow n1 m l v) : ∀ a n k, v = .slice (some a) n k → n1 ≤ a.block := by
  rcases h with ⟨rfl, rfl⟩ | ⟨b, cs, rfl, h2, h3, _⟩
  · intro a n k e; cases e
  · intro a n k e; cases e; exact h3
theorem ow_ty {n1 : Nat} {l : List Int} {v : Value} (h : Ow n1 m l v) : ∀ a n k, v = .slice (some a) n k → ∃ cs, m.get a.block = .cells cs 3 (some 1) := by
  rcases h with ⟨rfl, rfl⟩ | ⟨b, cs, rfl, h2, h3, h4, _⟩
  · intro a n k e; cases e
  · intro a n k e; cases e; exact ⟨cs, h4⟩
/-- insert of one number into one of two lists. -/
theorem insert_two (hX : NoX X) {n1 : Nat} {l l2 : List Int} {v w : Value} {z : Int} (h : Ow n1 m l v) (h2 : Ow n1 m l2 w) (hd : Apart v w) (hn : n1 ≤ m.n) (hs : l.length ≤ 900) (hnd : l.Nodup) (hz : z ∉ l) {R : Value → M → Nat → Prop}
    (hR : ∀ v' m' b, n1 ≤ b → Ow n1 m' (isort (l ++ [z])) v' → Ow n1 m' l2 w → Apart v' w → (∀ c, c < n1 → m'.get c = m.get c) → (∀ c, c < m.n → (∀ a n k, v = .slice (some a) n k → c ≠ a.block) → m'.get c = m.get c) → m.n ≤ m'.n → R v' m' b) :
    on2 (buildSlice? Tab.env m 26 1 [(0, .int .i64 z)]) fun y m1 => onC Tab.env X (.func 51) [v, y] m1 R := by
  rw [buildSlice_int1, on2_some]
  have he : Ext m (m.push (.cells [.int .i64 z] 3 none)) := Ext.refl.push
  have hy : Sl (m.push (.cells [.int .i64 z] 3 none)) [z] (.slice (some ⟨m.n, 0, none⟩) 1 1) := by
    refine .inr ⟨m.n, 0, 1, _, none, rfl, M.get_push_new, (by show (0 + 1 * 1 : Nat) ≤ 1; decide), fun j u hj => ?_⟩
    cases j with
    | zero => simp at hj; subst hj; rfl
    | succ j => simp at hj
  have hn1 : (m.push (.cells [.int .i64 z] 3 none)).n = m.n + 1 := M.push_n
  generalize m.push (.cells [.int .i64 z] 3 none) = m1 at he hy hn1 ⊢
  obtain ⟨v', m', b, hc, hOw, hk, hmn, hb⟩ := insert_ok' hX (h.keepE he) hy (by omega) (by simp) (by simp; omega) (by
    rw [List.nodup_append]
    refine ⟨hnd, by simp, fun a ha c hc => ?_⟩
    rw [List.mem_singleton.1 hc]
    rintro rfl
    exact hz ha)
  refine onC_of hc ?_
  have hlt2 := ow_lt (h2.keepE he)
  refine hR v' m' b hb (hOw.mono (by omega)) (ow_keep_int (h2.keepE he) fun a n k e => hk _ (hlt2 a n k e) fun a' n' k' e' => (hd a' n' k' a n k e' e).symm) (fun a n k a' n' k' e e' => ?_) (fun c hc => ?_) (fun c hc hne => by rw [hk c (by omega) hne, he.get c hc]) (by omega)
  · have := ow_ge hOw a n k e
    have := hlt2 a' n' k' e'
    omega
  · rw [hk c (by omega) fun a n k e => ?_, he.get c (by omega)]
    have := ow_ge h a n k e
    omega
theorem uses_ok (hX : NoX X) {l : Law} {v1 v2 v3 : Value} (hl : LawV m l v1 v2 v3) (q : Query) (hlo : l.ok = true) (hqo : q.ok = true) {lst : List Finding} {pv : Value} (hS : Sl m lst pv) (hs : lst.length ≤ 20) {b : Bool} (hp : provesS l q q.says b lst = true) :
    ∃ vf vc cl m', C X (.func 21) [.agg #[v1, v2, v3], q.v, pv] m m.n (.tuple #[vf, vc, .int .i64 0]) m' ∧ Sl m' cl vc ∧ (∀ z, z ∈ cl ↔ ∃ x ∈ lst, usesB l q x z = true) ∧ (∀ z ∈ cl, 0 ≤ z ∧ z < l.clauses.length) ∧ cl.length ≤ 420 ∧ Ext m m' := by
  have key := Cl.genJ (E := Tab.env) (X := X) (f := 21) (args := [.agg #[v1, v2, v3], q.v, pv]) (m := m) (R := fun v m' b => ∃ vf vc cl, v = .tuple #[vf, vc, .int .i64 0] ∧ b = m.n ∧ Sl m' cl vc ∧ (∀ z, z ∈ cl ↔ ∃ x ∈ lst, usesB l q x z = true) ∧ (∀ z ∈ cl, 0 ≤ z ∧ z < l.clauses.length) ∧ cl.length ≤ 420 ∧ Ext m m') (hX.no 21 rfl) fn_21 rfl ?_
  · obtain ⟨v, m', b, hc, vf, vc, cl, rfl, rfl, h⟩ := key
    exact ⟨vf, vc, cl, m', hc, h⟩
  have hsz := law_sizes hlo
  have hat := proves_at hp
  have hrl := rules_len (q := q) hlo
  rw [FJ21]; dsimp only [plainW]
  refine onM_push fun m1 hn1 hg1 hk1 => ?_
  refine onM_push fun m2 hn2 hg2 hk2 => ?_
  have hg1' := (hk2 m.n (by omega)).trans hg1
  simp only [cells_agg] at hg1' hg2
  have he2 : Ext m m2 := ⟨by omega, fun b hb => by rw [hk2 b (by omega), hk1 b hb]⟩
  simp only [ptrTo]
  rw [load_38, loadCells_of hg1' (by simp), Option.map_some, onS_some, load_55, loadCells_of hg2 (by simp), Option.map_some, onS_some]
  obtain ⟨bj, bm, w1, w2, m6, hc6, hJ6, he6, hbj, hbm⟩ := open_ok hX (hl.keepE he2) q hlo hqo
  refine onC_of (show C X (.func 40) [Value.agg (List.take 3 (List.drop 0 [v1, v2, v3])).toArray, Value.agg (List.take 4 (List.drop 0 q.c)).toArray] m2 m2.n _ m6 from hc6) ?_
  have hE6 := he2.trans he6
  have hS6 := hS.keepE hE6
  have hg16 := he6.cells hg1'
  have hg26 := he6.cells hg2
  have hn6 := he6.n
  simp only [extr_tuple, onS_some, on2_some, ifV_bool, ifB_true, ifB_false, bin_leq, bin_lss, bin_geq, bin_gtr, bin_eql, bin_neq, un_not, ptrTo, nilck_ptr, Nat.zero_add, Nat.reduceAdd, List.getElem?_cons_zero, List.getElem?_cons_succ, List.drop_zero, List.drop_succ_cons, List.take_succ_cons, List.take_zero, Option.map_some, cells_agg, cells_int, cells_bool]
  refine jn_of (fun vs m' lo' => vs = [.bool false] ∧ m6 = m' ∧ m.n ≤ lo') (fun R hR => ?_) ?_
  · refine ifB_intro (fun h => by simp at h) (fun _ => ?_)
    simp only [fieldAddr_55_1, load_3, cellAt_of hg26, onS_some, on2_some, ifV_bool, ifB_true, ifB_false, bin_leq, bin_lss, bin_geq, bin_gtr, bin_eql, bin_neq, un_not, ptrTo, nilck_ptr, Nat.zero_add, Nat.reduceAdd, List.getElem?_cons_zero, List.getElem?_cons_succ, List.drop_zero, List.drop_succ_cons, List.take_succ_cons, List.take_zero, Option.map_some, cells_agg, cells_int, cells_bool]
    refine onC_of (proves_ok hX hlo hJ6 hS6 (by omega) _ true) ?_
    rw [un_not, onS_some, ifV_bool]
    refine ifB_intro (fun h1 => ?_) (fun _ => hR _ _ _ ⟨rfl, rfl, by omega⟩)
    simp only [cellAt_of hg26, onS_some, on2_some, ifV_bool, ifB_true, ifB_false, bin_leq, bin_lss, bin_geq, bin_gtr, bin_eql, bin_neq, un_not, ptrTo, nilck_ptr, Nat.zero_add, Nat.reduceAdd, List.getElem?_cons_zero, List.getElem?_cons_succ, List.drop_zero, List.drop_succ_cons, List.take_succ_cons, List.take_zero, Option.map_some, cells_agg, cells_int, cells_bool]
    refine onC_of (proves_ok hX hlo hJ6 hS6 (by omega) _ false) ?_
    have : provesS l q q.says false lst = true := by
      cases b with
      | true => rw [hp] at h1; cases h1
      | false => exact hp
    rw [this, un_not, onS_some]
    exact hR _ _ _ ⟨rfl, rfl, by omega⟩
  rintro _ _ lo12 ⟨rfl, rfl, hlo12⟩
  simp only [un_cons, ifV_bool, ifB_false]
  rw [hS6.len slt_finding, on2_some]
  refine Lp.intro (γ := Nat) (fun i => lst.length - i) (fun i vs mm lo => ∃ (fl cl : List Int) (vf vc : Value), vs = [vf, vc, .int .i64 i] ∧ i ≤ lst.length ∧ Ext m6 mm ∧ m.n ≤ lo ∧ Ow m6.n mm fl vf ∧ Ow m6.n mm cl vc ∧ Apart vf vc ∧ fl.length ≤ i ∧ cl.length ≤ 21 * i ∧ fl.Nodup ∧ cl.Nodup ∧
    (∀ z ∈ fl, ∃ k f, z = (k : Nat) ∧ l.facts[k]? = some f ∧ f.says ≤ beforeF lst i) ∧ (∀ z ∈ cl, ∃ k c, z = (k : Nat) ∧ l.clauses[k]? = some c ∧ c.gives ≤ beforeF lst i) ∧ (∀ z, z ∈ cl ↔ ∃ x ∈ lst.take i, usesB l q x z = true)) 0
    ⟨[], [], _, _, rfl, Nat.zero_le _, .refl, hlo12, .nil, .nil, fun a n k a' n' k' e => (by cases e), Nat.le_refl _, Nat.le_refl _, .nil, .nil, fun z hz => (by cases hz), fun z hz => (by cases hz), fun z => by simp⟩ ?_
  rintro i vs mm lo ⟨fl, cl, vf, vc, rfl, hi, hE, hlo', hOf, hOc, hap, hfl, hcl, hfn, hcn, hfb, hcb, hmem⟩
  have hmn := hE.n
  have hSm := hS6.keepE hE
  simp only [un_cons, onS_some, on2_some, ifV_bool, ifB_true, ifB_false, bin_leq, bin_lss, bin_geq, bin_gtr, bin_eql, bin_neq, un_not, ptrTo, nilck_ptr, Nat.zero_add, Nat.reduceAdd, List.getElem?_cons_zero, List.getElem?_cons_succ, List.drop_zero, List.drop_succ_cons, List.take_succ_cons, List.take_zero, Option.map_some, cells_agg, cells_int, cells_bool]
  refine ifB_intro (fun hc => ?_) (fun hc => ?_)
  · have hlt : i < lst.length := by simpa using hc
    have hx : lst[i]? = some lst[i] := List.getElem?_eq_getElem hlt
    obtain ⟨⟨hb1, hb2⟩, hright⟩ := hat i _ hx
    have hbs := beforeF_succ hx
    have htk : ∀ z, (∃ y ∈ lst.take (i + 1), usesB l q y z = true) ↔ (∃ y ∈ lst.take i, usesB l q y z = true) ∨ usesB l q lst[i] z = true := fun z => by
      rw [List.take_add_one, hx]
      simp only [Option.toList_some, List.mem_append, List.mem_singleton]
      constructor
      · rintro ⟨y, hy | rfl, h⟩
        · exact .inl ⟨y, hy, h⟩
        · exact .inr h
      · rintro (⟨y, hy, h⟩ | h)
        · exact ⟨y, .inl hy, h⟩
        · exact ⟨_, .inr rfl, h⟩
    generalize lst[i] = x at hx hb1 hb2 hright hbs htk
    obtain ⟨p, cs, e1, e2, rfl⟩ := hSm.index slt_finding (k := .i64) hx
    rw [e1, onS_some, e2, onS_some, val_agg rfl]
    refine onM_push fun m44 hn44 hg44 hk44 => ?_
    refine on2_storeV ty_150 hg44 (by rfl) (by rfl) rfl fun m45 hn45 hg45 hk45 => ?_
    simp only [cells_agg] at hg45
    have he45 : Ext mm m45 := ⟨by omega, fun b hb => by rw [hk45 b (by omega), hk44 b hb]⟩
    have hE45 := hE.trans he45
    have hOf45 := hOf.keepE he45
    have hOc45 := hOc.keepE he45
    simp only [ptrTo, fieldAddr_150_2, fieldAddr_150_3, load_3, cellAt_of hg45, onS_some, on2_some, ifV_bool, ifB_true, ifB_false, bin_leq, bin_lss, bin_geq, bin_gtr, bin_eql, bin_neq, un_not, ptrTo, nilck_ptr, Nat.zero_add, Nat.reduceAdd, List.getElem?_cons_zero, List.getElem?_cons_succ, List.drop_zero, List.drop_succ_cons, List.take_succ_cons, List.take_zero, Option.map_some, cells_agg, cells_int, cells_bool]
    have hcases := right_cases hright
    refine ifB_intro (fun hf => ?_) (fun hf => ?_)
    · have hf : 0 ≤ x.fact := by simpa using hf
      obtain ⟨k, f, hxk, hfk, hfs⟩ : ∃ k f, x.fact = (k : Nat) ∧ l.facts[k]? = some f ∧ f.says = x.says := by
        rcases hcases with h | ⟨h, _⟩ | ⟨h, _⟩
        · exact h
        · omega
        · omega
      have hno : x.fact ∉ fl := fun hin => by
        obtain ⟨k', f', h1, h2, h3⟩ := hfb _ hin
        have : k' = k := by omega
        subst this
        rw [hfk] at h2; cases h2
        omega
      refine insert_two hX hOf45 hOc45 hap (by omega) (by omega) hfn hno fun v' m' b' hb' h1 h2 h3 h4 h45 h5 => ?_
      simp only [bin_add, onS_some]
      refine ⟨i + 1, by omega, isort (fl ++ [x.fact]), cl, v', vc, ?_, by omega, ⟨by omega, fun c hc => by rw [h4 c hc, hE45.get c hc]⟩, by omega, h1, h2, h3, ?_, by omega, (isort_perm _).nodup_iff.2 ?_, hcn, fun z hz => ?_, fun z hz => ?_, fun z => ?_⟩
      · rw [wrap64 (by omega) (by omega)]; rfl
      · rw [isort_length]; simp; omega
      · rw [List.nodup_append]
        exact ⟨hfn, by simp, fun a ha c hc => by rw [List.mem_singleton.1 hc]; rintro rfl; exact hno ha⟩
      · rw [hbs]
        rcases List.mem_append.1 ((isort_perm _).mem_iff.1 hz) with hz | hz
        · obtain ⟨k', f', g1, g2, g3⟩ := hfb _ hz
          exact ⟨k', f', g1, g2, by omega⟩
        · rw [List.mem_singleton.1 hz]
          exact ⟨k, f, hxk, hfk, by omega⟩
      · obtain ⟨k', f', g1, g2, g3⟩ := hcb _ hz
        exact ⟨k', f', g1, g2, by rw [hbs]; omega⟩
      · rw [htk, hmem]
        have : usesB l q x z = false := by unfold usesB; rw [if_pos hf]
        rw [this]; simp
    · have hf : ¬ 0 ≤ x.fact := by simpa using hf
      refine ifB_intro (fun hc => ?_) (fun hc => ?_)
      · have hc : 0 ≤ x.clause := by simpa using hc
        obtain ⟨k, c, hxk, hck, hcs⟩ : ∃ k c, x.clause = (k : Nat) ∧ l.clauses[k]? = some c ∧ c.gives = x.says := by
          rcases hcases with ⟨k, f, h, _⟩ | ⟨_, h⟩ | ⟨_, h⟩
          · omega
          · exact h
          · omega
        have hno : x.clause ∉ cl := fun hin => by
          obtain ⟨k', f', h1, h2, h3⟩ := hcb _ hin
          have : k' = k := by omega
          subst this
          rw [hck] at h2; cases h2
          omega
        refine insert_two hX hOc45 hOf45 (fun a n k a' n' k' e e' => (hap a' n' k' a n k e' e).symm) (by omega) (by omega) hcn hno fun v' m' b' hb' h1 h2 h3 h4 h45 h5 => ?_
        simp only [bin_add, onS_some]
        refine ⟨i + 1, by omega, fl, isort (cl ++ [x.clause]), vf, v', ?_, by omega, ⟨by omega, fun c hc => by rw [h4 c hc, hE45.get c hc]⟩, by omega, h2, h1, fun a n k a' n' k' e e' => (h3 a' n' k' a n k e' e).symm, by omega, ?_, hfn, (isort_perm _).nodup_iff.2 ?_, fun z hz => ?_, fun z hz => ?_, fun z => ?_⟩
        · rw [wrap64 (by omega) (by omega)]; rfl
        · rw [isort_length]; simp; omega
        · rw [List.nodup_append]
          exact ⟨hcn, by simp, fun a ha c hc => by rw [List.mem_singleton.1 hc]; rintro rfl; exact hno ha⟩
        · obtain ⟨k', f', g1, g2, g3⟩ := hfb _ hz
          exact ⟨k', f', g1, g2, by rw [hbs]; omega⟩
        · rw [hbs]
          rcases List.mem_append.1 ((isort_perm _).mem_iff.1 hz) with hz | hz
          · obtain ⟨k', f', g1, g2, g3⟩ := hcb _ hz
            exact ⟨k', f', g1, g2, by omega⟩
          · rw [List.mem_singleton.1 hz]
            exact ⟨k, c, hxk, hck, by omega⟩
        · rw [htk, ← hmem, (isort_perm _).mem_iff, List.mem_append, List.mem_singleton]
          have : usesB l q x z = decide (z = x.clause) := by unfold usesB; rw [if_neg hf, if_pos hc]
          rw [this, decide_eq_true_eq]
      · have hc : ¬ 0 ≤ x.clause := by simpa using hc
        have hJ45 := hJ6.ext hE45
        have hg145 := hE45.cells hg16
        simp only [nilck_ptr, fieldAddr_154_2, load_26, cellAt_of hJ45.row, hJ45.rules.len slt_int, onS_some, on2_some, ifV_bool, ifB_true, ifB_false, bin_leq, bin_lss, bin_geq, bin_gtr, bin_eql, bin_neq, un_not, ptrTo, nilck_ptr, Nat.zero_add, Nat.reduceAdd, List.getElem?_cons_zero, List.getElem?_cons_succ, List.drop_zero, List.drop_succ_cons, List.take_succ_cons, List.take_zero, Option.map_some, cells_agg, cells_int, cells_bool]
        refine Lp.intro (γ := Nat) (fun j => (l.rules' q).length - j) (fun j vs mk lo => ∃ (cl' : List Int) (vc' : Value), vs = [vc', .int .i64 j] ∧ j ≤ (l.rules' q).length ∧ (∀ c, c < m6.n → mk.get c = m45.get c) ∧ m45.n ≤ mk.n ∧ mk.get mm.n = .cells x.c 150 none ∧ m.n ≤ lo ∧ Ow m6.n mk fl vf ∧ Ow m6.n mk cl' vc' ∧ Apart vf vc' ∧ cl'.length ≤ 21 * i + j ∧ cl'.Nodup ∧
          (∀ z ∈ cl', ∃ k c, z = (k : Nat) ∧ l.clauses[k]? = some c ∧ c.gives ≤ x.says) ∧ (∀ z, z ∈ cl' ↔ z ∈ cl ∨ (z ∈ (l.rules' q).take j ∧ givesS l x.says z = true))) 0
          ⟨cl, vc, rfl, Nat.zero_le _, fun _ _ => rfl, Nat.le_refl _, hg45, by omega, hOf45, hOc45, hap, by omega, hcn, fun z hz => ?_, fun z => by simp⟩ ?_
        · obtain ⟨k', f', g1, g2, g3⟩ := hcb _ hz
          exact ⟨k', f', g1, g2, by omega⟩
        rintro j vs mk lo2 ⟨cl', vc', rfl, hj, hkk, hkn, hxk, hlo2, hOf', hOc', hap', hcl', hcn', hcb', hmem'⟩
        have hEk : Ext m6 mk := ⟨by omega, fun c hc => by rw [hkk c hc, hE45.get c hc]⟩
        have hJk := hJ6.ext hEk
        have hg1k := hEk.cells hg16
        simp only [un_cons, onS_some, on2_some, ifV_bool, ifB_true, ifB_false, bin_leq, bin_lss, bin_geq, bin_gtr, bin_eql, bin_neq, un_not, ptrTo, nilck_ptr, Nat.zero_add, Nat.reduceAdd, List.getElem?_cons_zero, List.getElem?_cons_succ, List.drop_zero, List.drop_succ_cons, List.take_succ_cons, List.take_zero, Option.map_some, cells_agg, cells_int, cells_bool]
        refine ifB_intro (fun hc2 => ?_) (fun hc2 => ?_)
        · have hlt2 : j < (l.rules' q).length := by simpa using hc2
          have hz : (l.rules' q)[j]? = some (l.rules' q)[j] := List.getElem?_eq_getElem hlt2
          obtain ⟨k, c, hzk, hck, _⟩ := rules_mem hz
          rw [hzk] at hz
          obtain ⟨p, cs, e3, e4, rfl⟩ := hJk.rules.index slt_int (k := .i64) hz
          rw [e3, onS_some, e4, onS_some, val_int]
          obtain ⟨bb, o, bc, g, cs, e5, e6, ⟨vn, vb, rfl, _⟩, e7, e8⟩ := hJk.law.clauses.indexA slt_clause (k := .i64) hck
          have e9 : bc[o + 5]? = some (.int .i64 c.gives) := e8 5 (by decide)
          simp only [fieldAddr_38_0, load_34, cellAt_of hg1k, onS_some, on2_some, ifV_bool, ifB_true, ifB_false, bin_leq, bin_lss, bin_geq, bin_gtr, bin_eql, bin_neq, un_not, ptrTo, nilck_ptr, Nat.zero_add, Nat.reduceAdd, List.getElem?_cons_zero, List.getElem?_cons_succ, List.drop_zero, List.drop_succ_cons, List.take_succ_cons, List.take_zero, Option.map_some, cells_agg, cells_int, cells_bool]
          rw [e5, onS_some]
          simp only [fieldAddr_64_4, fieldAddr_150_0, load_3, cellAt_of e6, e9, cellAt_of hxk, onS_some, on2_some, ifV_bool, ifB_true, ifB_false, bin_leq, bin_lss, bin_geq, bin_gtr, bin_eql, bin_neq, un_not, ptrTo, nilck_ptr, Nat.zero_add, Nat.reduceAdd, List.getElem?_cons_zero, List.getElem?_cons_succ, List.drop_zero, List.drop_succ_cons, List.take_succ_cons, List.take_zero, Option.map_some, cells_agg, cells_int, cells_bool]
          have hgv : givesS l x.says (k : Int) = decide (c.gives = x.says) := by simp only [givesS, Int.toNat_natCast, hck]
          have htk2 : (l.rules' q).take (j + 1) = (l.rules' q).take j ++ [(k : Int)] := by rw [List.take_add_one, hz]; rfl
          refine ifB_intro (fun hg => ?_) (fun hg => ?_)
          · have hg : c.gives = x.says := by simpa using hg
            have hno : (k : Int) ∉ cl' := fun hin => by
              rcases (hmem' _).1 hin with h | ⟨h, _⟩
              · obtain ⟨k', f', h1, h2, h3⟩ := hcb _ h
                have : k' = k := by omega
                subst this
                rw [hck] at h2; cases h2
                omega
              · obtain ⟨j', hj'⟩ := List.mem_iff_getElem?.1 h
                have hjj : j' < j := by have := (List.getElem?_eq_some_iff.1 hj').1; rw [List.length_take] at this; omega
                rw [List.getElem?_take_of_lt hjj] at hj'
                have hso : (l.rules' q).Pairwise (fun a b => a < b) := sel_sorted
                have := List.pairwise_iff_getElem.1 hso j' j (List.getElem?_eq_some_iff.1 hj').1 hlt2 hjj
                rw [(List.getElem?_eq_some_iff.1 hj').2, hzk] at this
                omega
            refine insert_two hX hOc' hOf' (fun a n k a' n' k' e e' => (hap' a' n' k' a n k e' e).symm) (by omega) (by omega) hcn' hno fun v' m' b' hb' h1 h2 h3 h4 h45 h5 => ?_
            simp only [bin_add, onS_some]
            refine ⟨j + 1, by omega, isort (cl' ++ [(k : Int)]), v', ?_, by omega, fun c hc => by rw [h4 c hc, hkk c hc], by omega, ?_, by omega, h2, h1, fun a n k a' n' k' e e' => (h3 a' n' k' a n k e' e).symm, ?_, (isort_perm _).nodup_iff.2 ?_, fun z hz => ?_, fun z => ?_⟩
            · rw [wrap64 (by omega) (by omega)]; rfl
            · rw [h45 _ (M.lt_of_get hxk) fun a n k e e' => ?_, hxk]
              obtain ⟨cs0, h0⟩ := ow_ty hOc' a n k e
              rw [← e', hxk] at h0
              cases h0
            · rw [isort_length]; simp; omega
            · rw [List.nodup_append]
              exact ⟨hcn', by simp, fun a ha c hc => by rw [List.mem_singleton.1 hc]; rintro rfl; exact hno ha⟩
            · rcases List.mem_append.1 ((isort_perm _).mem_iff.1 hz) with hz | hz
              · exact hcb' _ hz
              · rw [List.mem_singleton.1 hz]
                exact ⟨k, c, rfl, hck, by omega⟩
            · rw [(isort_perm _).mem_iff, List.mem_append, List.mem_singleton, hmem', htk2, List.mem_append, List.mem_singleton]
              constructor
              · rintro ((h | ⟨h, h'⟩) | rfl)
                · exact .inl h
                · exact .inr ⟨.inl h, h'⟩
                · exact .inr ⟨.inr rfl, by rw [hgv, hg]; simp⟩
              · rintro (h | ⟨h | h, h'⟩)
                · exact .inl (.inl h)
                · exact .inl (.inr ⟨h, h'⟩)
                · exact .inr h
          · have hg : ¬ c.gives = x.says := by simpa using hg
            simp only [bin_add, onS_some]
            refine ⟨j + 1, by omega, cl', vc', ?_, by omega, hkk, hkn, hxk, hlo2, hOf', hOc', hap', by omega, hcn', hcb', fun z => ?_⟩
            · rw [wrap64 (by omega) (by omega)]; rfl
            · rw [hmem', htk2, List.mem_append, List.mem_singleton]
              constructor
              · rintro (h | ⟨h, h'⟩)
                · exact .inl h
                · exact .inr ⟨.inl h, h'⟩
              · rintro (h | ⟨h | rfl, h'⟩)
                · exact .inl h
                · exact .inr ⟨h, h'⟩
                · rw [hgv, decide_eq_true_eq] at h'
                  exact absurd h' hg
        · have hge : j = (l.rules' q).length := by
            have : ¬ ((j : Int) < ((l.rules' q).length : Int)) := by simpa using hc2
            omega
          subst hge
          rw [List.take_length] at hmem'
          simp only [bin_add, onS_some]
          refine ⟨i + 1, by omega, fl, cl', vf, vc', ?_, by omega, hEk, hlo2, hOf', hOc', hap', by omega, by omega, hfn, hcn', fun z hz => ?_, fun z hz => ?_, fun z => ?_⟩
          · rw [wrap64 (by omega) (by omega)]; rfl
          · obtain ⟨k', f', g1, g2, g3⟩ := hfb _ hz
            exact ⟨k', f', g1, g2, by rw [hbs]; omega⟩
          · obtain ⟨k', f', g1, g2, g3⟩ := hcb' _ hz
            exact ⟨k', f', g1, g2, by rw [hbs]; omega⟩
          · rw [htk, ← hmem, hmem']
            have : usesB l q x z = ((l.rules' q).contains z && givesS l x.says z) := by unfold usesB; rw [if_neg hf, if_neg hc]
            rw [this, Bool.and_eq_true, List.contains_iff_mem]
  · have hge : i = lst.length := by
      have : ¬ ((i : Int) < (lst.length : Int)) := by simpa using hc
      omega
    subst hge
    rw [List.take_length] at hmem
    have hbd : ∀ z ∈ cl, 0 ≤ z ∧ z < l.clauses.length := fun z hz => by
      obtain ⟨k, c, rfl, hck, _⟩ := hcb z hz
      have := (List.getElem?_eq_some_iff.1 hck).1
      omega
    have hbig : (flat2 (mkres [vf, vc, .int .i64 0]) = false ∨ lo < m.n) ∧ (∃ vf' vc' cl', mkres [vf, vc, .int .i64 0] = .tuple #[vf', vc', .int .i64 0] ∧ min m.n lo = m.n ∧ Sl mm cl' vc' ∧ (∀ z, z ∈ cl' ↔ ∃ x ∈ lst, usesB l q x z = true) ∧ (∀ z ∈ cl', 0 ≤ z ∧ z < l.clauses.length) ∧ cl'.length ≤ 420 ∧ Ext m mm) ∨ (vf = .slice none 0 0 ∧ vc = .slice none 0 0 ∧ cl = []) := by
      rcases hOf with ⟨rfl, rfl⟩ | hof
      · rcases hOc with ⟨rfl, rfl⟩ | hoc
        · exact .inr ⟨rfl, rfl, rfl⟩
        · obtain ⟨b0, cs0, h1, _⟩ := id hoc
          exact .inl ⟨.inl (by rw [h1]; rfl), _, _, cl, rfl, by omega, (show Ow m6.n mm cl vc from .inr hoc).sl, hmem, hbd, by omega, hE6.trans hE⟩
      · obtain ⟨b0, cs0, h1, _⟩ := id hof
        exact .inl ⟨.inl (by rw [h1]; rfl), _, _, cl, rfl, by omega, hOc.sl, hmem, hbd, by omega, hE6.trans hE⟩
    rcases hbig with h | ⟨rfl, rfl, rfl⟩
    · exact .inr h
    · exact .inl ⟨rfl, hlo', _, _, [], rfl, trivial, .nil, hmem, hbd, Nat.zero_le _, .refl⟩
end Go.Proofs.YtbpmlholiohkpaaGreatDoor
