/- What append leaves as it is. A registry of the call's own, whose lists grow. -/
import Derived.Test.YtbpmlholiohkpaaGreatDoorE3
import Derived.Test.YtbpmlholiohkpaaGreatDoorC8
/- What append leaves as it is. -/
namespace Go.D
open Go
section
variable {E : Env} {m m1 : M} {T U : TypeId} {v' : Value} {c : Nat}
theorem storeCells_other {a : Addr} {vs : List Value} (h : storeCells m a vs = some m1) (hne : c ≠ a.block) : m1.get c = m.get c := by
  unfold storeCells at h
  cases hb : m.get a.block with
  | cells cs e g =>
    simp only [hb] at h
    cases hc : (a.spot.isNone && Nat.ble (a.off + vs.length) cs.length && vs.all one) with
    | true => rw [hc, cond_true] at h; cases h; exact M.get_set_ne hne
    | false => rw [hc, cond_false] at h; cases h
  | _ => simp only [hb] at h; cases h
theorem grow?_other {e k : Nat} {base : Option Addr} {sl sc need : Nat} {news : List Value} (h : grow? m e k base sl sc need news = some (v', m1)) (hc : c < m.n) (hs : ∀ a, base = some a → c ≠ a.block) : m1.get c = m.get c := by
  unfold grow? at h
  cases base with
  | none =>
    dsimp only at h
    cases h1 : (Nat.beq sl 0 && Nat.beq sc 0) with
    | true => rw [h1, cond_true] at h; cases h; exact M.get_push_lt hc
    | false => rw [h1, cond_false] at h; cases h
  | some a =>
    dsimp only at h
    cases hb : m.get a.block with
    | cells cs te g =>
      cases ho : (bif Nat.beq sl 0 then some [] else loadCells m a (sl * k)) with
      | none => simp only [hb, ho] at h; cases h
      | some old =>
        simp only [hb, ho] at h
        cases h1 : (g.isNone || (g == some k && Nat.blt (a.off + sc * k) cs.length)) with
        | true => rw [h1, cond_true] at h; cases h; exact M.get_push_lt hc
        | false =>
          rw [h1, cond_false] at h
          cases h2 : (g == some k && Nat.beq a.off 0 && a.spot.isNone && Nat.beq (sl * k) cs.length && Nat.beq sc sl && Nat.beq te e) with
          | true => rw [h2, cond_true] at h; cases h; rw [M.get_push_lt (m := m.set a.block .dead) hc, M.get_set_ne (hs a rfl)]
          | false => rw [h2, cond_false] at h; cases h
    | _ => simp only [hb] at h; cases h
theorem append?_other {s x : Value} (h : append? E m T U s x = some (v', m1)) (hc : c < m.n) (hs : ∀ a n k, s = .slice (some a) n k → c ≠ a.block) : m1.get c = m.get c := by
  unfold append? at h
  split at h
  · rename_i ti ui base sl sc n _ _ _
    split at h
    · cases h
    · rename_i e _ _
      cases h1 : E.ty.get e with
      | none => simp only [h1] at h; cases h
      | some ei =>
        cases h2 : first? m ti.es n x with
        | none => simp only [h1, h2] at h; cases h
        | some news =>
          simp only [h1, h2] at h
          cases h3 : (Nat.beq ti.es 0 || Nat.blt 65536 ei.bytes || !news.all one || Nat.blt 268435456 (sl + n) || !Nat.beq news.length (n * ti.es) || !zeroLen ei.zero ti.es) with
          | true => rw [h3, cond_true] at h; cases h
          | false =>
            rw [h3, cond_false] at h
            cases h4 : Nat.ble (sl + n) sc with
            | false =>
              rw [h4, cond_false] at h
              exact grow?_other h hc fun a ha => hs a sl sc (by rw [ha])
            | true =>
              rw [h4, cond_true] at h
              cases base with
              | none =>
                dsimp only at h
                cases h5 : Nat.beq n 0 with
                | true => rw [h5, cond_true] at h; cases h; rfl
                | false => rw [h5, cond_false] at h; cases h
              | some a =>
                dsimp only at h
                cases h5 : Nat.beq n 0 with
                | true => rw [h5, cond_true] at h; cases h; rfl
                | false =>
                  rw [h5, cond_false] at h
                  cases h6 : storeCells m (a.add (sl * ti.es)) news with
                  | none => rw [h6] at h; cases h
                  | some m2 =>
                    rw [h6] at h
                    cases h
                    refine storeCells_other h6 ?_
                    have : (a.add (sl * ti.es)).block = a.block := by
                      unfold Addr.add; split <;> rfl
                    rw [this]
                    exact hs a sl sc rfl
    · cases h
  · cases h
theorem append_other {s x : Value} (h : builtin? E (m.wl m.n) .append [T, U] [s, x] = some (v', m1)) (hc : c < m.n) (hs : ∀ a n k, s = .slice (some a) n k → c ≠ a.block) : m1.get c = m.get c :=
  (append?_other (m := m.wl m.n) h hc hs).trans rfl
end
end Go.D

/- A registry of the call's own, whose lists grow. -/
namespace Go.D
open Go
section
variable {E : Env} {m : M} {T : TypeId} {α : Type} [Rep α] {n1 : Nat} {l ys : List α} {v y : Value}
/-- append, and what it leaves. -/
theorem Ow0.append' (hT : ApT E T α) (hty : Rep.ty α ∉ Rep.tys α) (h : Ow0 n1 m l v) (hy : Sl m ys y) (hn : n1 ≤ m.n) (hs : l.length + ys.length ≤ 1000000) :
    ∃ v' m1, builtin? E (m.wl m.n) .append [T, T] [v, y] = some (v', m1) ∧ Ow0 n1 m1 (l ++ ys) v' ∧ (∀ c, c < n1 → m1.get c = m.get c) ∧ n1 ≤ m1.low ∧ m.n ≤ m1.n ∧
      (∀ c cs t g, m.get c = .cells cs t g → t ≠ Rep.ty α → m1.get c = .cells cs t g) := by
  obtain ⟨v', m1, e1, e2, e3, e4, e5⟩ := h.append hT hty hy hn hs
  refine ⟨v', m1, e1, e2, e3.get, e4, e5, fun c cs t g hc ht => ?_⟩
  rw [append_other e1 (M.lt_of_get hc) fun a n k hv e => ?_, hc]
  rcases h with (⟨rfl, _⟩ | ⟨b, cs', rfl, _, _, hb, _⟩) | ⟨_, b, rfl, _, hb⟩
  · cases hv
  · cases hv
    subst e
    rw [hb] at hc
    cases hc
    exact ht rfl
  · cases hv
    subst e
    rw [hb] at hc
    cases hc
    exact ht rfl
end
end Go.D
namespace Go.Proofs.YtbpmlholiohkpaaGreatDoor
open Go Go.D
variable {X : CallFn} {m : M}
/-- A registry in a row of the call's own, all its lists the call's own but for the repeals. -/
structure OwR (n0 nb : Nat) (L : Registry) (w1 w2 w3 w4 w5 : Value) (m : M) : Prop where
  box : m.get nb = .cells [w1, w2, w3, w4, w5] 42 none
  cl : Ow0 n0 m L.law.clauses w1
  rp : Sl m L.law.repeals w2
  fa : Ow0 n0 m L.law.facts w3
  de : Ow0 n0 m L.deeds w4
  gr : Ow0 n0 m L.grants w5
section
variable {n0 nb : Nat} {L : Registry} {w1 w2 w3 w4 w5 : Value}
theorem OwR.keepE {m' : M} (h : OwR n0 nb L w1 w2 w3 w4 w5 m) (he : Ext m m') : OwR n0 nb L w1 w2 w3 w4 w5 m' :=
  ⟨he.cells h.box, h.cl.keepE he, h.rp.keepE he, h.fa.keepE he, h.de.keepE he, h.gr.keepE he⟩
theorem OwR.reg (h : OwR n0 nb L w1 w2 w3 w4 w5 m) : RegV m L w1 w2 w3 w4 w5 := ⟨⟨h.cl.sl, h.rp, h.fa.sl⟩, h.de.sl, h.gr.sl⟩

theorem OwR.clause (h : OwR n0 nb L w1 w2 w3 w4 w5 m) {ys : List Clause} {y : Value} (hy : Sl m ys y) (hn : n0 ≤ m.n) (hs : L.law.clauses.length + ys.length ≤ 1000000) (hb : n0 ≤ nb) {P : Value → M → M → Nat → Prop}
    (hP : ∀ (v : Value) (m1 m2 : M), m2.n = m1.n → m.n ≤ m1.n → (∀ c, c < n0 → m2.get c = m.get c) → OwR n0 nb ⟨⟨L.law.clauses ++ ys, L.law.repeals, L.law.facts⟩, L.deeds, L.grants⟩ v w2 w3 w4 w5 m2 → n0 ≤ m1.low → P v m1 m2 nb) :
    on2 (builtin? Tab.env (m.wl m.n) .append [34, 34] [w1, y]) fun v m1 => on2 (store? Tab.env m1 34 (.pointer (some ⟨nb, 0, none⟩)) v) fun m2 b => P v m1 m2 b := by
  obtain ⟨v, m1, e1, e2, e3, e4, e5, e6⟩ := h.cl.append' apt_clause (by simp [Rep.tys, Rep.ty]) hy hn hs
  rw [e1, on2_some]
  have hbox := e6 _ _ _ _ h.box (by simp [Rep.ty])
  have hc : cells v = [v] := e2.sl.cells
  refine on2_store ty_34 hbox (by rw [hc]; rfl) (by rw [hc]; simp) (by rw [hc]; simp [e2.sl.one]) fun m2 hn2 hg2 hk2 => ?_
  rw [hc] at hg2
  have hk : ∀ c cs t g, m1.get c = .cells cs t g → t ≠ 42 → m2.get c = .cells cs t g := fun c cs t g hc ht => by
    rw [hk2 c fun e => ?_, hc]
    subst e
    rw [hbox] at hc
    cases hc
    exact ht rfl
  have h1 : ∀ c cs t g, m.get c = .cells cs t g → t ≠ 42 → t ≠ 64 → m2.get c = .cells cs t g := fun c cs t g hc ht ht' => hk _ _ _ _ (e6 _ _ _ _ hc (by simpa [Rep.ty] using ht')) ht
  refine hP v m1 m2 hn2 e5 (fun c hc => by rw [hk2 c (by omega), e3 c hc]) ⟨hg2, e2.keep fun c cs t g hc ht => hk _ _ _ _ hc (by rintro rfl; simp [Rep.tys, Rep.ty] at ht), h.rp.keep fun c cs t g hc ht => h1 _ _ _ _ hc (by rintro rfl; simp [Rep.tys, Rep.ty] at ht) (by rintro rfl; simp [Rep.tys, Rep.ty] at ht), h.fa.keep fun c cs t g hc ht => h1 _ _ _ _ hc (by rintro rfl; simp [Rep.tys, Rep.ty] at ht) (by rintro rfl; simp [Rep.tys, Rep.ty] at ht), h.de.keep fun c cs t g hc ht => h1 _ _ _ _ hc (by rintro rfl; simp [Rep.tys, Rep.ty] at ht) (by rintro rfl; simp [Rep.tys, Rep.ty] at ht), h.gr.keep fun c cs t g hc ht => h1 _ _ _ _ hc (by rintro rfl; simp [Rep.tys, Rep.ty] at ht) (by rintro rfl; simp [Rep.tys, Rep.ty] at ht)⟩ e4

theorem OwR.fact (h : OwR n0 nb L w1 w2 w3 w4 w5 m) {ys : List Fact} {y : Value} (hy : Sl m ys y) (hn : n0 ≤ m.n) (hs : L.law.facts.length + ys.length ≤ 1000000) (hb : n0 ≤ nb) {P : Value → M → M → Nat → Prop}
    (hP : ∀ (v : Value) (m1 m2 : M), m2.n = m1.n → m.n ≤ m1.n → (∀ c, c < n0 → m2.get c = m.get c) → OwR n0 nb ⟨⟨L.law.clauses, L.law.repeals, L.law.facts ++ ys⟩, L.deeds, L.grants⟩ w1 w2 v w4 w5 m2 → n0 ≤ m1.low → P v m1 m2 nb) :
    on2 (builtin? Tab.env (m.wl m.n) .append [36, 36] [w3, y]) fun v m1 => on2 (store? Tab.env m1 36 (.pointer (some ⟨nb, 2, none⟩)) v) fun m2 b => P v m1 m2 b := by
  obtain ⟨v, m1, e1, e2, e3, e4, e5, e6⟩ := h.fa.append' apt_fact (by simp [Rep.tys, Rep.ty]) hy hn hs
  rw [e1, on2_some]
  have hbox := e6 _ _ _ _ h.box (by simp [Rep.ty])
  have hc : cells v = [v] := e2.sl.cells
  refine on2_store ty_36 hbox (by rw [hc]; rfl) (by rw [hc]; simp) (by rw [hc]; simp [e2.sl.one]) fun m2 hn2 hg2 hk2 => ?_
  rw [hc] at hg2
  have hk : ∀ c cs t g, m1.get c = .cells cs t g → t ≠ 42 → m2.get c = .cells cs t g := fun c cs t g hc ht => by
    rw [hk2 c fun e => ?_, hc]
    subst e
    rw [hbox] at hc
    cases hc
    exact ht rfl
  have h1 : ∀ c cs t g, m.get c = .cells cs t g → t ≠ 42 → t ≠ 66 → m2.get c = .cells cs t g := fun c cs t g hc ht ht' => hk _ _ _ _ (e6 _ _ _ _ hc (by simpa [Rep.ty] using ht')) ht
  refine hP v m1 m2 hn2 e5 (fun c hc => by rw [hk2 c (by omega), e3 c hc]) ⟨hg2, h.cl.keep fun c cs t g hc ht => h1 _ _ _ _ hc (by rintro rfl; simp [Rep.tys, Rep.ty] at ht) (by rintro rfl; simp [Rep.tys, Rep.ty] at ht), h.rp.keep fun c cs t g hc ht => h1 _ _ _ _ hc (by rintro rfl; simp [Rep.tys, Rep.ty] at ht) (by rintro rfl; simp [Rep.tys, Rep.ty] at ht), e2.keep fun c cs t g hc ht => hk _ _ _ _ hc (by rintro rfl; simp [Rep.tys, Rep.ty] at ht), h.de.keep fun c cs t g hc ht => h1 _ _ _ _ hc (by rintro rfl; simp [Rep.tys, Rep.ty] at ht) (by rintro rfl; simp [Rep.tys, Rep.ty] at ht), h.gr.keep fun c cs t g hc ht => h1 _ _ _ _ hc (by rintro rfl; simp [Rep.tys, Rep.ty] at ht) (by rintro rfl; simp [Rep.tys, Rep.ty] at ht)⟩ e4

theorem OwR.deed (h : OwR n0 nb L w1 w2 w3 w4 w5 m) {ys : List Deed} {y : Value} (hy : Sl m ys y) (hn : n0 ≤ m.n) (hs : L.deeds.length + ys.length ≤ 1000000) (hb : n0 ≤ nb) {P : Value → M → M → Nat → Prop}
    (hP : ∀ (v : Value) (m1 m2 : M), m2.n = m1.n → m.n ≤ m1.n → (∀ c, c < n0 → m2.get c = m.get c) → OwR n0 nb ⟨L.law, L.deeds ++ ys, L.grants⟩ w1 w2 w3 v w5 m2 → n0 ≤ m1.low → P v m1 m2 nb) :
    on2 (builtin? Tab.env (m.wl m.n) .append [39, 39] [w4, y]) fun v m1 => on2 (store? Tab.env m1 39 (.pointer (some ⟨nb, 3, none⟩)) v) fun m2 b => P v m1 m2 b := by
  obtain ⟨v, m1, e1, e2, e3, e4, e5, e6⟩ := h.de.append' apt_deed (by simp [Rep.tys, Rep.ty]) hy hn hs
  rw [e1, on2_some]
  have hbox := e6 _ _ _ _ h.box (by simp [Rep.ty])
  have hc : cells v = [v] := e2.sl.cells
  refine on2_store ty_39 hbox (by rw [hc]; rfl) (by rw [hc]; simp) (by rw [hc]; simp [e2.sl.one]) fun m2 hn2 hg2 hk2 => ?_
  rw [hc] at hg2
  have hk : ∀ c cs t g, m1.get c = .cells cs t g → t ≠ 42 → m2.get c = .cells cs t g := fun c cs t g hc ht => by
    rw [hk2 c fun e => ?_, hc]
    subst e
    rw [hbox] at hc
    cases hc
    exact ht rfl
  have h1 : ∀ c cs t g, m.get c = .cells cs t g → t ≠ 42 → t ≠ 69 → m2.get c = .cells cs t g := fun c cs t g hc ht ht' => hk _ _ _ _ (e6 _ _ _ _ hc (by simpa [Rep.ty] using ht')) ht
  refine hP v m1 m2 hn2 e5 (fun c hc => by rw [hk2 c (by omega), e3 c hc]) ⟨hg2, h.cl.keep fun c cs t g hc ht => h1 _ _ _ _ hc (by rintro rfl; simp [Rep.tys, Rep.ty] at ht) (by rintro rfl; simp [Rep.tys, Rep.ty] at ht), h.rp.keep fun c cs t g hc ht => h1 _ _ _ _ hc (by rintro rfl; simp [Rep.tys, Rep.ty] at ht) (by rintro rfl; simp [Rep.tys, Rep.ty] at ht), h.fa.keep fun c cs t g hc ht => h1 _ _ _ _ hc (by rintro rfl; simp [Rep.tys, Rep.ty] at ht) (by rintro rfl; simp [Rep.tys, Rep.ty] at ht), e2.keep fun c cs t g hc ht => hk _ _ _ _ hc (by rintro rfl; simp [Rep.tys, Rep.ty] at ht), h.gr.keep fun c cs t g hc ht => h1 _ _ _ _ hc (by rintro rfl; simp [Rep.tys, Rep.ty] at ht) (by rintro rfl; simp [Rep.tys, Rep.ty] at ht)⟩ e4

theorem OwR.grant (h : OwR n0 nb L w1 w2 w3 w4 w5 m) {ys : List Grant} {y : Value} (hy : Sl m ys y) (hn : n0 ≤ m.n) (hs : L.grants.length + ys.length ≤ 1000000) (hb : n0 ≤ nb) {P : Value → M → M → Nat → Prop}
    (hP : ∀ (v : Value) (m1 m2 : M), m2.n = m1.n → m.n ≤ m1.n → (∀ c, c < n0 → m2.get c = m.get c) → OwR n0 nb ⟨L.law, L.deeds, L.grants ++ ys⟩ w1 w2 w3 w4 v m2 → n0 ≤ m1.low → P v m1 m2 nb) :
    on2 (builtin? Tab.env (m.wl m.n) .append [40, 40] [w5, y]) fun v m1 => on2 (store? Tab.env m1 40 (.pointer (some ⟨nb, 4, none⟩)) v) fun m2 b => P v m1 m2 b := by
  obtain ⟨v, m1, e1, e2, e3, e4, e5, e6⟩ := h.gr.append' apt_grant (by simp [Rep.tys, Rep.ty]) hy hn hs
  rw [e1, on2_some]
  have hbox := e6 _ _ _ _ h.box (by simp [Rep.ty])
  have hc : cells v = [v] := e2.sl.cells
  refine on2_store ty_40 hbox (by rw [hc]; rfl) (by rw [hc]; simp) (by rw [hc]; simp [e2.sl.one]) fun m2 hn2 hg2 hk2 => ?_
  rw [hc] at hg2
  have hk : ∀ c cs t g, m1.get c = .cells cs t g → t ≠ 42 → m2.get c = .cells cs t g := fun c cs t g hc ht => by
    rw [hk2 c fun e => ?_, hc]
    subst e
    rw [hbox] at hc
    cases hc
    exact ht rfl
  have h1 : ∀ c cs t g, m.get c = .cells cs t g → t ≠ 42 → t ≠ 71 → m2.get c = .cells cs t g := fun c cs t g hc ht ht' => hk _ _ _ _ (e6 _ _ _ _ hc (by simpa [Rep.ty] using ht')) ht
  refine hP v m1 m2 hn2 e5 (fun c hc => by rw [hk2 c (by omega), e3 c hc]) ⟨hg2, h.cl.keep fun c cs t g hc ht => h1 _ _ _ _ hc (by rintro rfl; simp [Rep.tys, Rep.ty] at ht) (by rintro rfl; simp [Rep.tys, Rep.ty] at ht), h.rp.keep fun c cs t g hc ht => h1 _ _ _ _ hc (by rintro rfl; simp [Rep.tys, Rep.ty] at ht) (by rintro rfl; simp [Rep.tys, Rep.ty] at ht), h.fa.keep fun c cs t g hc ht => h1 _ _ _ _ hc (by rintro rfl; simp [Rep.tys, Rep.ty] at ht) (by rintro rfl; simp [Rep.tys, Rep.ty] at ht), h.de.keep fun c cs t g hc ht => h1 _ _ _ _ hc (by rintro rfl; simp [Rep.tys, Rep.ty] at ht) (by rintro rfl; simp [Rep.tys, Rep.ty] at ht), e2.keep fun c cs t g hc ht => hk _ _ _ _ hc (by rintro rfl; simp [Rep.tys, Rep.ty] at ht)⟩ e4

end
end Go.Proofs.YtbpmlholiohkpaaGreatDoor
