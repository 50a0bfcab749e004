/- One unit more at a place: the whole step. Contracts: draw.covers. Contracts: draw.covers, the walk. Contracts: the elevation of a valid fabric. unit.Valid, Overlap; putlogref08.Valid, Overlap. append of what is known by its cells: also of a string. fabric.pairs, fabric.Valid; putlogref12.Valid. fabric.Valid, putlogref12.Valid. putlogref12: pick, copied, Block. -/
import Derived.Test.YtjecgmfildhpiaaGreatDoorG11J
import Derived.Test.YtjecgmfildhpiaaGreatDoorG8J
import Derived.Test.YtjecgmfildhpiaaGreatDoorG5J
/- One unit more at a place: the whole step. -/
namespace Go.Proofs.YtjecgmfildhpiaaGreatDoor
open Go Go.D
variable {m : M}

theorem nodup_get {α : Type} : ∀ {l : List α}, l.Nodup ↔ ∀ (i j : Nat) (x : α), l[i]? = some x → l[j]? = some x → i = j
  | [] => by simp
  | a :: l => by
    rw [List.nodup_cons, nodup_get (l := l)]
    constructor
    · rintro ⟨h1, h2⟩ i j x hi hj
      match i, j with
      | 0, 0 => rfl
      | 0, j + 1 => cases hi; exact absurd (List.mem_of_getElem? (by simpa using hj)) h1
      | i + 1, 0 => cases hj; exact absurd (List.mem_of_getElem? (by simpa using hi)) h1
      | i + 1, j + 1 => rw [h2 i j x (by simpa using hi) (by simpa using hj)]
    · intro h
      refine ⟨fun hm => ?_, fun i j x hi hj => ?_⟩
      · obtain ⟨i, hi⟩ := List.mem_iff_getElem?.1 hm
        have := h 0 (i + 1) a rfl (by simpa using hi)
        omega
      · have := h (i + 1) (j + 1) x (by simpa using hi) (by simpa using hj)
        omega
theorem get_modify {α : Type} {l : List α} {j i : Nat} {f : α → α} : (l.modify j f)[i]? = if j = i then l[i]?.map f else l[i]? := by
  rw [List.getElem?_modify]
  by_cases h : j = i
  · simp only [h, if_true]; cases l[i]? <;> rfl
  · simp only [h, if_false]; cases l[i]? <;> rfl
theorem kvs_modify_key {es : List MapEntry} {kv : List KV'} {j : Nat} {k : KV'} {p : Pl} (h : kvs es kv) (hk : kv[j]? = some k) (hp : k.1 = p) : es.modify j (fun e => { e with key := p.v }) = es := by
  refine List.ext_getElem? fun i => ?_
  rw [get_modify]
  by_cases hij : j = i
  · subst hij
    rw [if_pos rfl]
    cases he : es[j]? with
    | none => rfl
    | some e =>
      have := (kvs_at h he hk).1
      simp only [Option.map_some, Option.some.injEq]
      rw [← hp, ← this]
  · rw [if_neg hij]
theorem kvs_modify_val {es : List MapEntry} {kv : List KV'} {j : Nat} {k : KV'} (h : kvs es kv) {p : Pl} {l : List UW} {b : Nat} (hk : kv[j]? = some k) (hp : k.1 = p) :
    kvs (es.modify j (fun e => { e with val := KV'.val (p, l, b) })) (kv.set j (p, l, b)) := by
  unfold kvs
  refine List.ext_getElem? fun i => ?_
  rw [List.getElem?_map, List.getElem?_map, get_modify, List.getElem?_set]
  have hlen := kvs_len h
  by_cases hij : j = i
  · subst hij
    have hj := (List.getElem?_eq_some_iff.1 hk).1
    rw [if_pos rfl, if_pos rfl, if_pos hj]
    obtain ⟨e, he⟩ : ∃ e, es[j]? = some e := ⟨_, List.getElem?_eq_getElem (by omega)⟩
    rw [he]
    have := (kvs_at h he hk).1
    show some (e.key, KV'.val (p, l, b)) = some (p.v, KV'.val (p, l, b))
    rw [this, hp]
  · rw [if_neg hij, if_neg hij]
    have := congrArg (·[i]?) h
    simp only [List.getElem?_map] at this
    rw [← this]
theorem born_modify {es : List MapEntry} {j : Nat} {v : Value} : (es.modify j (fun e => { e with val := v })).map (·.born) = es.map (·.born) := by
  refine List.ext_getElem? fun i => ?_
  rw [List.getElem?_map, List.getElem?_map, get_modify]
  by_cases hij : j = i
  · rw [if_pos hij]; cases es[i]? <;> rfl
  · rw [if_neg hij]
theorem PM.add {n0 n1 r : Nat} {kv : List KV'} (h : PM n1 m r kv) (hn0 : n0 ≤ r) (hn1 : n0 ≤ n1) (hnm : n1 ≤ m.n) (hr : r < n1) {p : Pl} {u : UW} (hw : one u.w = true) (hs : (getL kv p).length < 1000000) {P : M → M → M → Prop}
    (hP : ∀ m2 m3 m4 kv', PM n1 m4 r kv' → (∀ q, getL kv' q = if q = p then getL kv p ++ [u] else getL kv q) → Fr1 n1 r m m4 → m2.n = m.n + 1 → m3.n = m.n + 2 → m4.n = m.n + 2 → n0 ≤ m2.low → n0 ≤ m3.low → n0 ≤ m4.low → P m2 m3 m4) :
    on2 (buildSlice? Tab.env m 29 1 [(0, u.v)]) fun a m1 => on2 (mapEntry? Tab.env (m1.wl m1.n) 103 (.map (some r)) p.v) fun e m2 => onS (extr? e 0) fun old =>
      on2 (builtin? Tab.env (m2.wl m2.n) .append [29, 29] [old, a]) fun nw m3 => onS (extr? e 1) fun st => onS (entryStore? (m3.wl m3.n) (.map (some r)) st nw) fun m4 => P m2 m3 m4 := by
  rw [one_un', on2_some]
  obtain ⟨es, clock, he, hkv, hborn, hnd⟩ := h.ex
  generalize hm1 : m.push (.cells u.c 57 none) = m1
  have hn1' : m1.n = m.n + 1 := by rw [← hm1]; rfl
  have hx1 : Ext m m1 := by rw [← hm1]; exact Ext.refl.push
  have hg1 : m1.get m.n = .cells u.c 57 none := by rw [← hm1]; exact M.get_push_new
  have hrm : r < m.n := M.lt_of_map he
  have he1 : (m1.wl m1.n).get r = .map es clock := by show m1.get r = _; rw [hx1.get r hrm, he]
  rw [mapEntry_eq he1]
  -- what the two cases have in common: the new row, and the rest
  have tail : ∀ (m2 : M) (old : Value) (ol : List UW), m2.n = m1.n → m2.low = r → (∀ c, c ≠ r → m2.get c = m1.get c) → Ow n1 m2 ol old → ol.length < 1000000 →
      ∃ nw m3 b, builtin? Tab.env (m2.wl m2.n) .append [29, 29] [old, .slice (some ⟨m.n, 0, none⟩) 1 1] = some (nw, m3) ∧ nw = KV'.val (p, ol ++ [u], b) ∧ Own n1 m3 (ol ++ [u]) b ∧ m.n + 1 ≤ b ∧ m3.n = m.n + 2 ∧ n1 ≤ m3.low ∧
        (∀ c, c < m2.n → (∀ a n k, old = .slice (some a) n k → c ≠ a.block) → m3.get c = m2.get c) ∧ (∀ c, c < n1 → m3.get c = m2.get c) := by
    intro m2 old ol h2n h2l h2g hol hlen
    have hgm : m2.get m.n = .cells u.c 57 none := by rw [h2g _ (by omega), hg1]
    obtain ⟨nw, m3, e1, ho, hf, hl, hn3⟩ := hol.append_new apt_uw (by simp [Rep.tys]) (sl_one_un hgm hw) (by omega) (by simp; omega) (by simp)
    obtain ⟨b, rfl, hb⟩ := Own.of ho (by simp)
    exact ⟨_, m3, b, e1, rfl, ⟨hb.1, by have := hb.2.1; omega, hb.2.2⟩, by have := hb.2.1; omega, by omega, hl, fun c hc hca => append_other e1 hc hca, hf.get⟩
  have plr : ∀ c cs t g, m.get c = .cells cs t g → c ≠ r := fun c cs t g hc e => by subst e; rw [he] at hc; cases hc
  rcases kvs_find (p := p) (i := 0) hkv with ⟨a, b, c⟩ | ⟨j, k, hj, hkp, hgl, hfind⟩
  · -- a new entry
    rw [c]
    dsimp only
    rw [on2_some, extr_tuple]
    simp only [List.getElem?_cons_zero, List.getElem?_cons_succ, onS_some]
    generalize hm2 : (m1.wl m1.n).set r (.map (es ++ [{ key := p.v, val := .slice none 0 0, born := clock }]) (clock + 1)) = m2
    have h2n : m2.n = m1.n := by rw [← hm2]; rfl
    have h2l : m2.low = r := by rw [← hm2]; show min m1.n r = r; omega
    have h2g : ∀ c, c ≠ r → m2.get c = m1.get c := fun c hc => by rw [← hm2, M.get_set_ne hc]; rfl
    have h2r : m2.get r = .map (es ++ [{ key := p.v, val := .slice none 0 0, born := clock }]) (clock + 1) := by rw [← hm2]; exact M.get_set_same (m := m1.wl m1.n) (by show r < m1.n; omega)
    obtain ⟨nw, m3, b', e1, rfl, hown, hb', h3n, h3l, h3g, h3low⟩ := tail m2 (.slice none 0 0) [] h2n h2l h2g Ow.nil (by simp)
    rw [e1, on2_some, extr_tuple]
    simp only [List.getElem?_cons_zero, List.getElem?_cons_succ, onS_some]
    have h3r : (m3.wl m3.n).get r = .map (es ++ [{ key := p.v, val := .slice none 0 0, born := clock }]) (clock + 1) := by
      show m3.get r = _
      rw [h3low r hr, h2r]
    have hnd' : ((es ++ [{ key := p.v, val := .slice none 0 0, born := clock }] : List MapEntry).map (·.born)).Nodup := by
      rw [List.map_append]
      refine List.nodup_append.2 ⟨hnd, by simp, ?_⟩
      intro x hx y hy hxy
      obtain ⟨e, hee, rfl⟩ := List.mem_map.1 hx
      have := hborn e hee
      simp at hy
      omega
    have hst : stampIx ((clock : Nat) : Int) (es ++ [{ key := p.v, val := .slice none 0 0, born := clock }]) 0 = some es.length := by
      have := stampIx_of (i := 0) (j := es.length) (e := { key := p.v, val := .slice none 0 0, born := clock }) hnd' (by simp)
      rw [this, Nat.zero_add]
    rw [entryStore_eq h3r hst, onS_some]
    generalize hm4 : (m3.wl m3.n).set r _ = m4
    have h4n : m4.n = m3.n := by rw [← hm4]; rfl
    have h4g : ∀ c, c ≠ r → m4.get c = m3.get c := fun c hc => by rw [← hm4, M.get_set_ne hc]; rfl
    have hlow4 : m4.low = r := by rw [← hm4]; show min m3.n r = r; omega
    have h4r : m4.get r = .map (es ++ [{ key := p.v, val := KV'.val (p, [] ++ [u], b'), born := clock }]) (clock + 1) := by
      rw [← hm4, M.get_set_same (m := m3.wl m3.n) (by show r < m3.n; omega)]
      congr 1
      refine List.ext_getElem? fun i => ?_
      rw [get_modify]
      by_cases hi : es.length = i
      · subst hi; simp
      · rw [if_neg hi]
        by_cases hlt : i < es.length
        · rw [List.getElem?_append_left hlt, List.getElem?_append_left hlt]
        · rw [List.getElem?_eq_none (by simp; omega), List.getElem?_eq_none (by simp; omega)]
    have old4 : ∀ c, c < m.n → c ≠ r → m4.get c = m.get c := fun c hc hcr => by rw [h4g c hcr, h3g c (by omega) (fun a n k e => by cases e), h2g c hcr, hx1.get c hc]
    refine hP m2 m3 m4 (kv ++ [(p, [] ++ [u], b')]) ⟨⟨_, _, h4r, ?_, ?_, ?_⟩, ?_, ?_, ?_⟩ ?_ ⟨by omega, ?_, ?_⟩ (by omega) h3n (by omega) (by omega) (by omega) (by omega)
    · unfold kvs at hkv ⊢
      rw [List.map_append, List.map_append, hkv]; rfl
    · intro e hee
      rcases List.mem_append.1 hee with h | h
      · have := hborn e h; omega
      · obtain rfl := List.mem_singleton.1 h
        show clock < clock + 1
        omega
    · rw [List.map_append] at hnd' ⊢; exact hnd'
    · rw [List.map_append]
      exact List.nodup_append.2 ⟨h.keys, by simp, fun x hx y hy hxy => b (by simp at hy; rw [← hy, ← hxy]; exact hx)⟩
    · rw [List.map_append]
      refine List.nodup_append.2 ⟨h.blks, by simp, fun x hx y hy hxy => ?_⟩
      obtain ⟨k, hk, rfl⟩ := List.mem_map.1 hx
      obtain ⟨_, _, cs, hcs, _⟩ := h.own k hk
      have := M.lt_of_get hcs
      simp at hy
      omega
    · intro k hk
      rcases List.mem_append.1 hk with hk | hk
      · have ho := h.own k hk
        obtain ⟨_, _, cs, hcs, _⟩ := id ho
        exact ho.keep (old4 _ (M.lt_of_get hcs) (plr _ _ _ _ hcs))
      · obtain rfl := List.mem_singleton.1 hk
        exact hown.keep (h4g _ (by show b' ≠ r; omega))
    · intro q
      rw [getL_snoc b q, a]
    · intro c cs t g hc _
      rw [old4 c (M.lt_of_get hc) (plr _ _ _ _ hc), hc]
    · intro c hc hcr
      exact old4 c (by omega) hcr
  · -- the entry is there
    have hjl := (List.getElem?_eq_some_iff.1 hj).1
    have hlen := kvs_len hkv
    obtain ⟨e, hej⟩ : ∃ e, es[j]? = some e := ⟨_, List.getElem?_eq_getElem (by omega)⟩
    rw [hfind]
    dsimp only
    rw [on2_some, extr_tuple]
    simp only [List.getElem?_cons_zero, List.getElem?_cons_succ, onS_some, Nat.zero_add, hej, Option.map_some, Option.getD_some]
    rw [kvs_modify_key hkv hj hkp]
    generalize hm2 : (m1.wl m1.n).set r (.map es clock) = m2
    have h2n : m2.n = m1.n := by rw [← hm2]; rfl
    have h2l : m2.low = r := by rw [← hm2]; show min m1.n r = r; omega
    have h2g : ∀ c, c ≠ r → m2.get c = m1.get c := fun c hc => by rw [← hm2, M.get_set_ne hc]; rfl
    have h2r : m2.get r = .map es clock := by rw [← hm2]; exact M.get_set_same (m := m1.wl m1.n) (by show r < m1.n; omega)
    have hok := h.own k (List.mem_of_getElem? hj)
    obtain ⟨_, hb0, cs0, hcs0, _⟩ := id hok
    have hb0m := M.lt_of_get hcs0
    have old2 : ∀ c cs t g, m.get c = .cells cs t g → m2.get c = .cells cs t g := fun c cs t g hc => by rw [h2g c (plr _ _ _ _ hc), hx1.get c (M.lt_of_get hc), hc]
    have hok2 : Own n1 m2 k.2.1 k.2.2 := hok.keep (by rw [hcs0]; exact old2 _ _ _ _ hcs0)
    obtain ⟨nw, m3, b', e1, rfl, hown, hb', h3n, h3l, h3g, h3low⟩ := tail m2 (KV'.val k) k.2.1 h2n h2l h2g hok2.ow (by rw [← hgl]; exact hs)
    rw [e1, on2_some, extr_tuple]
    simp only [List.getElem?_cons_zero, List.getElem?_cons_succ, onS_some]
    have h3r : (m3.wl m3.n).get r = .map es clock := by
      show m3.get r = _
      rw [h3low r hr, h2r]
    have hst : stampIx ((e.born : Nat) : Int) es 0 = some j := by
      rw [stampIx_of (i := 0) hnd hej, Nat.zero_add]
    rw [entryStore_eq h3r hst, onS_some]
    generalize hm4 : (m3.wl m3.n).set r _ = m4
    have h4n : m4.n = m3.n := by rw [← hm4]; rfl
    have h4g : ∀ c, c ≠ r → m4.get c = m3.get c := fun c hc => by rw [← hm4, M.get_set_ne hc]; rfl
    have hlow4 : m4.low = r := by rw [← hm4]; show min m3.n r = r; omega
    have h4r : m4.get r = .map (es.modify j fun e => { e with val := KV'.val (p, k.2.1 ++ [u], b') }) clock := by
      rw [← hm4, M.get_set_same (m := m3.wl m3.n) (by show r < m3.n; omega)]
    have old4 : ∀ c, c < m.n → c ≠ r → c ≠ k.2.2 → m4.get c = m.get c := fun c hc hcr hck => by rw [h4g c hcr, h3g c (by omega) (fun a n q e => by cases e; exact hck), h2g c hcr, hx1.get c hc]
    have hset : kv.set j (p, k.2.1 ++ [u], b') = kv.set j (k.1, k.2.1 ++ [u], b') := by rw [hkp]
    refine hP m2 m3 m4 (kv.set j (p, k.2.1 ++ [u], b')) ⟨⟨_, _, h4r, kvs_modify_val hkv hj hkp, ?_, ?_⟩, ?_, ?_, ?_⟩ ?_ ⟨by omega, ?_, ?_⟩ (by omega) h3n (by omega) (by omega) (by omega) (by omega)
    · intro f hf
      have : f.born ∈ (es.modify j fun e => { e with val := KV'.val (p, k.2.1 ++ [u], b') }).map (·.born) := List.mem_map.2 ⟨f, hf, rfl⟩
      rw [born_modify] at this
      obtain ⟨f', hf', hfe⟩ := List.mem_map.1 this
      rw [← hfe]
      exact hborn f' hf'
    · rw [born_modify]; exact hnd
    · have e : (kv.set j (p, k.2.1 ++ [u], b')).map (·.1) = kv.map (·.1) := by
        rw [List.map_set]
        refine List.ext_getElem? fun i => ?_
        rw [List.getElem?_set]
        by_cases hij : j = i
        · subst hij; rw [if_pos rfl, List.length_map, if_pos hjl, List.getElem?_map, hj, Option.map_some, hkp]
        · rw [if_neg hij]
      rw [e]; exact h.keys
    · rw [List.map_set]
      have hnin : b' ∉ kv.map (·.2.2) := fun hin => by
        obtain ⟨q, hq, hqb⟩ := List.mem_map.1 hin
        obtain ⟨_, _, cs, hcs, _⟩ := h.own q hq
        have := M.lt_of_get hcs
        omega
      have hold := nodup_get.1 h.blks
      refine nodup_get.2 fun i i' x hi hi' => ?_
      rw [List.getElem?_set, List.length_map] at hi hi'
      by_cases h1 : j = i <;> by_cases h2 : j = i'
      · omega
      · rw [if_pos h1, if_pos hjl] at hi
        rw [if_neg h2] at hi'
        cases hi
        exact absurd (List.mem_of_getElem? hi') hnin
      · rw [if_pos h2, if_pos hjl] at hi'
        rw [if_neg h1] at hi
        cases hi'
        exact absurd (List.mem_of_getElem? hi) hnin
      · rw [if_neg h1] at hi
        rw [if_neg h2] at hi'
        exact hold i i' x hi hi'
    · intro q hq
      obtain ⟨i, hi⟩ := List.mem_iff_getElem?.1 hq
      rw [List.getElem?_set] at hi
      by_cases hij : j = i
      · rw [if_pos hij, if_pos hjl] at hi
        cases hi
        exact hown.keep (h4g _ (by show b' ≠ r; omega))
      · rw [if_neg hij] at hi
        have ho := h.own q (List.mem_of_getElem? hi)
        obtain ⟨_, _, cs, hcs, _⟩ := id ho
        have hne : q.2.2 ≠ k.2.2 := fun e => by
          exact hij (nodup_get.1 h.blks j i q.2.2 (by rw [List.getElem?_map, hj, Option.map_some, e]) (by rw [List.getElem?_map, hi, Option.map_some]))
        exact ho.keep (old4 _ (M.lt_of_get hcs) (plr _ _ _ _ hcs) hne)
    · intro q
      rw [hset, getL_set hj h.keys q, hkp, hgl]
    · intro c cs t g hc ht
      rw [old4 c (M.lt_of_get hc) (plr _ _ _ _ hc) (fun e => by
        subst e
        rw [hcs0] at hc
        cases hc
        rcases ht with h | h
        · exact h rfl
        · cases h), hc]
    · intro c hc hcr
      exact old4 c (by omega) hcr (by omega)
end Go.Proofs.YtjecgmfildhpiaaGreatDoor

/- Contracts: draw.covers. -/
namespace Go.Proofs.YtjecgmfildhpiaaGreatDoor
open Go Go.D
variable {X : CallFn} {m : M}

/-- The least and the greatest coordinates of the first corners. -/
def boxLo (l : List Pl) (i : Nat) : Pl := (l.take i).foldl (fun q p => ⟨min q.x p.x, min q.y p.y⟩) (l.headD ⟨0, 0⟩)
def boxHi (l : List Pl) (i : Nat) : Pl := (l.take i).foldl (fun q p => ⟨max q.x p.x, max q.y p.y⟩) (l.headD ⟨0, 0⟩)
theorem boxLo_succ {l : List Pl} {i : Nat} {p : Pl} (h : l[i]? = some p) : boxLo l (i + 1) = ⟨min (boxLo l i).x p.x, min (boxLo l i).y p.y⟩ := by
  unfold boxLo
  rw [List.take_add_one, h, Option.toList_some, List.foldl_append]; rfl
theorem boxHi_succ {l : List Pl} {i : Nat} {p : Pl} (h : l[i]? = some p) : boxHi l (i + 1) = ⟨max (boxHi l i).x p.x, max (boxHi l i).y p.y⟩ := by
  unfold boxHi
  rw [List.take_add_one, h, Option.toList_some, List.foldl_append]; rfl
def Pl.onM (p : Pl) : Prop := 0 ≤ p.x ∧ p.x ≤ 40 ∧ 0 ≤ p.y ∧ p.y ≤ 40
theorem box_on {l : List Pl} (hon : ∀ p ∈ l, p.off = false) (hne : l ≠ []) : ∀ i, i ≤ l.length → (boxLo l i).onM ∧ (boxHi l i).onM ∧ (boxLo l i).x ≤ (boxHi l i).x ∧ (boxLo l i).y ≤ (boxHi l i).y
  | 0, _ => by
    cases l with
    | nil => exact absurd rfl hne
    | cons p l =>
      have := Pl.on (hon p List.mem_cons_self)
      exact ⟨this, this, Int.le_refl _, Int.le_refl _⟩
  | i + 1, hi => by
    obtain ⟨h1, h2, h3, h4⟩ := box_on hon hne i (by omega)
    obtain ⟨p, hp⟩ : ∃ p, l[i]? = some p := ⟨_, List.getElem?_eq_getElem (by omega)⟩
    have := Pl.on (hon p (List.mem_of_getElem? hp))
    rw [boxLo_succ hp, boxHi_succ hp]
    unfold Pl.onM at h1 h2 ⊢
    dsimp only
    omega
/-- Does a unit cover a cell? -/
def inBx (l : List Pl) (q : Pl) : Bool := decide ((boxLo l l.length).x ≤ q.x) && decide (q.x < (boxHi l l.length).x) && decide ((boxLo l l.length).y ≤ q.y) && decide (q.y < (boxHi l l.length).y)
def covB (u : Un) (q : Pl) : Bool := inBx u.shape q && decide (0 ≤ cellZ u.shape q.x q.y)
/-- The units that cover a cell, in their order. -/
def covL (us : List UW) (q : Pl) : List UW := us.filter fun u => covB u.u q
/-- Is the cell among those before (x, y)? -/
def partB (y x : Int) (q : Pl) : Bool := decide (q.y < y) || (decide (q.y = y) && decide (q.x < x))
/-- So far with the cells. -/
def MapIs (kv : List KV') (us : List UW) (u : UW) (y x : Int) : Prop := ∀ q, getL kv q = covL us q ++ (if covB u.u q && partB y x q then [u] else [])
structure Cv (m0 : M) (u : UW) (b8 b16 b26 : Nat) (lo hi : Pl) (kv : List KV') (mm : M) : Prop where
  old : ∀ c, c < m0.n → mm.get c = m0.get c
  n : m0.n + 2 ≤ mm.n
  un : mm.get b8 = .cells u.c 57 none
  lo : mm.get b16 = .cells lo.c 64 none
  hi : mm.get b26 = .cells hi.c 64 none
  pm : PM (m0.n + 2) mm (m0.n + 1) kv
theorem Cv.keep {m0 : M} {u : UW} {b8 b16 b26 : Nat} {lo hi : Pl} {kv : List KV'} {mm mm' : M} (h : Cv m0 u b8 b16 b26 lo hi kv mm) (hx : Ext mm mm') : Cv m0 u b8 b16 b26 lo hi kv mm' :=
  ⟨fun c hc => by rw [hx.get c (by have := h.n; omega), h.old c hc], by have := h.n; have := hx.n; omega, hx.cells h.un, hx.cells h.lo, hx.cells h.hi, h.pm.keepE hx⟩
theorem sl_old {α : Type} [Rep α] {m0 mm : M} {l : List α} {v : Value} (h : Sl m0 l v) (ho : ∀ c, c < m0.n → mm.get c = m0.get c) : Sl mm l v := h.keep fun b c t g hb _ => by rw [ho b (M.lt_of_get hb), hb]
/-- A store into a row that append has not made. -/
theorem PM.store {n1 r b : Nat} {kv : List KV'} {m' : M} {cs : List Value} {t : TypeId} (h : PM n1 m r kv) (hb : m.get b = .cells cs t none) (hk : ∀ c, c ≠ b → m'.get c = m.get c) : PM n1 m' r kv := by
  obtain ⟨es, clock, h1, h2⟩ := h.ex
  refine ⟨⟨es, clock, by rw [hk r (fun e => by subst e; rw [h1] at hb; cases hb), h1], h2⟩, h.keys, h.blks, fun k hk' => ?_⟩
  have ho := h.own k hk'
  obtain ⟨_, _, cs', h3, _⟩ := id ho
  exact ho.keep (hk _ fun e => by rw [e, hb] at h3; cases h3)
theorem partB_row {l : List Pl} {y : Int} {q : Pl} (h : inBx l q = true) : partB y (boxHi l l.length).x q = partB (y + 1) (boxLo l l.length).x q := by
  simp only [inBx, Bool.and_eq_true, decide_eq_true_eq] at h
  have e1 : decide (q.x < (boxHi l l.length).x) = true := by simp; omega
  have e2 : decide (q.x < (boxLo l l.length).x) = false := by simp; omega
  unfold partB
  rw [e1, e2, Bool.and_true, Bool.and_false, Bool.or_false]
  by_cases h1 : q.y < y <;> by_cases h2 : q.y = y <;> by_cases h3 : q.y < y + 1 <;> simp [h1, h2, h3] <;> omega
theorem partB_step {y x : Int} {q : Pl} : partB y (x + 1) q = (partB y x q || decide (q = ⟨x, y⟩)) := by
  obtain ⟨a, b⟩ := q
  unfold partB
  dsimp only
  have e : decide (({ x := a, y := b } : Pl) = ⟨x, y⟩) = (decide (a = x) && decide (b = y)) := by by_cases h1 : a = x <;> by_cases h2 : b = y <;> simp [h1, h2]
  rw [e]
  by_cases h1 : b < y <;> by_cases h2 : b = y <;> by_cases h3 : a < x <;> by_cases h4 : a = x <;> by_cases h5 : a < x + 1 <;> simp [h1, h2, h3, h4, h5] <;> omega
theorem partB_no {y x : Int} : partB y x ⟨x, y⟩ = false := by
  unfold partB
  simp
/-- One cell more, which the unit covers or does not. -/
theorem MapIs.step {kv kv' : List KV'} {us : List UW} {u : UW} {y x : Int} (h : MapIs kv us u y x) (hc : covB u.u ⟨x, y⟩ = true) (hq : ∀ q, getL kv' q = if q = ⟨x, y⟩ then getL kv ⟨x, y⟩ ++ [u] else getL kv q) : MapIs kv' us u y (x + 1) := by
  intro q
  rw [hq, partB_step]
  by_cases e : q = ⟨x, y⟩
  · subst e
    rw [if_pos rfl, h ⟨x, y⟩, partB_no, hc]
    simp
  · rw [if_neg e, h q]
    simp [e]
theorem MapIs.skip {kv : List KV'} {us : List UW} {u : UW} {y x : Int} (h : MapIs kv us u y x) (hc : covB u.u ⟨x, y⟩ = false) : MapIs kv us u y (x + 1) := by
  intro q
  rw [h q, partB_step]
  by_cases e : q = ⟨x, y⟩
  · subst e
    rw [hc]; simp
  · simp [e]
theorem MapIs.row {kv : List KV'} {us : List UW} {u : UW} {y : Int} (h : MapIs kv us u y (boxHi u.u.shape u.u.shape.length).x) : MapIs kv us u (y + 1) (boxLo u.u.shape u.u.shape.length).x := by
  intro q
  rw [h q]
  congr 1
  cases hc : covB u.u q with
  | false => rfl
  | true =>
    have : inBx u.u.shape q = true := by
      unfold covB at hc
      rw [Bool.and_eq_true] at hc
      exact hc.1
    rw [partB_row this]
theorem MapIs.start {kv : List KV'} {us : List UW} {u : UW} (h : ∀ q, getL kv q = covL us q) : MapIs kv us u (boxLo u.u.shape u.u.shape.length).y (boxLo u.u.shape u.u.shape.length).x := by
  intro q
  rw [h q]
  have : (covB u.u q && partB (boxLo u.u.shape u.u.shape.length).y (boxLo u.u.shape u.u.shape.length).x q) = false := by
    cases hc : covB u.u q with
    | false => rfl
    | true =>
      unfold covB at hc
      simp only [inBx, Bool.and_eq_true, decide_eq_true_eq] at hc
      unfold partB
      simp
      omega
  rw [this]; simp
theorem MapIs.done {kv : List KV'} {us : List UW} {u : UW} {y x : Int} (h : MapIs kv us u y x) (hy : (boxHi u.u.shape u.u.shape.length).y ≤ y) : ∀ q, getL kv q = covL (us ++ [u]) q := by
  intro q
  rw [h q]
  unfold covL
  rw [List.filter_append]
  congr 1
  cases hc : covB u.u q with
  | false => simp [hc]
  | true =>
    have hc' := hc
    unfold covB at hc'
    simp only [inBx, Bool.and_eq_true, decide_eq_true_eq] at hc'
    have : partB y x q = true := by
      unfold partB
      simp
      omega
    simp [hc, this]
end Go.Proofs.YtjecgmfildhpiaaGreatDoor

/- Contracts: draw.covers, the walk. -/
namespace Go.Proofs.YtjecgmfildhpiaaGreatDoor
open Go Go.D
variable {X : CallFn} {m : M}

theorem _root_.Go.D.Sl.at_uw {l : List UW} {v : Value} (h : Sl m l v) {i : Nat} {x : UW} (hi : l[i]? = some x) {k : IntKind} : ∃ a, indexAddr? Tab.env 29 v (.int k i) = some a ∧ load? Tab.env m 57 a = some x.v ∧ one x.w = true := by
  obtain ⟨a, cs, h1, h2, rfl, h3⟩ := h.index slt_uw (k := k) hi
  exact ⟨a, h1, h2, h3⟩
theorem load_uw {b : Nat} {x : UW} {e : TypeId} {g : Option Nat} (h : m.get b = .cells x.c e g) : load? Tab.env m 57 (.pointer (some ⟨b, 0, none⟩)) = some x.v := load_un h
theorem covers_ok (hX : NoX X) {us : List UW} {v : Value} (hl : Sl m us v) (hsh : ∀ x ∈ us, Sl m x.u.shape x.w) (hval : ∀ x ∈ us, validB x.u.shape = true) (hlen : us.length ≤ 1000) :
    ∃ m' kv, C X (.func 55) [.agg #[v]] m m.n (.map (some (m.n + 1))) m' ∧ Ext m m' ∧ PM (m.n + 2) m' (m.n + 1) kv ∧ ∀ q, getL kv q = covL us q := by
  have key := Cl.heap (E := Tab.env) (X := X) (f := 55) (args := [.agg #[v]]) (m := m) (R := fun v' m' b => b = m.n ∧ v' = .map (some (m.n + 1)) ∧ Ext m m' ∧ ∃ kv, PM (m.n + 2) m' (m.n + 1) kv ∧ ∀ q, getL kv q = covL us q) (hX.no _ rfl) fn_55 rfl ?_
  · obtain ⟨v', m', b, hc, rfl, rfl, hx, kv, h1, h2⟩ := key
    exact ⟨m', kv, hc, hx, h1, h2⟩
  rw [F55]; dsimp only [plainW]
  refine onM_push fun m1 hn1 hg1 hk1 => ?_
  refine onM_push fun m2 hn2 hg2 hk2 => ?_
  have g0 : m2.get m.n = .cells [v] 31 none := by rw [hk2 _ (by omega), hg1]; rfl
  have old2 : ∀ c, c < m.n → m2.get c = m.get c := fun c hc => by rw [hk2 c (by omega), hk1 c hc]
  rw [hn1] at hg2 hn2 hk2 ⊢
  simp only [ptrTo]
  rw [fieldAddr_31_0, onS_some, load_29, cellAt_of g0]
  simp only [Nat.zero_add, List.getElem?_cons_zero, onS_some]
  rw [(sl_old hl old2).len slt_uw, on2_some]
  refine Lp.intro (γ := Nat) (fun i => us.length - i) (fun i vs m8 lo => vs = [.int .i64 i] ∧ i ≤ us.length ∧ (∀ c, c < m.n → m8.get c = m.get c) ∧ m.n + 2 ≤ m8.n ∧ m.n ≤ lo ∧ ∃ kv, PM (m.n + 2) m8 (m.n + 1) kv ∧ ∀ q, getL kv q = covL (us.take i) q) 0
    ⟨rfl, Nat.zero_le _, old2, by omega, Nat.le_refl _, [], ⟨⟨[], 0, hg2, rfl, (fun e he => by cases he), List.nodup_nil⟩, List.nodup_nil, List.nodup_nil, (fun k hk => by cases hk)⟩, fun q => rfl⟩ ?_
  rintro i vs m8 lo8 ⟨rfl, hi, old8, hn8, hlo8, kv8, hpm8, hget8⟩
  simp only [un_cons, bin_lss, onS_some, ifV_bool]
  refine ifB_intro (fun hlt => ?_) (fun hge => ?_)
  · have hlt : i < us.length := by simpa using hlt
    obtain ⟨x, hx⟩ : ∃ x, us[i]? = some x := ⟨_, List.getElem?_eq_getElem hlt⟩
    have hxm := List.mem_of_getElem? hx
    have hshx := hsh x hxm
    have hv := hval x hxm
    have hsl := valid_len hv
    have hon := valid_on hv
    have hne : x.u.shape ≠ [] := by intro e; rw [e] at hsl; simp at hsl
    obtain ⟨p0, hp0⟩ : ∃ p, x.u.shape[0]? = some p := ⟨_, List.getElem?_eq_getElem (by omega)⟩
    obtain ⟨a, e1, e2, hone⟩ := (sl_old hl old8).at_uw (k := .i64) hx
    rw [e1, onS_some, e2, onS_some]
    refine onM_push fun m15 hn15 hg15 hk15 => ?_
    refine on2_storeV ty_57 hg15 rfl rfl (Un.c_one hone) fun m16 hn16 hg16 hk16 => ?_
    have hx816 : Ext m8 m16 := ⟨by omega, fun b hb => by rw [hk16 b (by omega), hk15 b hb]⟩
    have old16 : ∀ c, c < m.n → m16.get c = m.get c := fun c hc => by rw [hx816.get c (by omega), old8 c hc]
    obtain ⟨b0, o0, bc0, gg0, cs0, ea0, hb0, _⟩ := hshx.indexA slt_pl (k := .i64) hp0
    have hb0m := M.lt_of_get hb0
    obtain ⟨a0, ea1, la0⟩ := (sl_old hshx old16).at_pl (k := .i64) hp0
    obtain rfl : a0 = .pointer (some ⟨b0, o0, none⟩) := by
      have := ea1.symm.trans ea0
      exact Option.some.inj this
    have ea1 : indexAddr? Tab.env 45 x.w (.int .i64 0) = some (.pointer (some ⟨b0, o0, none⟩)) := ea1
    have ldw : ∀ mm : M, mm.get m8.n = .cells x.c 57 none → load? Tab.env mm 45 (.pointer (some ⟨m8.n, 0 + 3, none⟩)) = some x.w := fun mm h => by
      rw [load_45, cellAt_of h]; rfl
    rw [fieldAddr_57_3, onS_some, ldw m16 hg16, onS_some, ea1, onS_some, la0, onS_some, onS_some, ldw m16 hg16, onS_some, ea1, onS_some, la0, onS_some]
    refine onM_push fun m26 hn26 hg26 hk26 => ?_
    refine onM_push fun m27 hn27 hg27 hk27 => ?_
    have h27 := (hk27 m16.n (by omega)).trans hg26
    refine on2_storeV ty_64 h27 rfl rfl rfl fun m28 hn28 hg28 hk28 => ?_
    refine ⟨.inr ⟨by show m8.n ≠ m16.n; omega, by show b0 ≠ m16.n; omega, trivial⟩, ?_⟩
    have h28 := (hk28 m26.n (by omega)).trans hg27
    refine on2_storeV ty_64 h28 rfl rfl rfl fun m30 hn30 hg30 hk30 => ?_
    have hx1630 : Ext m16 m30 := ⟨by omega, fun b hb => by rw [hk30 b (by omega), hk28 b (by omega), hk27 b (by omega), hk26 b hb]⟩
    have hp0' : boxLo x.u.shape 0 = p0 ∧ boxHi x.u.shape 0 = p0 := by
      have : x.u.shape.headD ⟨0, 0⟩ = p0 := by
        rw [List.headD_eq_head?_getD, List.head?_eq_getElem?, hp0]; rfl
      exact ⟨this, this⟩
    have cv30 : Cv m x m8.n m16.n m26.n (boxLo x.u.shape 0) (boxHi x.u.shape 0) kv8 m30 := by
      rw [hp0'.1, hp0'.2]
      exact ⟨fun c hc => by rw [hx1630.get c (by omega), old16 c hc], by omega, hx1630.cells hg16, by rw [hk30 _ (by omega), hg28]; rfl, by rw [hg30]; rfl, (hpm8.keepE hx816).keepE hx1630⟩
    rw [onS_some, ldw m30 cv30.un, onS_some, (sl_old hshx cv30.old).len slt_pl, on2_some]
    refine Lp.intro (γ := Nat) (fun k => x.u.shape.length - k) (fun k vs m37 lo => vs = [.int .i64 k] ∧ k ≤ x.u.shape.length ∧ Cv m x m8.n m16.n m26.n (boxLo x.u.shape k) (boxHi x.u.shape k) kv8 m37 ∧ m30.n ≤ m37.n ∧ m.n ≤ lo) 0 ⟨rfl, Nat.zero_le _, cv30, Nat.le_refl _, by omega⟩ ?_
    rintro k vs m37 lo37 ⟨rfl, hk, cv37, hn37, hlo37⟩
    simp only [un_cons, bin_lss, onS_some, ifV_bool]
    refine ifB_intro (fun hlt2 => ?_) (fun hge2 => ?_)
    · have hlt2 : k < x.u.shape.length := by simpa using hlt2
      obtain ⟨p, hp⟩ : ∃ p, x.u.shape[k]? = some p := ⟨_, List.getElem?_eq_getElem hlt2⟩
      obtain ⟨q, e1, e2⟩ := (sl_old hshx cv37.old).at_pl (k := .i64) hp
      rw [e1, onS_some, e2, onS_some]
      refine onM_push fun m44 hn44 hg44 hk44 => ?_
      refine on2_storeV ty_64 hg44 rfl rfl rfl fun m45 hn45 hg45 hk45 => ?_
      have hx45 : Ext m37 m45 := ⟨by omega, fun b hb => by rw [hk45 b (by omega), hk44 b hb]⟩
      have cv45 := cv37.keep hx45
      have glo := cv45.lo
      have ghi := cv45.hi
      have gp : m45.get m37.n = .cells p.c 64 none := hg45
      simp only [Pl.c] at glo ghi gp
      simp only [fieldAddr_64_0, fieldAddr_64_1, onS_some, load_3, cellAt_of glo, cellAt_of ghi, cellAt_of gp, Nat.zero_add, List.getElem?_cons_zero, List.getElem?_cons_succ, min_two, max_two, on2_some]
      rw [build_64_0_1 rfl rfl, onS_some, build_64_0_1 rfl rfl, onS_some]
      refine on2_storeV ty_64 glo rfl rfl rfl fun m69 hn69 hg69 hk69 => ?_
      refine ⟨.inr ⟨by show m26.n ≠ m16.n; omega, by show m37.n ≠ m16.n; omega, by show m26.n ≠ m16.n; omega, by show m37.n ≠ m16.n; omega, trivial⟩, ?_⟩
      have ghi69 := (hk69 m26.n (by omega)).trans ghi
      refine on2_storeV ty_64 ghi69 rfl rfl rfl fun m71 hn71 hg71 hk71 => ?_
      simp only [bin_add, onS_some]
      rw [wrap64 (by omega) (by omega)]
      refine ⟨k + 1, by omega, by simp, by omega, ⟨?_, ?_, ?_, ?_, ?_, ?_⟩, by omega, by omega⟩
      · intro c hc
        rw [hk71 c (by omega), hk69 c (by omega), cv45.old c hc]
      · have := cv45.n; omega
      · rw [hk71 _ (by omega), hk69 _ (by omega), cv45.un]
      · rw [hk71 _ (by omega), hg69, boxLo_succ hp]; rfl
      · rw [hg71, boxHi_succ hp]; rfl
      · exact (cv45.pm.store cv45.lo hk69).store ghi69 hk71
    · have hk' : k = x.u.shape.length := by
        have : ¬ (k : Int) < (x.u.shape.length : Int) := by simpa using hge2
        omega
      subst hk'
      obtain ⟨hbl, hbh, hbx, hby⟩ := box_on hon hne _ (Nat.le_refl _)
      generalize hLO : boxLo x.u.shape x.u.shape.length = LO at *
      generalize hHI : boxHi x.u.shape x.u.shape.length = HI at *
      unfold Pl.onM at hbl hbh
      have glo := cv37.lo
      simp only [Pl.c] at glo
      simp only [fieldAddr_64_0, fieldAddr_64_1, onS_some, load_3, cellAt_of glo, Nat.zero_add, List.getElem?_cons_zero, List.getElem?_cons_succ]
      refine Lp.intro (γ := Int) (fun y => (HI.y - y).toNat) (fun y vs m78 lo => vs = [.int .i64 y] ∧ LO.y ≤ y ∧ y ≤ HI.y ∧ m37.n ≤ m78.n ∧ m.n ≤ lo ∧ ∃ kv, Cv m x m8.n m16.n m26.n LO HI kv m78 ∧ MapIs kv (us.take i) x y LO.x) LO.y
        ⟨rfl, Int.le_refl _, hby, Nat.le_refl _, hlo37, kv8, cv37, by have := MapIs.start (u := x) hget8; rw [hLO] at this; exact this⟩ ?_
      rintro y vs m78 lo78 ⟨rfl, hy1, hy2, hn78, hlo78, kv78, cv78, hmap78⟩
      have ghi := cv78.hi
      have glo := cv78.lo
      simp only [Pl.c] at glo ghi
      simp only [un_cons, cellAt_of ghi, cellAt_of glo, List.getElem?_cons_zero, List.getElem?_cons_succ, onS_some, bin_geq, ifV_bool]
      refine ifB_intro (fun hend => ?_) (fun hgo => ?_)
      · have hend : HI.y ≤ y := by simpa using hend
        simp only [bin_add, onS_some]
        rw [wrap64 (by omega) (by omega)]
        refine ⟨i + 1, by omega, by simp, by omega, cv78.old, cv78.n, hlo78, kv78, cv78.pm, ?_⟩
        rw [List.take_add_one, hx]
        exact hmap78.done (by rw [hHI]; exact hend)
      · have hgo : y < HI.y := by
          have : ¬ HI.y ≤ y := by simpa using hgo
          omega
        refine Lp.intro (γ := Int) (fun z => (HI.x - z).toNat) (fun z vs m90 lo => vs = [.int .i64 z] ∧ LO.x ≤ z ∧ z ≤ HI.x ∧ m37.n ≤ m90.n ∧ m.n ≤ lo ∧ ∃ kv, Cv m x m8.n m16.n m26.n LO HI kv m90 ∧ MapIs kv (us.take i) x y z) LO.x
          ⟨rfl, Int.le_refl _, hbx, hn78, hlo78, kv78, cv78, hmap78⟩ ?_
        rintro z vs m90 lo90 ⟨rfl, hz1, hz2, hn90, hlo90, kv90, cv90, hmap90⟩
        have ghi := cv90.hi
        simp only [Pl.c] at ghi
        simp only [un_cons, cellAt_of ghi, List.getElem?_cons_zero, List.getElem?_cons_succ, onS_some, bin_lss, ifV_bool]
        refine ifB_intro (fun hgo2 => ?_) (fun hend2 => ?_)
        · have hgo2 : z < HI.x := by simpa using hgo2
          rw [build_64_0_1 rfl rfl, onS_some]
          refine onM_push fun m98 hn98 hg98 hk98 => ?_
          refine on2_storeV ty_64 hg98 rfl rfl rfl fun m99 hn99 hg99 hk99 => ?_
          have hx99 : Ext m90 m99 := ⟨by omega, fun b hb => by rw [hk99 b (by omega), hk98 b hb]⟩
          have cv99 := cv90.keep hx99
          have gq : m99.get m90.n = .cells (Pl.c ⟨z, y⟩) 64 none := hg99
          have hn99' := cv99.n
          rw [show load? Tab.env m99 45 (.pointer (some ⟨m8.n, 3, none⟩)) = some x.w from ldw m99 cv99.un, onS_some]
          refine onC_of (cell_ok hX (sl_old hshx cv99.old) (by omega) z y) ?_
          simp only [bin_geq, onS_some, ifV_bool]
          have hin : inBx x.u.shape ⟨z, y⟩ = true := by
            unfold inBx
            rw [hLO, hHI]
            simp only [Bool.and_eq_true, decide_eq_true_eq]
            exact ⟨⟨⟨hz1, hgo2⟩, hy1⟩, hgo⟩
          have hcov : covB x.u ⟨z, y⟩ = decide (0 ≤ cellZ x.u.shape z y) := by unfold covB; rw [hin, Bool.true_and]
          refine ifB_intro (fun hc => ?_) (fun hc => ?_)
          · rw [load_pl gq, onS_some, load_uw cv99.un, onS_some]
            have hsz : (getL kv90 ⟨z, y⟩).length < 1000000 := by
              rw [hmap90 ⟨z, y⟩, List.length_append]
              have h1 : (covL (us.take i) ⟨z, y⟩).length ≤ (us.take i).length := List.length_filter_le _ _
              have h2 : (us.take i).length ≤ us.length := by rw [List.length_take]; omega
              have h3 : (if covB x.u ⟨z, y⟩ && partB y z ⟨z, y⟩ then [x] else []).length ≤ 1 := by split <;> simp
              omega
            refine PM.add (n0 := m.n) cv99.pm (by omega) (by omega) (by omega) (by omega) hone hsz fun m112 m115 m117 kv' hpm' hget' hfr hm2 hm3 hm4 l2 l3 l4 => ?_
            simp only [bin_add, onS_some]
            rw [wrap64 (by omega) (by omega)]
            refine ⟨z + 1, by omega, rfl, by omega, by omega, by omega, by omega, kv', ⟨fun c hc => by rw [hfr.low c (by omega) (by omega), cv99.old c hc], by omega, hfr.cell _ _ _ _ cv99.un (.inr rfl), hfr.cell _ _ _ _ cv99.lo (.inr rfl), hfr.cell _ _ _ _ cv99.hi (.inr rfl), hpm'⟩, ?_⟩
            exact hmap90.step (by rw [hcov]; exact hc) hget'
          · simp only [bin_add, onS_some]
            rw [wrap64 (by omega) (by omega)]
            exact ⟨z + 1, by omega, rfl, by omega, by omega, by omega, by omega, kv90, cv99, hmap90.skip (by rw [hcov]; exact hc)⟩
        · have hz : z = HI.x := by
            have : ¬ z < HI.x := by simpa using hend2
            omega
          subst hz
          simp only [bin_add, onS_some]
          rw [wrap64 (by omega) (by omega)]
          refine ⟨y + 1, by omega, rfl, by omega, by omega, by omega, hlo90, kv90, cv90, ?_⟩
          have := MapIs.row (kv := kv90) (us := us.take i) (u := x) (y := y) (by rw [hHI]; exact hmap90)
          rw [hLO] at this
          exact this
  · have hi' : i = us.length := by
      have : ¬ (i : Int) < (us.length : Int) := by simpa using hge
      omega
    subst hi'
    rw [List.take_length] at hget8
    exact ⟨.inl rfl, by omega, rfl, ⟨by omega, old8⟩, kv8, hpm8, hget8⟩
end Go.Proofs.YtjecgmfildhpiaaGreatDoor

/- Contracts: the elevation of a valid fabric. -/
namespace Go.Proofs.YtjecgmfildhpiaaGreatDoor
open Go Go.D
variable {X : CallFn} {m : M}

/-- The units that cover a cell. -/
def covU (us : List Un) (q : Pl) : List Un := us.filter fun u => covB u q
theorem covL_map (us : List UW) (q : Pl) : (covL us q).map (·.u) = covU (us.map (·.u)) q := by
  unfold covL covU
  rw [List.filter_map]
  rfl
/-- What a cell of an elevation shows. -/
def elevZ (us : List Un) (behind : Bool) (x y : Int) : Int :=
  if behind then idZ (firstU (fun a b => decide (a.back < b.back)) (covU us ⟨39 - x, y⟩) none)
  else idZ (firstU (fun a b => decide (b.front < a.front)) (covU us ⟨x, y⟩) none)
theorem elevCell_ok (hX : NoX X) {us : List UW} {b1 b2 r n1 : Nat} {kv : List KV'} {behind : Bool} (h1 : m.get b1 = .cells [.bool behind] 4 none) (h2 : m.get b2 = .cells [.map (some r)] 103 none)
    (hpm : PM n1 m r kv) (hget : ∀ q, getL kv q = covL us q) (hsh : ∀ x ∈ us, Sl m x.u.shape x.w) (hlen : us.length ≤ 1000) {x y : Int} (hx : 0 ≤ x) (hx' : x < 40) :
    C X (.func 96) [.int .i64 x, .int .i64 y, ptrTo b1, ptrTo b2] m m.n (.int .i64 (elevZ (us.map (·.u)) behind x y)) m := by
  refine Cl.flat (hX.no _ rfl) fn_96 rfl rfl ?_
  rw [F96]; dsimp only [plainW]
  simp only [ptrTo]
  rw [load_4, cellAt_of h1]
  simp only [List.getElem?_cons_zero, onS_some, ifV_bool]
  have go : ∀ (bf : Un → Un → Bool) (fn : Nat) (q : Pl) (P : Value → M → Nat → Prop), (∀ a b wa wb (m1 : M), C X (.func fn) [a.v wa, b.v wb] m1 m1.n (.bool (bf a b)) m1) →
      (∀ m2, m.n ≤ m2.n → ∀ b, m.n ≤ b → P (.int .i64 (idZ (firstU bf (covU (us.map (·.u)) q) none))) m2 b) →
      onS (lookup? Tab.env m 103 (.map (some r)) q.v false) fun v5 => onC Tab.env X (.func 98) [v5, .func (.func fn) #[] #[]] m fun v6 m7 b8 => onS (extr? v6 0) fun v9 => onS (extr? v6 1) fun v10 => onC Tab.env X (.func 97) [v9, v10] m7 fun v11 m12 b13 => P v11 m12 (min (min m.n b8) b13) := by
    intro bf fn q P hs hP
    obtain ⟨v5, e5, hs5⟩ := hpm.lookup q
    rw [e5, onS_some]
    rw [hget q] at hs5
    have hsu := hs5.of_uw fun x hx => hsh x (List.mem_filter.1 hx |>.1)
    rw [covL_map] at hsu
    have hl : (covU (us.map (·.u)) q).length < 4611686018427387904 := by
      have : (covU (us.map (·.u)) q).length ≤ (us.map (·.u)).length := List.length_filter_le _ _
      rw [List.length_map] at this
      omega
    obtain ⟨rv, m7, hc, hx7, ho⟩ := first_ok hX (g := .func fn) (fi := #[]) (ca := #[]) bf hl hsu (fun a b wa wb m1 _ => hs a b wa wb m1)
    refine onC_of hc ?_
    rw [extr_tuple, extr_tuple]
    simp only [List.getElem?_cons_zero, List.getElem?_cons_succ, onS_some]
    refine onC_of (id_ok hX ho) ?_
    have := hx7.n
    exact hP m7 (by omega) _ (by omega)
  have ldm : load? Tab.env m 103 (.pointer (some ⟨b2, 0, none⟩)) = some (.map (some r)) := by rw [load_103, cellAt_of h2]; rfl
  refine ifB_intro (fun hb => ?_) (fun hb => ?_)
  · rw [ldm, onS_some, bin_sub, onS_some, wrap64 (by omega) (by omega), build_64_0_1 rfl rfl, onS_some]
    exact go (fun a b => decide (a.back < b.back)) 99 ⟨39 - x, y⟩ (fun v m2 b => mkres [v] = .int .i64 (elevZ (us.map (·.u)) behind x y) ∧ m.n ≤ b) (fun a b wa wb m1 => backs_ok hX a b wa wb) (fun m2 hn b hbb => ⟨by rw [mkres, elevZ, hb]; rfl, hbb⟩)
  · rw [ldm, onS_some, build_64_0_1 rfl rfl, onS_some]
    exact go (fun a b => decide (b.front < a.front)) 100 ⟨x, y⟩ (fun v m2 b => mkres [v] = .int .i64 (elevZ (us.map (·.u)) behind x y) ∧ m.n ≤ b) (fun a b wa wb m1 => fronts_ok hX a b wa wb) (fun m2 hn b hbb => ⟨by rw [mkres, elevZ, hb]; rfl, hbb⟩)
/-- The cells of an elevation. -/
def elevL (us : List Un) (behind : Bool) : List Int := gridZ (fun i j => elevZ us behind i j) 40 40
theorem elevation_ok (hX : NoX X) {us : List Un} {v : Value} {behind : Bool} (hl : Sl m us v) (hval : ∀ u ∈ us, validB u.shape = true) (hlen : us.length ≤ 1000) :
    ∃ v' m', C X (.func 48) [.agg #[v], .bool behind] m m.n (drV 40 40 v') m' ∧ Ext m m' ∧ Ow m.n m' (elevL us behind) v' := by
  have key := Cl.heap (E := Tab.env) (X := X) (f := 48) (args := [.agg #[v], .bool behind]) (m := m) (R := fun w m' b => b = m.n ∧ Ext m m' ∧ ∃ v', w = drV 40 40 v' ∧ Ow m.n m' (elevL us behind) v') (hX.no _ rfl) fn_48 rfl ?_
  · obtain ⟨w, m', b, hc, rfl, hx, v', rfl, hr⟩ := key
    exact ⟨v', m', hc, hx, hr⟩
  rw [F48]; dsimp only [plainW]
  refine onM_push fun m1 hn1 hg1 hk1 => ?_
  refine onM_push fun m2 hn2 hg2 hk2 => ?_
  refine onM_push fun m3 hn3 hg3 hk3 => ?_
  have hx3 : Ext m m3 := ⟨by omega, fun b hb => by rw [hk3 b (by omega), hk2 b (by omega), hk1 b hb]⟩
  have g0 : m3.get m.n = .cells [v] 31 none := by rw [hk3 _ (by omega), hk2 _ (by omega), hg1]; rfl
  have gb : m3.get m1.n = .cells [.bool behind] 4 none := by rw [hk3 _ (by omega), hg2]; rfl
  obtain ⟨usw, rfl, hsw, hshw⟩ := (hl.keepE hx3).to_uw
  simp only [ptrTo]
  rw [load_31, loadCells_of g0 (by simp)]
  simp only [List.drop_zero, List.take_succ_cons, List.take_zero, Option.map_some, onS_some]
  obtain ⟨m6, kv, hc, hx6, hpm, hget⟩ := covers_ok hX hsw hshw (fun x hx => hval x.u (List.mem_map.2 ⟨x, hx, rfl⟩)) (by rw [List.length_map] at hlen; exact hlen)
  refine onC_of hc ?_
  refine onM_push fun m8 hn8 hg8 hk8 => ?_
  refine on2_storeV ty_103 hg8 rfl rfl rfl fun m9 hn9 hg9 hk9 => ?_
  have hx69 : Ext m6 m9 := ⟨by omega, fun b hb => by rw [hk9 b (by omega), hk8 b hb]⟩
  have hx39 := hx6.trans hx69
  have h3n := hx39.n
  obtain ⟨v', m12, hc12, hx12, ho12⟩ := made_ok (m := m9) hX (w := 40) (h := 40) (by omega) (by omega) (g := .func 96) (fi := #[]) (ca := #[.pointer (some ⟨m1.n, 0, none⟩), .pointer (some ⟨m6.n, 0, none⟩)]) (fun i j => elevZ (usw.map (·.u)) behind i j)
    (fun i j mm hi hj hx => by
      have hx3m := hx39.trans hx
      exact elevCell_ok (m := mm) hX (b1 := m1.n) (b2 := m6.n) (hx3m.cells gb) (hx.cells (by rw [hg9]; rfl)) ((hpm.keepE hx69).keepE hx) hget (fun x hx' => (hshw x hx').keepE hx3m) (by rw [List.length_map] at hlen; exact hlen) (by omega) (by omega)) (by omega)
  refine onC_of hc12 ?_
  have hx312 := hx39.trans hx12
  have gd := hx312.cells hg3
  have hone : one v' = true := ho12.sl.one
  have h12n := hx312.n
  refine on2_storeV ty_27 gd rfl rfl (by show (true && (true && (one v' && true))) = true; rw [hone]; rfl) fun m14 hn14 hg14 hk14 => ?_
  have e2 : load? Tab.env m14 27 (.pointer (some ⟨m2.n, 0, none⟩)) = some (drV 40 40 v') := by rw [load_27, loadCells_of hg14 (by simp [cells_agg])]; rfl
  rw [e2, onS_some]
  have ho14 : Ow m9.n m14 (elevL (usw.map (·.u)) behind) v' := ho12.keep fun b c t g hb ht => by
    by_cases hbm : b = m2.n
    · subst hbm
      rw [gd] at hb
      cases hb
      simp [Rep.ty, Rep.tys] at ht
    · rw [hk14 b hbm, hb]
  have hfl : flat2 (mkres [drV 40 40 v']) = false := by
    have hne : elevL (usw.map (·.u)) behind ≠ [] := fun e => by
      have := congrArg List.length e
      unfold elevL at this
      rw [gridZ_len] at this
      simp at this
    rcases ho14 with ⟨_, h0⟩ | ⟨b, cs, rfl, _⟩
    · exact absurd h0 hne
    · rfl
  exact ⟨.inl hfl, by have := hx6.n; omega, ⟨by omega, fun b hb => by rw [hk14 b (by omega), (hx3.trans hx312).get b hb]⟩, v', rfl, ho14.mono (by omega)⟩
end Go.Proofs.YtjecgmfildhpiaaGreatDoor

/- unit.Valid, Overlap; putlogref08.Valid, Overlap. -/
namespace Go.Proofs.YtjecgmfildhpiaaGreatDoor
open Go Go.D
variable {X : CallFn} {m : M}
/-- A valid unit. -/
def unB (u : Un) : Bool := inB u.id 0 99 && inB u.kind 1 8 && inB u.mat 0 7 && decide (0 ≤ u.back) && decide (u.back < u.front) && decide (u.front ≤ 8) && validB u.shape
def comB (a b : Un) : Bool := unB a && unB b && decide (max a.back b.back < min a.front b.front)
def overU (a b : Un) : Bool := comB a b && overB a.shape b.shape
theorem isIn_ok (hX : NoX X) (n lo hi : Int) : C X (.func 131) [.int .i64 n, .int .i64 lo, .int .i64 hi] m m.n (.bool (inB n lo hi)) m := by
  refine Cl.flat (hX.no _ rfl) fn_131 rfl rfl ?_
  rw [F131]; dsimp only [plainW]
  refine jn_of (fun vs m2 lo' => vs = [.bool (inB n lo hi)] ∧ m.n ≤ lo') (fun R hR => ?_) ?_
  · simp only [bin_leq, onS_some, ifV_bool]
    refine ifB_intro (fun h => hR _ _ _ ⟨by simp [inB, h], Nat.le_refl _⟩) (fun h => hR _ _ _ ⟨by simp [inB, h], Nat.le_refl _⟩)
  · rintro _ m2 lo' ⟨rfl, hl⟩
    rw [un_cons]
    exact ⟨rfl, hl⟩
/-- The fields of a unit that lies in a block. -/
theorem unf {b : Nat} {u : Un} {w : Value} {g : Option Nat} (h : m.get b = .cells (u.c w) 57 g) :
    load? Tab.env m 3 (.pointer (some ⟨b, 0 + 0, none⟩)) = some (.int .i64 u.id) ∧ load? Tab.env m 3 (.pointer (some ⟨b, 0 + 1, none⟩)) = some (.int .i64 u.kind) ∧ load? Tab.env m 3 (.pointer (some ⟨b, 0 + 2, none⟩)) = some (.int .i64 u.mat) ∧
    load? Tab.env m 45 (.pointer (some ⟨b, 0 + 3, none⟩)) = some w ∧ load? Tab.env m 3 (.pointer (some ⟨b, 0 + 4, none⟩)) = some (.int .i64 u.back) ∧ load? Tab.env m 3 (.pointer (some ⟨b, 0 + 5, none⟩)) = some (.int .i64 u.front) := by
  refine ⟨?_, ?_, ?_, ?_, ?_, ?_⟩ <;> first | (rw [load_3, cellAt_of h]; rfl) | (rw [load_45, cellAt_of h]; rfl)
theorem uvalid_ok (hX : NoX X) {u : Un} {w : Value} (hw : Sl m u.shape w) (hb : u.shape.length < 4611686018427387904) : C X (.func 93) [u.v w] m m.n (.bool (unB u)) m := by
  refine Cl.flat (hX.no _ rfl) fn_93 rfl rfl ?_
  rw [F93]; dsimp only [plainW]
  refine onM_push fun m1 hn1 hg1 hk1 => ?_
  simp only [cells_agg] at hg1
  have hx1 : Ext m m1 := ⟨by omega, hk1⟩
  have hg1 : m1.get m.n = .cells (u.c w) 57 none := hg1
  obtain ⟨l0, l1, l2, l3, l4, l5⟩ := unf hg1
  unfold ptrTo
  refine jn_of (fun vs mm lo => vs = [.bool (inB u.id 0 99 && inB u.kind 1 8 && inB u.mat 0 7)] ∧ m1 = mm ∧ m.n ≤ lo) (fun R hR => ?_) ?_
  · rw [fieldAddr_57_0, onS_some, l0, onS_some]
    refine onC_of (isIn_ok hX _ _ _) ?_
    rw [ifV_bool]
    refine ifB_intro (fun h1 => ?_) (fun h1 => hR _ _ _ ⟨by rw [h1]; rfl, rfl, by omega⟩)
    rw [fieldAddr_57_1, onS_some, l1, onS_some]
    refine onC_of (isIn_ok hX _ _ _) ?_
    rw [ifV_bool]
    refine ifB_intro (fun h2 => ?_) (fun h2 => hR _ _ _ ⟨by rw [h1, h2]; rfl, rfl, by omega⟩)
    rw [fieldAddr_57_2, onS_some, l2, onS_some]
    refine onC_of (isIn_ok hX _ _ _) ?_
    exact hR _ _ _ ⟨by rw [h1, h2]; rfl, rfl, by omega⟩
  rintro _ _ lo ⟨rfl, rfl, hlo⟩
  rw [un_cons]
  refine jn_of (fun vs mm lo => vs = [.bool (unB u)] ∧ m.n ≤ lo) (fun R hR => ?_) ?_
  · rw [ifV_bool]
    refine ifB_intro (fun h => ?_) (fun h => hR _ _ _ ⟨by unfold unB; rw [h]; rfl, hlo⟩)
    simp only [fieldAddr_57_3, fieldAddr_57_4, fieldAddr_57_5, onS_some, l3, l4, l5, bin_leq, bin_lss, ifV_bool]
    refine ifB_intro (fun h1 => ?_) (fun h1 => hR _ _ _ ⟨by unfold unB; rw [h, h1]; rfl, hlo⟩)
    refine ifB_intro (fun h2 => ?_) (fun h2 => hR _ _ _ ⟨by unfold unB; rw [h, h1, h2]; rfl, hlo⟩)
    refine ifB_intro (fun h3 => ?_) (fun h3 => hR _ _ _ ⟨by unfold unB; rw [h, h1, h2, h3]; rfl, hlo⟩)
    refine onC_of (valid_ok hX (hw.keepE hx1) hb) ?_
    exact hR _ _ _ ⟨by unfold unB; rw [h, h1, h2, h3]; rfl, by omega⟩
  · rintro _ mm lo ⟨rfl, hlo⟩
    rw [un_cons]
    exact ⟨rfl, hlo⟩
theorem ruvalid_ok (hX : NoX X) {u : Un} {w : Value} (hw : Sl m u.shape w) (hb : u.shape.length < 4611686018427387904) : C X (.func 101) [u.v w] m m.n (.bool (unB u)) m := by
  refine Cl.flat (hX.no _ rfl) fn_101 rfl rfl ?_
  rw [F101]; dsimp only [plainW]
  refine onM_push fun m1 hn1 hg1 hk1 => ?_
  simp only [cells_agg] at hg1
  have hx1 : Ext m m1 := ⟨by omega, hk1⟩
  have hg1 : m1.get m.n = .cells (u.c w) 57 none := hg1
  obtain ⟨l0, l1, l2, l3, l4, l5⟩ := unf hg1
  unfold ptrTo
  have n1 : inB u.id 0 99 = (!(decide (u.id < 0)) && !(decide (99 < u.id))) := by unfold inB; by_cases a : u.id < 0 <;> by_cases b : 99 < u.id <;> simp [a, b] <;> omega
  have n2 : inB u.kind 1 8 = (!(decide (u.kind < 1)) && !(decide (8 < u.kind))) := by unfold inB; by_cases a : u.kind < 1 <;> by_cases b : 8 < u.kind <;> simp [a, b] <;> omega
  have n3 : inB u.mat 0 7 = (!(decide (u.mat < 0)) && !(decide (7 < u.mat))) := by unfold inB; by_cases a : u.mat < 0 <;> by_cases b : 7 < u.mat <;> simp [a, b] <;> omega
  refine jn_of (fun vs mm lo => vs = [.bool (!(inB u.id 0 99 && inB u.kind 1 8 && inB u.mat 0 7))] ∧ m1 = mm ∧ m.n ≤ lo) (fun R hR => ?_) ?_
  · simp only [fieldAddr_57_0, fieldAddr_57_1, fieldAddr_57_2, onS_some, l0, l1, l2, bin_lss, bin_gtr, ifV_bool]
    rw [n1, n2, n3] at hR
    refine ifB_intro (fun h1 => hR _ _ _ ⟨by rw [h1]; rfl, rfl, Nat.le_refl _⟩) (fun h1 => ?_)
    refine ifB_intro (fun h2 => hR _ _ _ ⟨by rw [h1, h2]; rfl, rfl, Nat.le_refl _⟩) (fun h2 => ?_)
    refine ifB_intro (fun h3 => hR _ _ _ ⟨by rw [h1, h2, h3]; rfl, rfl, Nat.le_refl _⟩) (fun h3 => ?_)
    refine ifB_intro (fun h4 => hR _ _ _ ⟨by rw [h1, h2, h3, h4]; rfl, rfl, Nat.le_refl _⟩) (fun h4 => ?_)
    refine ifB_intro (fun h5 => hR _ _ _ ⟨by rw [h1, h2, h3, h4, h5]; rfl, rfl, Nat.le_refl _⟩) (fun h5 => ?_)
    exact hR _ _ _ ⟨by rw [h1, h2, h3, h4, h5]; simp, rfl, Nat.le_refl _⟩
  rintro _ _ lo ⟨rfl, rfl, hlo⟩
  rw [un_cons, ifV_bool]
  refine ifB_intro (fun h => ?_) (fun h => ?_)
  · refine ⟨?_, hlo⟩
    have h : (inB u.id 0 99 && inB u.kind 1 8 && inB u.mat 0 7) = false := by
      cases h' : (inB u.id 0 99 && inB u.kind 1 8 && inB u.mat 0 7) with
      | false => rfl
      | true => rw [h'] at h; cases h
    unfold unB
    rw [h]; rfl
  have h : (inB u.id 0 99 && inB u.kind 1 8 && inB u.mat 0 7) = true := by
    cases h' : (inB u.id 0 99 && inB u.kind 1 8 && inB u.mat 0 7) with
    | true => rfl
    | false => rw [h'] at h; cases h
  refine jn_of (fun vs mm lo => vs = [.bool (unB u)] ∧ m.n ≤ lo) (fun R hR => ?_) ?_
  · simp only [fieldAddr_57_3, fieldAddr_57_4, fieldAddr_57_5, onS_some, l3, l4, l5, bin_leq, bin_geq, bin_lss, ifV_bool]
    refine ifB_intro (fun h1 => ?_) (fun h1 => hR _ _ _ ⟨by unfold unB; rw [h, h1]; rfl, hlo⟩)
    refine ifB_intro (fun h2 => ?_) (fun h2 => hR _ _ _ ⟨by unfold unB; rw [h, h1, h2]; rfl, hlo⟩)
    refine ifB_intro (fun h3 => ?_) (fun h3 => hR _ _ _ ⟨by unfold unB; rw [h, h1, h2, h3]; rfl, hlo⟩)
    refine onC_of (rvalid_ok hX (hw.keepE hx1) hb) ?_
    exact hR _ _ _ ⟨by unfold unB; rw [h, h1, h2, h3]; rfl, by omega⟩
  · rintro _ mm lo ⟨rfl, hlo⟩
    rw [un_cons]
    exact ⟨rfl, hlo⟩
theorem ucommon_ok (hX : NoX X) {a b : Un} {va vb : Value} (ha : Sl m a.shape va) (hb : Sl m b.shape vb) (la : a.shape.length < 4611686018427387904) (lb : b.shape.length < 4611686018427387904) :
    ∃ x y, C X (.func 133) [a.v va, b.v vb] m m.n (.tuple #[.int .i64 x, .int .i64 y, .bool (comB a b)]) m := by
  refine ⟨max a.back b.back, min a.front b.front, Cl.flat (hX.no _ rfl) fn_133 rfl rfl ?_⟩
  rw [F133]; dsimp only [plainW]
  refine onM_push fun m1 hn1 hg1 hk1 => ?_
  refine onM_push fun m2 hn2 hg2 hk2 => ?_
  simp only [cells_agg] at hg1 hg2
  have hx2 : Ext m m2 := ⟨by omega, fun c hc => by rw [hk2 c (by omega), hk1 c hc]⟩
  have g1 : m2.get m.n = .cells (a.c va) 57 none := by rw [hk2 _ (by omega)]; exact hg1
  have g2 : m2.get m1.n = .cells (b.c vb) 57 none := hg2
  obtain ⟨-, -, -, -, a4, a5⟩ := unf g1
  obtain ⟨-, -, -, -, b4, b5⟩ := unf g2
  unfold ptrTo
  simp only [fieldAddr_57_4, fieldAddr_57_5, onS_some, a4, a5, b4, b5, max_two, min_two, on2_some]
  refine jn_of (fun vs mm lo => vs = [.int .i64 (max a.back b.back), .int .i64 (min a.front b.front), .bool (comB a b)] ∧ m.n ≤ lo) (fun R hR => ?_) ?_
  · rw [bin_lss, onS_some, ifV_bool]
    refine ifB_intro (fun h => ?_) (fun h => hR _ _ _ ⟨by unfold comB; rw [h, Bool.and_false], by omega⟩)
    rw [load_un g1, onS_some]
    refine onC_of (uvalid_ok hX (ha.keepE hx2) la) ?_
    rw [ifV_bool]
    refine ifB_intro (fun h1 => ?_) (fun h1 => hR _ _ _ ⟨by unfold comB; rw [h1]; rfl, by omega⟩)
    rw [load_un g2, onS_some]
    refine onC_of (uvalid_ok hX (hb.keepE hx2) lb) ?_
    exact hR _ _ _ ⟨by unfold comB; rw [h, h1, Bool.true_and, Bool.and_true], by omega⟩
  · rintro _ mm lo ⟨rfl, hlo⟩
    rw [un_cons, un_cons, un_cons]
    exact ⟨rfl, hlo⟩
theorem unB_len {u : Un} (h : unB u = true) : u.shape.length ≤ 8 := by
  unfold unB at h
  rw [Bool.and_eq_true] at h
  exact (valid_len h.2).2
theorem uoverlap_ok (hX : NoX X) {a b : Un} {va vb : Value} (ha : Sl m a.shape va) (hb : Sl m b.shape vb) (la : a.shape.length < 4611686018427387904) (lb : b.shape.length < 4611686018427387904) :
    C X (.func 95) [a.v va, b.v vb] m m.n (.bool (overU a b)) m := by
  refine Cl.flat (hX.no _ rfl) fn_95 rfl rfl ?_
  rw [F95]; dsimp only [plainW]
  refine onM_push fun m1 hn1 hg1 hk1 => ?_
  refine onM_push fun m2 hn2 hg2 hk2 => ?_
  simp only [cells_agg] at hg1 hg2
  have hx2 : Ext m m2 := ⟨by omega, fun c hc => by rw [hk2 c (by omega), hk1 c hc]⟩
  have g1 : m2.get m.n = .cells (a.c va) 57 none := by rw [hk2 _ (by omega)]; exact hg1
  have g2 : m2.get m1.n = .cells (b.c vb) 57 none := hg2
  obtain ⟨-, -, -, a3, -, -⟩ := unf g1
  obtain ⟨-, -, -, b3, -, -⟩ := unf g2
  unfold ptrTo
  rw [load_un g1, onS_some, load_un g2, onS_some]
  obtain ⟨x, y, hc⟩ := ucommon_ok (m := m2) hX (ha.keepE hx2) (hb.keepE hx2) la lb
  refine onC_of hc ?_
  rw [extr_tuple, extr_tuple, extr_tuple]
  simp only [List.getElem?_cons_zero, List.getElem?_cons_succ, onS_some]
  refine jn_of (fun vs mm lo => vs = [.bool (overU a b)] ∧ m.n ≤ lo) (fun R hR => ?_) ?_
  · rw [ifV_bool]
    refine ifB_intro (fun h => ?_) (fun h => hR _ _ _ ⟨by unfold overU; rw [h]; rfl, by omega⟩)
    have h' := h
    unfold comB at h'
    simp only [Bool.and_eq_true] at h'
    rw [fieldAddr_57_3, onS_some, a3, onS_some, fieldAddr_57_3, onS_some, b3, onS_some]
    refine onC_of (poverlap_ok hX (ha.keepE hx2) (hb.keepE hx2) (by have := unB_len h'.1.1; omega) (by have := unB_len h'.1.2; omega)) ?_
    exact hR _ _ _ ⟨by unfold overU; rw [h]; rfl, by omega⟩
  · rintro _ mm lo ⟨rfl, hlo⟩
    rw [un_cons]
    exact ⟨rfl, hlo⟩
theorem rucommon_ok (hX : NoX X) {a b : Un} {va vb : Value} (ha : Sl m a.shape va) (hb : Sl m b.shape vb) (la : a.shape.length < 4611686018427387904) (lb : b.shape.length < 4611686018427387904) :
    C X (.func 134) [a.v va, b.v vb] m m.n (.bool (comB a b)) m := by
  refine Cl.flat (hX.no _ rfl) fn_134 rfl rfl ?_
  rw [F134]; dsimp only [plainW]
  refine onM_push fun m1 hn1 hg1 hk1 => ?_
  refine onM_push fun m2 hn2 hg2 hk2 => ?_
  simp only [cells_agg] at hg1 hg2
  have hx2 : Ext m m2 := ⟨by omega, fun c hc => by rw [hk2 c (by omega), hk1 c hc]⟩
  have g1 : m2.get m.n = .cells (a.c va) 57 none := by rw [hk2 _ (by omega)]; exact hg1
  have g2 : m2.get m1.n = .cells (b.c vb) 57 none := hg2
  obtain ⟨-, -, -, -, a4, a5⟩ := unf g1
  obtain ⟨-, -, -, -, b4, b5⟩ := unf g2
  unfold ptrTo
  refine jn_of (fun vs mm lo => vs = [.bool (comB a b)] ∧ m.n ≤ lo) (fun R hR => ?_) ?_
  · rw [load_un g1, onS_some]
    refine onC_of (ruvalid_ok hX (ha.keepE hx2) la) ?_
    rw [ifV_bool]
    refine ifB_intro (fun h1 => ?_) (fun h1 => hR _ _ _ ⟨by unfold comB; rw [h1]; rfl, by omega⟩)
    rw [load_un g2, onS_some]
    refine onC_of (ruvalid_ok hX (hb.keepE hx2) lb) ?_
    rw [ifV_bool]
    refine ifB_intro (fun h2 => ?_) (fun h2 => hR _ _ _ ⟨by unfold comB; rw [h2, Bool.and_false]; rfl, by omega⟩)
    simp only [fieldAddr_57_4, fieldAddr_57_5, onS_some, a4, a5, b4, b5, max_two, min_two, on2_some, bin_lss]
    exact hR _ _ _ ⟨by unfold comB; rw [h1, h2, Bool.true_and, Bool.true_and], by omega⟩
  · rintro _ mm lo ⟨rfl, hlo⟩
    rw [un_cons]
    exact ⟨rfl, hlo⟩
theorem ruoverlap_ok (hX : NoX X) {a b : Un} {va vb : Value} (ha : Sl m a.shape va) (hb : Sl m b.shape vb) (la : a.shape.length < 4611686018427387904) (lb : b.shape.length < 4611686018427387904) :
    C X (.func 102) [a.v va, b.v vb] m m.n (.bool (overU a b)) m := by
  refine Cl.flat (hX.no _ rfl) fn_102 rfl rfl ?_
  rw [F102]; dsimp only [plainW]
  refine onM_push fun m1 hn1 hg1 hk1 => ?_
  refine onM_push fun m2 hn2 hg2 hk2 => ?_
  simp only [cells_agg] at hg1 hg2
  have hx2 : Ext m m2 := ⟨by omega, fun c hc => by rw [hk2 c (by omega), hk1 c hc]⟩
  have g1 : m2.get m.n = .cells (a.c va) 57 none := by rw [hk2 _ (by omega)]; exact hg1
  have g2 : m2.get m1.n = .cells (b.c vb) 57 none := hg2
  obtain ⟨-, -, -, a3, -, -⟩ := unf g1
  obtain ⟨-, -, -, b3, -, -⟩ := unf g2
  unfold ptrTo
  refine jn_of (fun vs mm lo => vs = [.bool (overU a b)] ∧ m.n ≤ lo) (fun R hR => ?_) ?_
  · rw [load_un g1, onS_some, load_un g2, onS_some]
    refine onC_of (rucommon_ok hX (ha.keepE hx2) (hb.keepE hx2) la lb) ?_
    rw [ifV_bool]
    refine ifB_intro (fun h => ?_) (fun h => hR _ _ _ ⟨by unfold overU; rw [h]; rfl, by omega⟩)
    have h' := h
    unfold comB at h'
    simp only [Bool.and_eq_true] at h'
    rw [fieldAddr_57_3, onS_some, a3, onS_some, fieldAddr_57_3, onS_some, b3, onS_some]
    refine onC_of (roverlap_ok hX (ha.keepE hx2) (hb.keepE hx2) (by have := unB_len h'.1.1; omega) (by have := unB_len h'.1.2; omega)) ?_
    exact hR _ _ _ ⟨by unfold overU; rw [h]; rfl, by omega⟩
  · rintro _ mm lo ⟨rfl, hlo⟩
    rw [un_cons]
    exact ⟨rfl, hlo⟩
end Go.Proofs.YtjecgmfildhpiaaGreatDoor

/- append of what is known by its cells: also of a string. -/
namespace Go.D
open Go
section
variable {E : Env} {α : Type} [Rep α] {n1 : Nat} {m : M} {l ys : List α} {v y : Value} {T : TypeId}
end
end Go.D
namespace Go.D
open Go
section
variable {E : Env} {m : M} {T : TypeId} {ti : TI} {e : TypeId} {b n : Nat} {cs : List Value} {te : TypeId} {g : Option Nat}
/-- s[j:] -/
theorem slice_fromC (t1 : E.ty.get T = some ti) (t2 : ti.d = .slice e) (hk : 0 < ti.es) (h : m.get b = .cells cs te g) (hg : g = none ∨ g = some ti.es) {o c j : Nat} (hnc : n ≤ c) (hj : j ≤ n) :
    ∃ a', slice? E m T (.slice (some ⟨b, o, none⟩) n c) (some (.int .i64 j)) none none = some (.slice (some a') (n - j) (c - j)) ∧ (j < c → a' = ⟨b, o + j * ti.es, none⟩) := by
  have b1 : bounds? n c (some (.int .i64 j)) none none = some (j, n, c) := by unfold bounds?; simp only [bound_ok hj]
  have e1 : Nat.beq ti.es 0 = false := by
    cases hb : Nat.beq ti.es 0 with
    | false => rfl
    | true => have := Nat.eq_of_beq_eq_true hb; omega
  have e2 : Nat.ble n c = true := Nat.ble_eq_true_of_le hnc
  have e0 : (⟨b, o, none⟩ : Addr).add (j * ti.es) = ⟨b, o + j * ti.es, none⟩ := addr_add (a := ⟨b, o, none⟩) rfl _
  have e4 : j < c → Nat.beq c j = false := fun hlt => by
    cases hb : Nat.beq c j with
    | false => rfl
    | true => have := Nat.eq_of_beq_eq_true hb; omega
  rcases hg with rfl | rfl
  · refine ⟨bif Nat.beq c j then ⟨b, o, none⟩ else (⟨b, o, none⟩ : Addr).add (j * ti.es), ?_, fun hlt => by rw [e4 hlt]; exact e0⟩
    simp only [slice?, t1, t2, b1, h, e1, e2, Bool.not_true, Bool.or_false, cond_false]
  · have e3 : Nat.beq ti.es ti.es = true := Nat.beq_refl _
    refine ⟨bif Nat.beq c j && !((none : Option Value).isNone && Nat.beq (o + c * ti.es) cs.length) then ⟨b, o, none⟩ else (⟨b, o, none⟩ : Addr).add (j * ti.es), ?_, fun hlt => by rw [e4 hlt]; exact e0⟩
    simp only [slice?, t1, t2, b1, h, e1, e2, e3, Bool.not_true, Bool.or_false, cond_false, cond_true]
/-- A slice of which the room is known. -/
def SlC {α : Type} [Rep α] (m : M) (l : List α) (v : Value) : Prop :=
  Sl m l v ∧ ∃ b o c bc g, v = .slice (some ⟨b, o, none⟩) l.length c ∧ l.length ≤ c ∧ m.get b = .cells bc (Rep.ty α) g ∧ (g = none ∨ g = some (Rep.sz α))
theorem SlC.keepE {α : Type} [Rep α] {m' : M} {l : List α} {v : Value} (h : SlC m l v) (he : Ext m m') : SlC m' l v := by
  obtain ⟨h1, b, o, c, bc, g, h2, h3, h4, h5⟩ := h
  exact ⟨h1.keepE he, b, o, c, bc, g, h2, h3, he.cells h4, h5⟩
/-- A part of a slice. -/
theorem Sl.part {α : Type} [Rep α] {l : List α} {b o c : Nat} (h : Sl m l (.slice (some ⟨b, o, none⟩) l.length c)) {i k : Nat} (hik : i + k ≤ l.length) {c' : Nat} : Sl m ((l.drop i).take k) (.slice (some ⟨b, o + i * Rep.sz α, none⟩) k c') := by
  have hlen : ((l.drop i).take k).length = k := by rw [List.length_take, List.length_drop]; omega
  rcases h with ⟨h, _⟩ | ⟨b', o', c1, bc, g, he, hb, hle, hel⟩
  · cases h
  · cases he
    refine .inr ⟨b, _, c', bc, g, by rw [hlen], hb, ?_, fun j x hj => ?_⟩
    · rw [hlen]
      have : (i + k) * Rep.sz α ≤ l.length * Rep.sz α := Nat.mul_le_mul_right _ hik
      rw [Nat.add_mul] at this
      omega
    · have hj2 := (List.getElem?_eq_some_iff.1 hj).1
      rw [hlen] at hj2
      rw [List.getElem?_take_of_lt hj2, List.getElem?_drop] at hj
      have := hel (i + j) x hj
      rwa [Nat.add_mul, ← Nat.add_assoc] at this
end
end Go.D

/- fabric.pairs, fabric.Valid; putlogref12.Valid. -/
namespace Go.Proofs.YtjecgmfildhpiaaGreatDoor
open Go Go.D
variable {X : CallFn} {m : M}
/-- A valid fabric. -/
structure FabP (us : List Un) : Prop where
  len : us.length ≤ 12
  val : ∀ u ∈ us, unB u = true
  asc : ∀ (i : Nat) (a b : Un), us[i]? = some a → us[i + 1]? = some b → a.id < b.id
  apart : ∀ (i k : Nat) (a b : Un), i < k → us[i]? = some a → us[k]? = some b → overU a b = false
open Classical in
noncomputable def fabB (us : List Un) : Bool := decide (FabP us)
open Classical in
theorem fabB_true {us : List Un} (h : FabP us) : fabB us = true := by unfold fabB; exact decide_eq_true h
open Classical in
theorem fabB_false {us : List Un} (h : ¬ FabP us) : fabB us = false := by unfold fabB; exact decide_eq_false h
open Classical in
theorem fabB_iff {us : List Un} : fabB us = true ↔ FabP us := by unfold fabB; exact decide_eq_true_iff
theorem comB_comm (a b : Un) : comB a b = comB b a := by
  unfold comB
  rw [Bool.and_comm (unB a), Int.max_comm, Int.min_comm]
theorem overB_comm (a b : List Pl) : overB a b = overB b a := by
  unfold overB
  cases validB a <;> cases validB b <;> cases decide (firstE a b < 0) <;> cases decide (firstE b a < 0) <;> rfl
theorem overU_comm (a b : Un) : overU a b = overU b a := by unfold overU; rw [comB_comm, overB_comm]
/-- The units of a fabric, with the slices of their corners. -/
def us' (l : List UW) : List Un := l.map (·.u)
theorem us_at {l : List UW} {i : Nat} {x : UW} (h : l[i]? = some x) : (us' l)[i]? = some x.u := by unfold us'; rw [List.getElem?_map, h]; rfl
theorem us_len {l : List UW} : (us' l).length = l.length := by unfold us'; rw [List.length_map]
theorem us_get {l : List UW} {i : Nat} {u : Un} (h : (us' l)[i]? = some u) : ∃ x, l[i]? = some x ∧ x.u = u := by
  unfold us' at h
  rw [List.getElem?_map] at h
  cases hx : l[i]? with
  | none => rw [hx] at h; cases h
  | some x => rw [hx] at h; cases h; exact ⟨x, rfl, rfl⟩
theorem us_mem {l : List UW} {u : Un} (h : u ∈ us' l) : ∃ x ∈ l, x.u = u := by unfold us' at h; obtain ⟨x, hx, rfl⟩ := List.mem_map.1 h; exact ⟨x, hx, rfl⟩
/-- A fabric in the store. -/
structure FabV (m : M) (l : List UW) (v : Value) : Prop where
  sl : Sl m l v
  sh : ∀ x ∈ l, Sl m x.u.shape x.w
  ln : ∀ x ∈ l, x.u.shape.length < 1000000
  cap : l = [] ∨ ∃ b o c bc g, v = .slice (some ⟨b, o, none⟩) l.length c ∧ l.length ≤ c ∧ m.get b = .cells bc 57 g ∧ (g = none ∨ g = some 6)
theorem FabV.keepE {l : List UW} {v : Value} {m' : M} (h : FabV m l v) (hx : Ext m m') : FabV m' l v :=
  ⟨h.sl.keepE hx, fun x hx' => (h.sh x hx').keepE hx, h.ln, h.cap.imp id fun ⟨b, o, c, bc, g, h1, h2, h3, h4⟩ => ⟨b, o, c, bc, g, h1, h2, hx.cells h3, h4⟩⟩
theorem FabV.keep {l : List UW} {v : Value} {m' : M} (h : FabV m l v) (hk : ∀ c cs t g, m.get c = .cells cs t g → (t = 57 ∨ t = 64) → m'.get c = .cells cs t g) : FabV m' l v :=
  ⟨h.sl.keep fun b c t g hb ht => hk b c t g hb (.inl (by simpa [Rep.ty, Rep.tys] using ht)), fun x hx => (h.sh x hx).keep fun b c t g hb ht => hk b c t g hb (.inr (by simpa [Rep.ty, Rep.tys] using ht)), h.ln,
   h.cap.imp id fun ⟨b, o, c, bc, g, h1, h2, h3, h4⟩ => ⟨b, o, c, bc, g, h1, h2, hk _ _ _ _ h3 (.inl rfl), h4⟩⟩
/-- The pairs of units, as they are yielded. -/
def pairsV : List UW → List (List Value)
  | [] => []
  | a :: r => r.map (fun b => [a.v, b.v]) ++ pairsV r
theorem pairs_drop {l : List UW} {i : Nat} {a : UW} (h : l[i]? = some a) : pairsV (l.drop i) = (l.drop (i + 1)).map (fun b => [a.v, b.v]) ++ pairsV (l.drop (i + 1)) := by
  have hi := (List.getElem?_eq_some_iff.1 h).1
  rw [List.drop_eq_getElem_cons hi, (List.getElem?_eq_some_iff.1 h).2, pairsV]
theorem pairs_cons {x : UW} {r : List UW} : pairsV (x :: r) = r.map (fun b => [x.v, b.v]) ++ pairsV r := rfl
theorem pairs_gen (hX : NoX X) {l : List UW} {v : Value} {b : Nat} (hlen : l.length < 1000000) :
    GenF Tab.env X (fun o => ∃ cs g, o = .cells cs 57 g) (.func 132) [] [ptrTo b] (pairsV l) (fun m => m.get b = .cells [v] 31 none ∧ FabV m l v) := by
  intro y n0 B I J m hD hI hJ hy hn0 hB hyield h0
  refine Cl.gen (R := fun v m2 b => B ≤ b ∧ (I (pairsV l).length m2 ∨ J m2)) (hX.no _ rfl) fn_132 rfl ?_
  rw [show ([] : List Value) ++ .func (.yield y) #[] #[] :: [ptrTo b] = [.func (.yield y) #[] #[], ptrTo b] from rfl, F132]; dsimp only [plainW]
  have ld : ∀ m1 : M, m1.get b = .cells [v] 31 none → load? Tab.env m1 29 (.pointer (some ⟨b, 0 + 0, none⟩)) = some v := fun m1 h => by rw [load_29, cellAt_of h]; rfl
  unfold ptrTo
  rw [fieldAddr_31_0, onS_some, ld m (hD _ _ h0).1, onS_some, (hD _ _ h0).2.sl.len slt_uw, on2_some]
  refine Lp.intro (γ := Nat) (fun i => l.length - i) (fun i vs m1 lo => ∃ P, vs = [.int .i64 i] ∧ i ≤ l.length ∧ pairsV l = P ++ pairsV (l.drop i) ∧ I P.length m1 ∧ n0 ≤ m1.n ∧ m.n ≤ m1.n ∧ B ≤ lo ∧ ((lo = m.n ∧ P = []) ∨ lo < m.n)) 0
    ⟨[], rfl, Nat.zero_le _, rfl, h0, hn0, Nat.le_refl _, by omega, .inl ⟨rfl, rfl⟩⟩ ?_
  rintro i vs m1 lo1 ⟨P, rfl, hi, hP, hI1, hn1, hmn1, hlo, hlow⟩
  rw [un_cons, bin_lss, onS_some, ifV_bool]
  refine ifB_intro (fun hlt => ?_) (fun hge => ?_)
  · have hlt : i < l.length := by simpa using hlt
    obtain ⟨a, ha⟩ : ∃ a, l[i]? = some a := ⟨_, List.getElem?_eq_getElem hlt⟩
    obtain ⟨q, e1, e2, ow⟩ := (hD _ _ hI1).2.sl.at_uw (k := .i64) ha
    rw [e1, onS_some, e2, onS_some]
    refine onM_push fun m13 hn13 hg13 hk13 => ?_
    refine on2_storeV ty_57 hg13 rfl rfl (Un.c_one ow) fun m14 hn14 hg14 hk14 => ?_
    have hx14 : Ext m1 m14 := ⟨by omega, fun b hb => by rw [hk14 b (by omega), hk13 b hb]⟩
    have hI14 := hI _ _ _ hI1 hx14
    obtain ⟨hb14, hs14⟩ := hD _ _ hI14
    rw [onS_some, ld m14 hb14, onS_some, bin_add, onS_some, wrap64 (by omega) (by omega), show ((i : Int) + 1) = ((i + 1 : Nat) : Int) by omega]
    -- the units behind
    obtain ⟨a', c', hsl, hat⟩ : ∃ a' c', slice? Tab.env m14 29 v (some (.int .i64 ((i + 1 : Nat) : Int))) none none = some (.slice (some a') (l.length - (i + 1)) c') ∧ ∀ (mm : M), FabV mm l v → ∀ j x, l[i + 1 + j]? = some x → ∃ q, indexAddr? Tab.env 29 (.slice (some a') (l.length - (i + 1)) c') (.int .i64 j) = some q ∧ load? Tab.env mm 57 q = some x.v := by
      rcases hs14.cap with h | ⟨ab, o, c, bc, g, hv, hlc, hg, hgg⟩
      · rw [h] at hlt; simp at hlt
      · obtain ⟨a', h1, h2⟩ := slice_fromC (E := Tab.env) (m := m14) (T := 29) (ti := Tab.t29) (e := 57) (b := ab) (cs := bc) (te := 57) (g := g) (n := l.length) (o := o) (c := c) (j := i + 1) ty_29 rfl (by decide) hg hgg hlc hlt
        refine ⟨a', c - (i + 1), by rw [hv]; exact h1, fun mm hmm j x hx => ?_⟩
        have hj := (List.getElem?_eq_some_iff.1 hx).1
        have ha' := h2 (by omega)
        subst ha'
        have hsl := hmm.sl
        rw [hv] at hsl
        have hp := Sl.part (i := i + 1) (k := l.length - (i + 1)) (c' := c - (i + 1)) hsl (by omega)
        have hj2 : ((l.drop (i + 1)).take (l.length - (i + 1)))[j]? = some x := by
          rw [List.getElem?_take_of_lt (by omega), List.getElem?_drop]; exact hx
        obtain ⟨q, q1, q2, _⟩ := hp.at_uw (k := .i64) hj2
        exact ⟨q, q1, q2⟩
    rw [hsl, onS_some]
    have ln : builtin? Tab.env m14 .len [29] [.slice (some a') (l.length - (i + 1)) c'] = some (.int .i64 (l.length - (i + 1) : Nat), m14) := len_29
    rw [ln, on2_some]
    have hP2 := hP
    rw [pairs_drop ha, ← List.append_assoc] at hP2
    have hat0 : ∀ j x, l[i + 1 + j]? = some x → (pairsV l)[P.length + j]? = some [a.v, x.v] := fun j x hx => by
      have hj := (List.getElem?_eq_some_iff.1 hx).1
      have hjd : (l.drop (i + 1))[j]? = some x := by rw [List.getElem?_drop]; exact hx
      rw [hP2, List.append_assoc, List.getElem?_append_right (by omega), Nat.add_sub_cancel_left, List.getElem?_append_left (by rw [List.length_map, List.length_drop]; omega), List.getElem?_map, hjd]; rfl
    refine Lp.intro (γ := Nat) (fun j => l.length - j) (fun j vs m2 lo => vs = [.int .i64 j] ∧ j ≤ l.length - (i + 1) ∧ I (P.length + j) m2 ∧ m1.n < m2.n ∧ m2.get m1.n = .cells a.c 57 none ∧ B ≤ lo ∧ ((lo = m.n ∧ P = [] ∧ j = 0) ∨ lo < m.n)) 0
      ⟨rfl, Nat.zero_le _, hI14, by omega, hg14, by omega, by
        rcases hlow with ⟨h1, h2⟩ | h
        · exact .inl ⟨by omega, h2, rfl⟩
        · exact .inr (by omega)⟩ ?_
    rintro j vs m2 lo2 ⟨rfl, hj, hI2, hn2, hga, hlo2, hlow2⟩
    rw [un_cons, bin_lss, onS_some, ifV_bool]
    refine ifB_intro (fun hlt2 => ?_) (fun hge2 => ?_)
    · have hlt2 : j < l.length - (i + 1) := by simpa using hlt2
      obtain ⟨x, hx⟩ : ∃ x, l[i + 1 + j]? = some x := ⟨_, List.getElem?_eq_getElem (by omega)⟩
      obtain ⟨q, q1, q2⟩ := hat m2 (hD _ _ hI2).2 j x hx
      obtain ⟨_, _, _, ox⟩ := (hD _ _ hI2).2.sl.at_uw (k := .i64) hx
      rw [q1, onS_some, q2, onS_some]
      refine onM_push fun m30 hn30 hg30 hk30 => ?_
      refine on2_storeV ty_57 hg30 rfl rfl (Un.c_one ox) fun m31 hn31 hg31 hk31 => ?_
      have hx31 : Ext m2 m31 := ⟨by omega, fun b hb => by rw [hk31 b (by omega), hk30 b hb]⟩
      rw [load_uw (hx31.cells hga), onS_some, load_uw (x := x) hg31, onS_some, onFn_func]
      obtain ⟨v2, m4, b4, hc, hB4, hy4, hfr, hres⟩ := hyield (P.length + j) [a.v, x.v] m31 (by omega) (hat0 j x hx) (hI _ _ _ hI2 hx31)
      refine onC_of hc ?_
      have hn4 : m31.n ≤ m4.n := hc.1
      rcases hres with ⟨rfl, hI4⟩ | ⟨rfl, hJ4⟩
      · rw [un_not, onS_some, ifV_bool, Bool.not_true, ifB_false, bin_add, onS_some, wrap64 (by omega) (by omega)]
        have hga4 : m4.get m1.n = .cells a.c 57 none := by
          have h31 := hx31.cells hga
          rw [hfr m1.n hn1 (by omega) ⟨_, _, h31⟩, h31]
        exact ⟨j + 1, by omega, rfl, by omega, hI4, by omega, hga4, by omega, .inr (by omega)⟩
      · rw [un_not, onS_some, ifV_bool, Bool.not_false, ifB_true]
        exact .inr ⟨.inr (by omega), by omega, .inr hJ4⟩
    · have hj' : j = l.length - (i + 1) := by
        have : ¬ (j : Int) < ((l.length - (i + 1) : Nat) : Int) := by simpa using hge2
        omega
      have hlenP : (P ++ (l.drop (i + 1)).map fun b => [a.v, b.v]).length = P.length + j := by rw [List.length_append, List.length_map, List.length_drop]; omega
      rw [onS_some]
      refine ⟨i + 1, by omega, _, rfl, by omega, hP2, by rw [hlenP]; exact hI2, by omega, by omega, hlo2, ?_⟩
      rcases hlow2 with ⟨h1, h2, h3⟩ | h
      · refine .inl ⟨h1, ?_⟩
        rw [← List.length_eq_zero_iff, hlenP, h2, h3]; rfl
      · exact .inr h
  · have hi' : i = l.length := by
      have : ¬ (i : Int) < (l.length : Int) := by simpa using hge
      omega
    subst hi'
    have hPl : pairsV l = P := by rw [hP, List.drop_of_length_le (Nat.le_refl _)]; simp [pairsV]
    rw [hPl]
    rcases hlow with ⟨h1, h2⟩ | h
    · subst h2
      exact .inl ⟨rfl, by omega, by omega, .inl h0⟩
    · exact .inr ⟨.inr h, by omega, .inl hI1⟩
end Go.Proofs.YtjecgmfildhpiaaGreatDoor

/- fabric.Valid, putlogref12.Valid. -/
namespace Go.Proofs.YtjecgmfildhpiaaGreatDoor
open Go Go.D
variable {X : CallFn} {m : M}
def pairsU : List UW → List (UW × UW)
  | [] => []
  | a :: r => r.map (fun b => (a, b)) ++ pairsU r
theorem pairsV_eq : ∀ l : List UW, pairsV l = (pairsU l).map fun p => [p.1.v, p.2.v]
  | [] => rfl
  | a :: r => by
    rw [pairs_cons, pairsU, List.map_append, List.map_map, pairsV_eq r]
    rfl
theorem pairsU_mem : ∀ {l : List UW} {p : UW × UW}, p ∈ pairsU l → p.1 ∈ l ∧ p.2 ∈ l ∧ ∃ (i j : Nat), i < j ∧ l[i]? = some p.1 ∧ l[j]? = some p.2
  | [], p, h => by cases h
  | a :: r, p, h => by
    rw [pairsU] at h
    rcases List.mem_append.1 h with h | h
    · obtain ⟨b, hb, rfl⟩ := List.mem_map.1 h
      obtain ⟨j, hj⟩ := List.getElem?_of_mem hb
      exact ⟨by simp, by simp [hb], 0, j + 1, by omega, rfl, by simpa using hj⟩
    · obtain ⟨h1, h2, i, j, h3, h4, h5⟩ := pairsU_mem h
      exact ⟨by simp [h1], by simp [h2], i + 1, j + 1, by omega, by simpa using h4, by simpa using h5⟩
theorem pairsU_of : ∀ {l : List UW} (i j : Nat) (a b : UW), i < j → l[i]? = some a → l[j]? = some b → (a, b) ∈ pairsU l := by
  intro l
  induction l with
  | nil => intro i j a b _ ha; simp at ha
  | cons x r ih =>
    intro i j a b hij ha hb
    rw [pairsU, List.mem_append]
    match i, j, hij with
    | 0, j + 1, _ =>
      have ha : x = a := by simpa using ha
      subst ha
      have hb : r[j]? = some b := by simpa using hb
      exact .inl (List.mem_map.2 ⟨b, List.mem_of_getElem? hb, rfl⟩)
    | i + 1, j + 1, hij => exact .inr (ih i j a b (by omega) (by simpa using ha) (by simpa using hb))
theorem pairs_at {l : List UW} {k : Nat} {args : List Value} (h : (pairsV l)[k]? = some args) : ∃ p, (pairsU l)[k]? = some p ∧ args = [p.1.v, p.2.v] := by
  rw [pairsV_eq, List.getElem?_map] at h
  cases hp : (pairsU l)[k]? with
  | none => rw [hp] at h; cases h
  | some p => rw [hp] at h; cases h; exact ⟨p, rfl, rfl⟩
theorem pairs_ok (hX : NoX X) {v : Value} (hv : cells v = [v]) : ∃ m', C X (.func 94) [.agg #[v]] m m.n (.func (.func 132) #[] #[ptrTo m.n]) m' ∧ Ext m m' ∧ m'.n = m.n + 1 ∧ m'.get m.n = .cells [v] 31 none := by
  have key : ∃ r m' b, C X (.func 94) [.agg #[v]] m b r m' ∧ b = m.n ∧ r = .func (.func 132) #[] #[ptrTo m.n] ∧ Ext m m' ∧ m'.n = m.n + 1 ∧ m'.get m.n = .cells [v] 31 none := by
    refine Cl.heap (R := fun r m' b => b = m.n ∧ r = .func (.func 132) #[] #[ptrTo m.n] ∧ Ext m m' ∧ m'.n = m.n + 1 ∧ m'.get m.n = .cells [v] 31 none) (hX.no _ rfl) fn_94 rfl ?_
    rw [F94]; dsimp only [plainW]
    refine onM_push fun m1 hn1 hg1 hk1 => ?_
    exact ⟨.inl rfl, by omega, rfl, ⟨by omega, hk1⟩, hn1, hg1⟩
  obtain ⟨r, m', b, hc, rfl, rfl, h1, h2, h3⟩ := key
  exact ⟨m', hc, h1, h2, h3⟩
/-- The number of a unit in a row. -/
theorem uw_id {l : List UW} {v : Value} (h : Sl m l v) {i : Nat} {x : UW} (hx : l[i]? = some x) : ∃ a a0, indexAddr? Tab.env 29 v (.int .i64 i) = some a ∧ fieldAddr? Tab.env 57 a 0 = some a0 ∧ load? Tab.env m 3 a0 = some (.int .i64 x.u.id) := by
  obtain ⟨b, o, bc, g, cs, e1, hb, hr, _, hj⟩ := h.indexA slt_uw (k := .i64) hx
  obtain ⟨rfl, _⟩ := hr
  refine ⟨_, _, e1, fieldAddr_57_0, ?_⟩
  rw [load_3, cellAt_of hb, hj 0 (by decide)]; rfl
theorem asc_no {l : List UW} {i : Nat} {a b : UW} (ha : l[i]? = some a) (hb : l[i + 1]? = some b) (h : b.u.id ≤ a.u.id) : ¬ FabP (us' l) := fun hf => by
  have := hf.asc i _ _ (us_at ha) (us_at hb)
  omega
theorem val_no {l : List UW} {a : UW} (ha : a ∈ l) (h : unB a.u = false) : ¬ FabP (us' l) := fun hf => by
  have := hf.val a.u (List.mem_map.2 ⟨a, ha, rfl⟩)
  rw [h] at this
  cases this
theorem apart_no {l : List UW} {i j : Nat} {a b : UW} (hij : i < j) (ha : l[i]? = some a) (hb : l[j]? = some b) (h : overU a.u b.u = true) : ¬ FabP (us' l) := fun hf => by
  have := hf.apart i j _ _ hij (us_at ha) (us_at hb)
  rw [h] at this
  cases this
set_option maxRecDepth 100000 in
theorem fvalid_ok (hX : NoX X) {l : List UW} {v : Value} (h : FabV m l v) (hlen : l.length < 1000000) : C X (.func 47) [.agg #[v]] m m.n (.bool (fabB (us' l))) m := by
  refine Cl.flat (hX.no _ rfl) fn_47 rfl rfl ?_
  rw [F47]; dsimp only [plainW]
  refine onM_push fun m1 hn1 hg1 hk1 => ?_
  refine onM_push fun m2 hn2 hg2 hk2 => ?_
  have hx2 : Ext m m2 := ⟨by omega, fun c hc => by rw [hk2 c (by omega), hk1 c hc]⟩
  have g1 : m2.get m.n = .cells [v] 31 none := by rw [hk2 _ (by omega), hg1]; rfl
  have ldF : ∀ mm : M, Ext m2 mm → load? Tab.env mm 29 (.pointer (some ⟨m.n, 0 + 0, none⟩)) = some v := fun mm hx => by rw [load_29, cellAt_of (hx.cells g1)]; rfl
  have hno : ∀ (mm : M) (lo : Nat), Ext m2 mm → m.n ≤ lo → ¬ FabP (us' l) → on2 (store? Tab.env mm 4 (.pointer (some ⟨m1.n, 0, none⟩)) (.bool false)) fun m7 b8 => onS (load? Tab.env m7 4 (.pointer (some ⟨m1.n, 0, none⟩))) fun v9 => mkres [v9] = .bool (fabB (us' l)) ∧ m.n ≤ min lo b8 := by
    intro mm lo hx hlo hn
    refine on2_storeV ty_4 (hx.cells hg2) rfl rfl rfl fun m7 hn7 hg7 hk7 => ?_
    rw [load_4, cellAt_of hg7]
    show onS (some (Value.bool false)) _
    rw [onS_some, fabB_false hn]
    exact ⟨rfl, by omega⟩
  unfold ptrTo
  rw [fieldAddr_31_0, onS_some, ldF m2 .refl, onS_some, (h.sl.keepE hx2).len slt_uw, on2_some, bin_gtr, onS_some, ifV_bool]
  refine ifB_intro (fun hgt => ?_) (fun hle => ?_)
  · have hgt : (12 : Int) < l.length := by simpa using hgt
    exact hno m2 m.n .refl (Nat.le_refl _) fun hf => by have := hf.len; rw [us_len] at this; omega
  have hle : ¬ (12 : Int) < l.length := by simpa using hle
  rw [onS_some, ldF m2 .refl, onS_some, (h.sl.keepE hx2).len slt_uw, on2_some]
  refine Lp.intro (γ := Nat) (fun i => l.length - i) (fun i vs mm lo => vs = [.int .i64 i] ∧ i ≤ l.length ∧ Ext m2 mm ∧ m.n ≤ lo ∧ (∀ j x, j < i → l[j]? = some x → unB x.u = true) ∧ (∀ j a b, j + 1 < i → l[j]? = some a → l[j + 1]? = some b → a.u.id < b.u.id)) 0
    ⟨rfl, Nat.zero_le _, .refl, Nat.le_refl _, fun j x hj => by omega, fun j a b hj => by omega⟩ ?_
  rintro i vs mm lo ⟨rfl, hi, hx, hlo, hval, hasc⟩
  rw [un_cons, bin_lss, onS_some, ifV_bool]
  have hnm := hx.n
  refine ifB_intro (fun hlt => ?_) (fun hge => ?_)
  · have hlt : i < l.length := by simpa using hlt
    obtain ⟨x, hxi⟩ : ∃ a, l[i]? = some a := ⟨_, List.getElem?_eq_getElem hlt⟩
    have hxm := List.mem_of_getElem? hxi
    have hslm := h.sl.keepE (hx2.trans hx)
    obtain ⟨q, e1, e2, ow⟩ := hslm.at_uw (k := .i64) hxi
    rw [e1, onS_some, e2, onS_some]
    refine onM_push fun m22 hn22 hg22 hk22 => ?_
    refine on2_storeV ty_57 hg22 rfl rfl (Un.c_one ow) fun m23 hn23 hg23 hk23 => ?_
    have hx23 : Ext mm m23 := ⟨by omega, fun b hb => by rw [hk23 b (by omega), hk22 b hb]⟩
    have g23 : m23.get mm.n = .cells (x.u.c x.w) 57 none := hg23
    have hmx := (hx2.trans hx).trans hx23
    refine jn_of (fun vs m' lo => ∃ bad, vs = [.bool bad] ∧ m23 = m' ∧ m.n ≤ lo ∧ (bad = true → ¬ FabP (us' l)) ∧ (bad = false → unB x.u = true ∧ ∀ a, 0 < i → l[i - 1]? = some a → a.u.id < x.u.id)) (fun R hR => ?_) ?_
    · rw [load_un g23, onS_some]
      refine onC_of (uvalid_ok hX ((h.sh x hxm).keepE hmx) (by have := h.ln x hxm; omega)) ?_
      rw [un_not, onS_some, ifV_bool]
      refine ifB_intro (fun hb => ?_) (fun hb => ?_)
      · exact hR _ _ _ ⟨true, rfl, rfl, by omega, fun _ => val_no hxm (by simpa using hb), fun h => by cases h⟩
      have hb : unB x.u = true := by simpa using hb
      rw [bin_gtr, onS_some, ifV_bool]
      refine ifB_intro (fun hp => ?_) (fun hp => ?_)
      · have hp : 0 < i := by simpa using hp
        obtain ⟨a, ha⟩ : ∃ a, l[i - 1]? = some a := ⟨_, List.getElem?_eq_getElem (by omega)⟩
        obtain ⟨l0, -⟩ := unf g23
        obtain ⟨q, q0, f1, f2, f3⟩ := uw_id (h.sl.keepE hmx) ha
        rw [fieldAddr_57_0, onS_some, l0, onS_some, onS_some, ldF m23 (hx.trans hx23), onS_some, bin_sub, onS_some, wrap64 (by omega) (by omega), show ((i : Int) - 1) = ((i - 1 : Nat) : Int) by omega, f1, onS_some, f2, onS_some, f3, onS_some, bin_leq, onS_some]
        refine hR _ _ _ ⟨_, rfl, rfl, by omega, fun hh => ?_, fun hh => ⟨hb, fun a' _ ha' => ?_⟩⟩
        · have hh : x.u.id ≤ a.u.id := by simpa using hh
          exact asc_no ha (by rw [Nat.sub_add_cancel hp]; exact hxi) hh
        · rw [ha] at ha'; cases ha'
          have hh : ¬ x.u.id ≤ a.u.id := by simpa using hh
          omega
      · have hp : ¬ 0 < i := by simpa using hp
        exact hR _ _ _ ⟨false, rfl, rfl, by omega, fun h => (by cases h), fun _ => ⟨hb, fun a h => absurd h hp⟩⟩
    rintro _ _ lo' ⟨bad, rfl, rfl, hlo', hbad, hgood⟩
    rw [un_cons, ifV_bool]
    refine ifB_intro (fun hb => ?_) (fun hb => ?_)
    · exact hno m23 lo' (hx.trans hx23) hlo' (hbad hb)
    · obtain ⟨h1, h2⟩ := hgood hb
      rw [bin_add, onS_some, wrap64 (by omega) (by omega)]
      refine ⟨i + 1, by omega, rfl, by omega, hx.trans hx23, hlo', fun j y hj hy => ?_, fun j a b hj ha hb' => ?_⟩
      · by_cases e : j = i
        · subst e; rw [hxi] at hy; cases hy; exact h1
        · exact hval j y (by omega) hy
      · by_cases e : j + 1 = i
        · subst e; rw [hxi] at hb'; cases hb'; exact h2 a (by omega) (by simpa using ha)
        · exact hasc j a b (by omega) ha hb'
  have hi' : i = l.length := by
    have : ¬ (i : Int) < (l.length : Int) := by simpa using hge
    omega
  subst hi'
  have g1m := hx.cells g1
  rw [load_31, loadCells_of g1m (by simp)]
  show onS (some (Value.agg #[v])) _
  rw [onS_some]
  obtain ⟨m52, hc52, hx52, hn52, hg52⟩ := pairs_ok (m := mm) hX h.sl.cells
  refine onC_of hc52 ?_
  rw [onFn_func]
  have hxm52 := (hx2.trans hx).trans hx52
  have gr : m52.get m1.n = .cells [.bool false] 4 none := hx52.cells (hx.cells hg2)
  refine ⟨_, pairsV l, _, fun k m' => m52.n ≤ m'.n ∧ (∀ c, c < m52.n → m'.get c = m52.get c) ∧ ∀ k' p, k' < k → (pairsU l)[k']? = some p → overU p.1.u p.2.u = false,
    fun e m' => e = .ret ∧ m'.get m1.n = .cells [.bool false] 4 none ∧ ¬ FabP (us' l), m.n, ⟨_, rfl⟩, pairs_gen hX (v := v) (b := mm.n) hlen, by omega, ?_, ?_, ?_, ⟨Nat.le_refl _, fun _ _ => rfl, fun k' p hk => by omega⟩, ?_, ?_, ?_⟩
  · rintro k m' ⟨h1, h2, h3⟩
    have he : Ext m52 m' := ⟨h1, h2⟩
    exact ⟨by rw [h2 _ (by omega), hg52], (h.keepE hxm52).keepE he⟩
  · rintro k m' m'' ⟨h1, h2, h3⟩ hk
    exact ⟨by have := hk.n; omega, fun c hc => by rw [hk.get c (by omega) (by omega), h2 c hc], h3⟩
  · rintro e m' m'' ⟨h1, h2, h3⟩ hk
    have := M.lt_of_get h2
    exact ⟨h1, by rw [hk.get _ this (by omega), h2], h3⟩
  · rintro k args m55 hn55 hxk ⟨h1, h2, h3⟩
    obtain ⟨⟨a, b⟩, hp, rfl⟩ := pairs_at hxk
    obtain ⟨ha, hb, i', j', hij, hai, hbj⟩ := pairsU_mem (List.mem_of_getElem? hp)
    have he55 : Ext m52 m55 := ⟨h1, h2⟩
    have hF := (h.keepE hxm52).keepE he55
    have oa : one a.w = true := (hF.sh a ha).one
    have ob : one b.w = true := (hF.sh b hb).one
    rw [un_cons, un_cons]
    show unE [] _
    unfold unE
    refine onM_push fun m61 hn61 hg61 hk61 => ?_
    refine on2_storeV ty_57 hg61 rfl rfl (Un.c_one oa) fun m62 hn62 hg62 hk62 => ?_
    refine onM_push fun m64 hn64 hg64 hk64 => ?_
    refine on2_storeV ty_57 hg64 rfl rfl (Un.c_one ob) fun m65 hn65 hg65 hk65 => ?_
    have old : ∀ c, c < m55.n → m65.get c = m55.get c := fun c hc => by rw [hk65 c (by omega), hk64 c (by omega), hk62 c (by omega), hk61 c hc]
    refine ⟨fun c _ hc => old c hc, fun m67 hn67 hk67 => ?_⟩
    dsimp only
    have r1 : m67.get m55.n = .cells (a.u.c a.w) 57 none := by rw [hk67 _ (by omega), hk65 _ (by omega), hk64 _ (by omega), hg62]; rfl
    have r2 : m67.get m62.n = .cells (b.u.c b.w) 57 none := by rw [hk67 _ (by omega), hg65]; rfl
    have o67 : ∀ c, c < m52.n → m67.get c = m52.get c := fun c hc => by rw [hk67 c (by omega), old c (by omega), h2 c hc]
    have he67 : Ext m52 m67 := ⟨by omega, o67⟩
    have hF67 := (h.keepE hxm52).keepE he67
    rw [load_un r1, onS_some, load_un r2, onS_some]
    refine onC_of (uoverlap_ok hX (hF67.sh a ha) (hF67.sh b hb) (by have := h.ln a ha; omega) (by have := h.ln b hb; omega)) ?_
    rw [ifV_bool]
    refine ifB_intro (fun ho => ?_) (fun ho => ?_)
    · refine on2_storeV ty_4 (he67.cells gr) rfl rfl rfl fun m73 hn73 hg73 hk73 => ?_
      exact ⟨by omega, fun c h1c h2c _ => hk73 c (by omega), rfl, hg73, apart_no hij hai hbj ho⟩
    · refine ⟨by omega, fun c _ _ _ => rfl, by omega, o67, fun k' p hk' hp' => ?_⟩
      by_cases e : k' = k
      · subst e; rw [hp] at hp'; cases hp'; exact ho
      · exact h3 k' p (by omega) hp'
  · rintro m' lo2 ⟨h1, h2, h3⟩ hlo2
    have gr' : m'.get m1.n = .cells [.bool false] 4 none := by rw [h2 _ (by omega)]; exact gr
    refine on2_storeV ty_4 gr' rfl rfl rfl fun m77 hn77 hg77 hk77 => ?_
    rw [load_4, cellAt_of hg77]
    show onS (some (Value.bool true)) _
    rw [onS_some]
    refine ⟨?_, by omega⟩
    rw [fabB_true]
    · rfl
    refine ⟨by rw [us_len]; omega, fun u hu => ?_, fun i a b ha hb => ?_, fun i k a b hik ha hb => ?_⟩
    · obtain ⟨x, hx, rfl⟩ := us_mem hu
      obtain ⟨j, hj⟩ := List.getElem?_of_mem hx
      exact hval j x (List.getElem?_eq_some_iff.1 hj).1 hj
    · obtain ⟨x, hx, rfl⟩ := us_get ha
      obtain ⟨y, hy, rfl⟩ := us_get hb
      exact hasc i x y (List.getElem?_eq_some_iff.1 hy).1 hx hy
    · obtain ⟨x, hx, rfl⟩ := us_get ha
      obtain ⟨y, hy, rfl⟩ := us_get hb
      have := pairsU_of i k x y hik hx hy
      obtain ⟨k', hk'⟩ := List.getElem?_of_mem this
      have hkl := (List.getElem?_eq_some_iff.1 hk').1
      exact h3 k' (x, y) (by rw [pairsV_eq, List.length_map]; exact hkl) hk'
  · rintro e m' lo2 hne ⟨rfl, h2, h3⟩ hlo2
    refine ⟨_, List.mem_singleton.2 rfl, rfl, ?_⟩
    dsimp only
    rw [load_4, cellAt_of h2]
    show onS (some (Value.bool false)) _
    rw [onS_some, fabB_false h3]
    exact ⟨rfl, by omega⟩
set_option maxRecDepth 100000 in
theorem rfvalid_ok (hX : NoX X) {l : List UW} {v : Value} (h : FabV m l v) (hlen : l.length < 1000000) : C X (.func 49) [.agg #[v]] m m.n (.bool (fabB (us' l))) m := by
  refine Cl.flat (hX.no _ rfl) fn_49 rfl rfl ?_
  rw [F49]; dsimp only [plainW]
  refine onM_push fun m1 hn1 hg1 hk1 => ?_
  have hx1 : Ext m m1 := ⟨by omega, hk1⟩
  have g1 : m1.get m.n = .cells [v] 31 none := hg1
  have ldF : load? Tab.env m1 29 (.pointer (some ⟨m.n, 0 + 0, none⟩)) = some v := by rw [load_29, cellAt_of g1]; rfl
  have h1 := h.keepE hx1
  unfold ptrTo
  rw [fieldAddr_31_0, onS_some, ldF, onS_some, h1.sl.len slt_uw, on2_some, bin_gtr, onS_some, ifV_bool]
  refine ifB_intro (fun hgt => ?_) (fun hle => ?_)
  · have hgt : (12 : Int) < l.length := by simpa using hgt
    refine ⟨?_, Nat.le_refl _⟩
    rw [fabB_false fun hf => by have := hf.len; rw [us_len] at this; omega]; rfl
  have hle : ¬ (12 : Int) < l.length := by simpa using hle
  have hno : ∀ (lo : Nat), m.n ≤ lo → ¬ FabP (us' l) → mkres [Value.bool false] = .bool (fabB (us' l)) ∧ m.n ≤ lo := fun lo hlo hn => ⟨by rw [fabB_false hn]; rfl, hlo⟩
  refine Lp.intro (γ := Nat) (fun i => l.length - i) (fun i vs mm lo => vs = [.bool false, .int .i64 i] ∧ i ≤ l.length ∧ m1 = mm ∧ m.n ≤ lo ∧ (∀ j x, j < i → l[j]? = some x → unB x.u = true) ∧ (∀ j a b, j + 1 < i → l[j]? = some a → l[j + 1]? = some b → a.u.id < b.u.id) ∧ (∀ j k a b, k < i → j < k → l[j]? = some a → l[k]? = some b → overU a.u b.u = false)) 0
    ⟨rfl, Nat.zero_le _, rfl, Nat.le_refl _, fun j x hj => by omega, fun j a b hj => by omega, fun j k a b hk => by omega⟩ ?_
  rintro i vs mm lo ⟨rfl, hi, rfl, hlo, hval, hasc, hap⟩
  rw [un_cons, un_cons, onS_some, ldF, onS_some, h1.sl.len slt_uw, on2_some, bin_lss, onS_some, ifV_bool]
  refine ifB_intro (fun hlt => ?_) (fun hge => ?_)
  · have hlt : i < l.length := by simpa using hlt
    obtain ⟨x, hxi⟩ : ∃ a, l[i]? = some a := ⟨_, List.getElem?_eq_getElem hlt⟩
    have hxm := List.mem_of_getElem? hxi
    obtain ⟨q, e1, e2, ow⟩ := h1.sl.at_uw (k := .i64) hxi
    refine jn_of (fun vs m' lo => ∃ bad, vs = [.bool bad] ∧ m1 = m' ∧ m.n ≤ lo ∧ (bad = true → ¬ FabP (us' l)) ∧ (bad = false → unB x.u = true ∧ ∀ a, 0 < i → l[i - 1]? = some a → a.u.id < x.u.id)) (fun R hR => ?_) ?_
    · rw [onS_some, ldF, onS_some, e1, onS_some, e2, onS_some]
      refine onC_of (ruvalid_ok hX (u := x.u) (w := x.w) (h1.sh x hxm) (by have := h.ln x hxm; omega)) ?_
      rw [un_not, onS_some, ifV_bool]
      refine ifB_intro (fun hb => ?_) (fun hb => ?_)
      · exact hR _ _ _ ⟨true, rfl, rfl, by omega, fun _ => val_no hxm (by simpa using hb), fun h => by cases h⟩
      have hb : unB x.u = true := by simpa using hb
      rw [bin_gtr, onS_some, ifV_bool]
      refine ifB_intro (fun hp => ?_) (fun hp => ?_)
      · have hp : 0 < i := by simpa using hp
        obtain ⟨a, ha⟩ : ∃ a, l[i - 1]? = some a := ⟨_, List.getElem?_eq_getElem (by omega)⟩
        obtain ⟨q, q0, f1, f2, f3⟩ := uw_id h1.sl ha
        obtain ⟨q', q0', f1', f2', f3'⟩ := uw_id h1.sl hxi
        rw [onS_some, ldF, onS_some, f1', onS_some, f2', onS_some, f3', onS_some, onS_some, ldF, onS_some, bin_sub, onS_some, wrap64 (by omega) (by omega), show ((i : Int) - 1) = ((i - 1 : Nat) : Int) by omega, f1, onS_some, f2, onS_some, f3, onS_some, bin_leq, onS_some]
        refine hR _ _ _ ⟨_, rfl, rfl, by omega, fun hh => ?_, fun hh => ⟨hb, fun a' _ ha' => ?_⟩⟩
        · have hh : x.u.id ≤ a.u.id := by simpa using hh
          exact asc_no ha (by rw [Nat.sub_add_cancel hp]; exact hxi) hh
        · rw [ha] at ha'; cases ha'
          have hh : ¬ x.u.id ≤ a.u.id := by simpa using hh
          omega
      · have hp : ¬ 0 < i := by simpa using hp
        exact hR _ _ _ ⟨false, rfl, rfl, by omega, fun h => (by cases h), fun _ => ⟨hb, fun a h => absurd h hp⟩⟩
    rintro _ _ lo' ⟨bad, rfl, rfl, hlo', hbad, hgood⟩
    rw [un_cons, ifV_bool]
    refine ifB_intro (fun hb => hno lo' hlo' (hbad hb)) (fun hb => ?_)
    obtain ⟨h1', h2'⟩ := hgood hb
    refine Lp.intro (γ := Nat) (fun k => i - k) (fun k vs mm lo => vs = [.bool false, .int .i64 k] ∧ k ≤ i ∧ m1 = mm ∧ m.n ≤ lo ∧ ∀ j a, j < k → l[j]? = some a → overU a.u x.u = false) 0 ⟨rfl, Nat.zero_le _, rfl, hlo', fun j a hj => by omega⟩ ?_
    rintro k vs mm lo2 ⟨rfl, hk, rfl, hlo2, hov⟩
    rw [un_cons, un_cons, bin_lss, onS_some, ifV_bool]
    refine ifB_intro (fun hlt2 => ?_) (fun hge2 => ?_)
    · have hlt2 : k < i := by simpa using hlt2
      obtain ⟨y, hyk⟩ : ∃ a, l[k]? = some a := ⟨_, List.getElem?_eq_getElem (by omega)⟩
      have hym := List.mem_of_getElem? hyk
      obtain ⟨q', e1', e2', _⟩ := h1.sl.at_uw (k := .i64) hyk
      rw [onS_some, ldF, onS_some, e1, onS_some, e2, onS_some, onS_some, ldF, onS_some, e1', onS_some, e2', onS_some]
      refine onC_of (ruoverlap_ok hX (a := x.u) (va := x.w) (b := y.u) (vb := y.w) (h1.sh x hxm) (h1.sh y hym) (by have := h.ln x hxm; omega) (by have := h.ln y hym; omega)) ?_
      rw [ifV_bool]
      refine ifB_intro (fun ho => ?_) (fun ho => ?_)
      · exact hno _ (by omega) (apart_no hlt2 hyk hxi (by rw [overU_comm]; exact ho))
      · rw [bin_add, onS_some, wrap64 (by omega) (by omega)]
        refine ⟨k + 1, by omega, rfl, by omega, rfl, by omega, fun j a hj ha => ?_⟩
        by_cases e : j = k
        · subst e; rw [hyk] at ha; cases ha; rw [overU_comm]; exact ho
        · exact hov j a (by omega) ha
    · have hk' : k = i := by
        have : ¬ (k : Int) < (i : Int) := by simpa using hge2
        omega
      subst hk'
      rw [bin_add, onS_some, wrap64 (by omega) (by omega)]
      refine ⟨k + 1, by omega, rfl, by omega, rfl, hlo2, fun j y hj hy => ?_, fun j a b hj ha hb' => ?_, fun j k' a b hk' hj ha hb' => ?_⟩
      · by_cases e : j = k
        · subst e; rw [hxi] at hy; cases hy; exact h1'
        · exact hval j y (by omega) hy
      · by_cases e : j + 1 = k
        · subst e; rw [hxi] at hb'; cases hb'; exact h2' a (by omega) (by simpa using ha)
        · exact hasc j a b (by omega) ha hb'
      · by_cases e : k' = k
        · subst e; rw [hxi] at hb'; cases hb'; exact hov j a hj ha
        · exact hap j k' a b (by omega) hj ha hb'
  · have hi' : i = l.length := by
      have : ¬ (i : Int) < (l.length : Int) := by simpa using hge
      omega
    subst hi'
    refine ⟨?_, hlo⟩
    rw [fabB_true]
    · rfl
    refine ⟨by rw [us_len]; omega, fun u hu => ?_, fun i a b ha hb => ?_, fun i k a b hik ha hb => ?_⟩
    · obtain ⟨x, hx, rfl⟩ := us_mem hu
      obtain ⟨j, hj⟩ := List.getElem?_of_mem hx
      exact hval j x (List.getElem?_eq_some_iff.1 hj).1 hj
    · obtain ⟨x, hx, rfl⟩ := us_get ha
      obtain ⟨y, hy, rfl⟩ := us_get hb
      exact hasc i x y (List.getElem?_eq_some_iff.1 hy).1 hx hy
    · obtain ⟨x, hx, rfl⟩ := us_get ha
      obtain ⟨y, hy, rfl⟩ := us_get hb
      exact hap i k x y (List.getElem?_eq_some_iff.1 hy).1 hik hx hy
end Go.Proofs.YtjecgmfildhpiaaGreatDoor

/- putlogref12: pick, copied, Block. -/
namespace Go.Proofs.YtjecgmfildhpiaaGreatDoor
open Go Go.D
variable {X : CallFn} {m : M}
theorem wr_R64 (x : Int) : R64 (IntKind.i64.wrap x) := by
  have h := wr_eq x
  unfold wr at h
  unfold R64
  rw [h]
  split <;> omega
theorem rpick_ok (hX : NoX X) {c n : Int} (hc : R64 c) (hn : 0 < n) : C X (.func 42) [.int .i64 c, .int .i64 n] m m.n (.int .i64 (pickZ c n)) m := by
  refine Cl.flat (hX.no _ rfl) fn_42 rfl rfl ?_
  rw [F42]; dsimp only [plainW]
  exact pick_form hc hn (P := fun v => mkres [v] = .int .i64 (pickZ c n) ∧ m.n ≤ m.n) ⟨rfl, Nat.le_refl _⟩
/-- putlogref12.copied -/
theorem copied_ok (hX : NoX X) {u : Un} {w : Value} (hw : Sl m u.shape w) (hl : u.shape.length < 1000000) :
    ∃ w' m', C X (.func 45) [u.v w] m m.n (u.v w') m' ∧ Ext m m' ∧ Sl m' u.shape w' := by
  have key : ∃ r m' b, C X (.func 45) [u.v w] m b r m' ∧ b = m.n ∧ ∃ w', r = u.v w' ∧ Ext m m' ∧ Sl m' u.shape w' := by
    refine Cl.heap (R := fun r m' b => b = m.n ∧ ∃ w', r = u.v w' ∧ Ext m m' ∧ Sl m' u.shape w') (hX.no _ rfl) fn_45 rfl ?_
    rw [F45]; dsimp only [plainW]
    refine onM_push fun m1 hn1 hg1 hk1 => ?_
    refine onM_push fun m2 hn2 hg2 hk2 => ?_
    simp only [cells_agg] at hg1
    have hx2 : Ext m m2 := ⟨by omega, fun c hc => by rw [hk2 c (by omega), hk1 c hc]⟩
    have g1 : m2.get m.n = .cells (u.c w) 57 none := by rw [hk2 _ (by omega)]; exact hg1
    unfold ptrTo
    rw [buildSlice_pl0, on2_some]
    have hx4 : Ext m2 (m2.push (.cells [] 64 none)) := Ext.refl.push
    generalize hm4 : m2.push (.cells [] 64 none) = m4 at *
    have hg4 : m4.get m2.n = .cells [] 64 none := by rw [← hm4]; exact M.get_push_new
    have hn4 : m4.n = m2.n + 1 := by rw [← hm4]; rfl
    have g14 := hx4.cells g1
    obtain ⟨-, -, -, l3, -, -⟩ := unf g14
    rw [fieldAddr_57_3, onS_some, l3, onS_some]
    obtain ⟨v7, m8, ha, hs8, hx8, hl8, hfl⟩ : ∃ v' m1, builtin? Tab.env (m4.wl m4.n) .append [45, 45] [.slice (some ⟨m2.n, 0, none⟩) 0 0, w] = some (v', m1) ∧ Sl m1 u.shape v' ∧ Ext m4 m1 ∧ m1.low = m4.n ∧ ∃ a n c, v' = .slice (some a) n c := by
      have hw4 := (hw.keepE hx2).keepE hx4
      by_cases he : u.shape = []
      · rw [he] at hw4 ⊢
        obtain ⟨a, c, rfl⟩ := hw4.form
        refine ⟨.slice (some ⟨m2.n, 0, none⟩) 0 0, m4.wl m4.n, ?_, .inr ⟨m2.n, 0, 0, [], none, rfl, hg4, by simp, fun i x hi => by simp at hi⟩, ⟨Nat.le_refl _, fun _ _ => rfl⟩, rfl, _, _, _, rfl⟩
        cases a with
        | none => kernel_rfl
        | some a => kernel_rfl
      · obtain ⟨v', m1, h1, h2, h3, h4⟩ := append_copy apt_pl hg4 hw4 he (by omega)
        obtain ⟨a, c, hv⟩ := h2.sl.form
        refine ⟨v', m1, h1, h2.sl, h3, h4, ?_⟩
        rcases h2 with ⟨_, h⟩ | ⟨b, cs, rfl, _⟩
        · exact absurd h he
        · exact ⟨_, _, _, rfl⟩
    rw [ha, on2_some, onS_some]
    have n8 := hx8.n
    have g18 := hx8.cells g14
    have o7 : one v7 = true := hs8.one
    refine on2_store ty_45 g18 (by rw [hs8.cells]; rfl) (by rw [hs8.cells]; simp) (by rw [hs8.cells]; simp [o7]) fun m10 hn10 hg10 hk10 => ?_
    have hg10 : m10.get m.n = .cells (u.c v7) 57 none := by rw [hg10, hs8.cells]; rfl
    rw [load_un hg10, onS_some]
    have g210 : m10.get m1.n = .cells Un.zc 57 none := by rw [hk10 _ (by omega), hx8.get _ (by omega), hx4.get _ (by omega), hg2]
    refine on2_storeV ty_57 g210 rfl rfl (Un.c_one o7) fun m13 hn13 hg13 hk13 => ?_
    have hg13 : m13.get m1.n = .cells (u.c v7) 57 none := hg13
    rw [load_un hg13, onS_some]
    obtain ⟨a, n, c, rfl⟩ := hfl
    refine ⟨.inl ?_, by omega, _, rfl, ⟨by omega, fun b hb => by rw [hk13 b (by omega), hk10 b (by omega), hx8.get b (by omega), hx4.get b (by omega), hx2.get b hb]⟩, ?_⟩
    · show flat2 (u.v (.slice (some a) n c)) = false
      simp [flat2, flat1, flat0]
    · refine hs8.keep fun b cs t g hb ht => ?_
      have hne1 : b ≠ m.n := by
        rintro rfl
        rw [g18] at hb; cases hb
        revert ht
        decide
      have hne2 : b ≠ m1.n := by
        rintro rfl
        rw [hx8.get _ (by omega), hx4.get _ (by omega), hg2] at hb; cases hb
        revert ht
        decide
      rw [hk13 b hne2, hk10 b hne1, hb]
  obtain ⟨r, m', b, hc, rfl, w', rfl, h1, h2⟩ := key
  exact ⟨w', m', hc, h1, h2⟩
theorem idx6 {b o : Nat} {k : IntKind} {i : Nat} (hi : i < 6) : indexAddr? Tab.env 91 (.pointer (some ⟨b, o, none⟩)) (.int k i) = some (.pointer (some ⟨b, o + i, none⟩)) := by
  rcases (show i = 0 ∨ i = 1 ∨ i = 2 ∨ i = 3 ∨ i = 4 ∨ i = 5 by omega) with rfl | rfl | rfl | rfl | rfl | rfl <;> kernel_rfl
set_option maxRecDepth 100000 in
theorem block_tail (hX : NoX X) {R : List Value → M → Nat → Prop} {b6 rc lo0 : Nat} {mm : M} {w : Value} {shp : List Pl} {n i0 i1 i2 i3 i4 i5 : Int} (hb : mm.get b6 = .cells [.int .i64 i0, .int .i64 i1, .int .i64 i2, .int .i64 i3, .int .i64 i4, .int .i64 i5] 91 none)
    (hr : mm.get rc = .cells Un.zc 57 none) (hw : Sl mm shp w) (hn : R64 n) (h5 : R64 i5)
    (hR : ∀ (u : Un) (m' : M) (lo : Nat), u.shape = shp → mm.n = m'.n → m'.get rc = .cells (u.c w) 57 none → (∀ c, c ≠ rc → m'.get c = mm.get c) → min lo0 (min rc mm.n) ≤ lo → R [u.v w] m' lo) :
    (onS (indexAddr? Tab.env 91 (.pointer (some ⟨b6, 0, none⟩)) (.int .i64 5)) fun v323 => (onS (load? Tab.env mm 3 v323) fun v324 => (onC Tab.env X (.func 42) [v324, (.int .i64 4)] mm fun v325 m326 b327 => (onS (bin? Tab.env .eql 3 v325 (.int .i64 3)) fun v328 => (ifV v328
(onS (indexAddr? Tab.env 91 (.pointer (some ⟨b6, 0, none⟩)) (.int .i64 5)) fun v329 => (onS (load? Tab.env m326 3 v329) fun v330 => (onS (bin? Tab.env .quo 3 v330 (.int .i64 4)) fun v331 => (onC Tab.env X (.func 42) [v331, (.int .i64 4)] m326 fun v332 m333 b334 => (onS (bin? Tab.env .add 3 v332 (.int .i64 1)) fun v335 => (onS (indexAddr? Tab.env 91 (.pointer (some ⟨b6, 0, none⟩)) (.int .i64 5)) fun v336 => (onS (load? Tab.env m333 3 v336) fun v337 => (onS (bin? Tab.env .quo 3 v337 (.int .i64 16)) fun v338 => (onC Tab.env X (.func 42) [v338, (.int .i64 4)] m333 fun v339 m340 b341 => (onS (bin? Tab.env .add 3 v335 v339) fun v342 => (onC Tab.env X (.func 42) [(.int .i64 n), (.int .i64 100)] m340 fun v343 m344 b345 => ((M.n m340 ≤ b345) ∧ (onS (indexAddr? Tab.env 91 (.pointer (some ⟨b6, 0, none⟩)) (.int .i64 5)) fun v346 => (onS (load? Tab.env m344 3 v346) fun v347 => (onS (bin? Tab.env .quo 3 v347 (.int .i64 64)) fun v348 => (onC Tab.env X (.func 42) [v348, (.int .i64 8)] m344 fun v349 m350 b351 => ((M.n m344 ≤ b351) ∧ (onS (bin? Tab.env .add 3 (.int .i64 1) v349) fun v352 => (onS (indexAddr? Tab.env 91 (.pointer (some ⟨b6, 0, none⟩)) (.int .i64 5)) fun v353 => (onS (load? Tab.env m350 3 v353) fun v354 => (onS (bin? Tab.env .quo 3 v354 (.int .i64 512)) fun v355 => (onC Tab.env X (.func 42) [v355, (.int .i64 8)] m350 fun v356 m357 b358 => (onS (build? Tab.env 57 [(0, v343), (1, v352), (2, v356), (3, w), (4, v332), (5, v342)]) fun v359 => (on2 (store? Tab.env m357 57 (.pointer (some ⟨rc, 0, none⟩)) v359) fun m360 b361 => (onS (load? Tab.env m360 57 (.pointer (some ⟨rc, 0, none⟩))) fun v362 => (R [v362] m360 (min (min (min (min (min (min (min lo0 b327) b334) b341) b345) b351) b358) b361)))))))))))))))))))))))))))
(onC Tab.env X (.func 42) [(.int .i64 n), (.int .i64 100)] m326 fun v363 m364 b365 => ((M.n m326 ≤ b365) ∧ (onS (indexAddr? Tab.env 91 (.pointer (some ⟨b6, 0, none⟩)) (.int .i64 5)) fun v366 => (onS (load? Tab.env m364 3 v366) fun v367 => (onS (bin? Tab.env .quo 3 v367 (.int .i64 64)) fun v368 => (onC Tab.env X (.func 42) [v368, (.int .i64 8)] m364 fun v369 m370 b371 => ((M.n m364 ≤ b371) ∧ (onS (bin? Tab.env .add 3 (.int .i64 1) v369) fun v372 => (onS (indexAddr? Tab.env 91 (.pointer (some ⟨b6, 0, none⟩)) (.int .i64 5)) fun v373 => (onS (load? Tab.env m370 3 v373) fun v374 => (onS (bin? Tab.env .quo 3 v374 (.int .i64 512)) fun v375 => (onC Tab.env X (.func 42) [v375, (.int .i64 8)] m370 fun v376 m377 b378 => (onS (build? Tab.env 57 [(0, v363), (1, v372), (2, v376), (3, w), (4, (.int .i64 0)), (5, (.int .i64 4))]) fun v379 => (on2 (store? Tab.env m377 57 (.pointer (some ⟨rc, 0, none⟩)) v379) fun m380 b381 => (onS (load? Tab.env m380 57 (.pointer (some ⟨rc, 0, none⟩))) fun v382 => (R [v382] m380 (min (min (min (min (min lo0 b327) b365) b371) b378) b381)))))))))))))))))))))) := by
  have e5 : indexAddr? Tab.env 91 (.pointer (some ⟨b6, 0, none⟩)) (.int .i64 5) = some (.pointer (some ⟨b6, 5, none⟩)) := idx6 (i := 5) (by decide)
  have l5 : load? Tab.env mm 3 (.pointer (some ⟨b6, 5, none⟩)) = some (.int .i64 i5) := by rw [load_3, cellAt_of hb]; rfl
  have ow : one w = true := hw.one
  have bld : ∀ a b c d e : Int, build? Tab.env 57 [(0, .int .i64 a), (1, .int .i64 b), (2, .int .i64 c), (3, w), (4, .int .i64 d), (5, .int .i64 e)] = some (Un.v ⟨a, b, c, shp, d, e⟩ w) := fun a b c d e => by
    have := build_57_0_1_2_3_4_5 (x0 := .int .i64 a) (x1 := .int .i64 b) (x2 := .int .i64 c) (x3 := w) (x4 := .int .i64 d) (x5 := .int .i64 e) rfl rfl rfl (by rw [hw.cells]; rfl) rfl rfl
    rw [this, hw.cells]; rfl
  have fin : ∀ (u : Un) (lo : Nat), u.shape = shp → min lo0 mm.n ≤ lo → on2 (store? Tab.env mm 57 (.pointer (some ⟨rc, 0, none⟩)) (u.v w)) fun m' b => onS (load? Tab.env m' 57 (.pointer (some ⟨rc, 0, none⟩))) fun v => R [v] m' (min lo b) := fun u lo hu hlo => by
    refine on2_storeV ty_57 hr rfl rfl (Un.c_one ow) fun m' hn' hg' hk' => ?_
    have hg' : m'.get rc = .cells (u.c w) 57 none := hg'
    rw [load_un hg', onS_some]
    exact hR u m' _ hu hn'.symm hg' hk' (by omega)
  rw [e5, onS_some, l5, onS_some]
  refine onC_of (rpick_ok hX h5 (by decide)) ?_
  rw [bin_eql, onS_some, ifV_bool]
  refine ifB_intro (fun _ => ?_) (fun _ => ?_)
  · rw [onS_some, l5, onS_some, bin_quo (by decide), onS_some]
    refine onC_of (rpick_ok hX (wr_R64 _) (by decide)) ?_
    rw [bin_add, onS_some, onS_some, l5, onS_some, bin_quo (by decide), onS_some]
    refine onC_of (rpick_ok hX (wr_R64 _) (by decide)) ?_
    rw [bin_add, onS_some]
    refine onC_of (rpick_ok hX hn (by decide)) ⟨Nat.le_refl _, ?_⟩
    rw [onS_some, l5, onS_some, bin_quo (by decide), onS_some]
    refine onC_of (rpick_ok hX (wr_R64 _) (by decide)) ⟨Nat.le_refl _, ?_⟩
    rw [bin_add, onS_some, onS_some, l5, onS_some, bin_quo (by decide), onS_some]
    refine onC_of (rpick_ok hX (wr_R64 _) (by decide)) ?_
    rw [bld, onS_some]
    exact fin _ _ rfl (by omega)
  · refine onC_of (rpick_ok hX hn (by decide)) ⟨Nat.le_refl _, ?_⟩
    rw [onS_some, l5, onS_some, bin_quo (by decide), onS_some]
    refine onC_of (rpick_ok hX (wr_R64 _) (by decide)) ⟨Nat.le_refl _, ?_⟩
    rw [bin_add, onS_some, onS_some, l5, onS_some, bin_quo (by decide), onS_some]
    refine onC_of (rpick_ok hX (wr_R64 _) (by decide)) ?_
    rw [bld, onS_some]
    exact fin _ _ rfl (by omega)
end Go.Proofs.YtjecgmfildhpiaaGreatDoor
