/- putlogref12.Block. putlogref12.Add. putlogref12.Made: a valid fabric. Rows of six integers as an argument. A body, leaf by leaf. What is known of calls, put together; runs of a region, part by part; a call known at one store. slices.Sorted over the keys of a map: what is known of the call beforehand. Calls that a contract makes known: what they come to, said of a store of one's own choice. plane.Valid, plane.Cell and the elevation, known beforehand. What is known of plane.Valid, plane.Cell and the elevation is so. The shelf contracts for strings, laid at this program (printed by the kit tool lay-plain). -/
import Derived.Test.YtjecgmfildhpiaaGreatDoorG12J
import Derived.Test.YtjecgmfildhpiaaGreatDoorG5J
import Derived.Test.YtjecgmfildhpiaaGreatDoorBtJ
import Derived.Test.YtjecgmfildhpiaaGreatDoorG4J
import Derived.Test.YtjecgmfildhpiaaGreatDoorG11J
import Derived.Shelf.Strings.BuilderK
import Derived.Shelf.Strings.OnBuilder
import Derived.Shelf.Strings.Search3
import Derived.Shelf.Strings.Count
import Derived.Shelf.Strings.SplitCore
import Derived.Test.YtjecgmfildhpiaaGreatDoorChecked
/- putlogref12.Block. -/
namespace Go.Proofs.YtjecgmfildhpiaaGreatDoor
open Go Go.D
variable {X : CallFn} {m : M}
theorem store_x {b : Nat} {L : List Pl} {i : Nat} {p : Pl} {g : Option Nat} {x : Int} {P : M → Nat → Prop} (h : m.get b = .cells (plC L) 64 g) (hi : L[i]? = some p)
    (hP : ∀ m1, m1.n = m.n → m1.get b = .cells (plC (L.set i ⟨x, p.y⟩)) 64 g → (∀ c, c ≠ b → m1.get c = m.get c) → P m1 b) : on2 (store? Tab.env m 3 (.pointer (some ⟨b, i * 2 + 0, none⟩)) (.int .i64 x)) P := by
  have hil := (List.getElem?_eq_some_iff.1 hi).1
  have hl := plC_len L
  refine on2_store ty_3 h rfl (by rw [hl]; show i * 2 + 0 + 1 ≤ _; omega) rfl fun m1 h1 h2 h3 => hP m1 h1 ?_ h3
  rw [h2, Nat.add_zero, show i * 2 + (cells (Value.int .i64 x)).length = i * 2 + 1 from rfl]
  have := set_split (cs := plC L) (i := i * 2) (x := Value.int .i64 x) (by rw [hl]; omega)
  rw [show cells (Value.int .i64 x) = [Value.int .i64 x] from rfl, this, plC_setx x hi]
set_option maxRecDepth 100000 in
theorem block_ok (hX : NoX X) {n i0 i1 i2 i3 i4 i5 : Int} (hn : R64 n) (h0 : R64 i0) (h1 : R64 i1) (h2 : R64 i2) (h3 : R64 i3) (h4 : R64 i4) (h5 : R64 i5) :
    ∃ (u : Un) (w : Value) (m' : M), C X (.func 41) [.int .i64 n, .agg #[.int .i64 i0, .int .i64 i1, .int .i64 i2, .int .i64 i3, .int .i64 i4, .int .i64 i5]] m m.n (u.v w) m' ∧ Ext m m' ∧ Sl m' u.shape w ∧ u.shape.length ≤ 4 := by
  have key : ∃ r m' b, C X (.func 41) [.int .i64 n, .agg #[.int .i64 i0, .int .i64 i1, .int .i64 i2, .int .i64 i3, .int .i64 i4, .int .i64 i5]] m b r m' ∧ b = m.n ∧ ∃ (u : Un) (w : Value), r = u.v w ∧ Ext m m' ∧ Sl m' u.shape w ∧ u.shape.length ≤ 4 := by
    refine Cl.heap (R := fun r m' b => b = m.n ∧ ∃ (u : Un) (w : Value), r = u.v w ∧ Ext m m' ∧ Sl m' u.shape w ∧ u.shape.length ≤ 4) (hX.no _ rfl) fn_41 rfl ?_
    rw [F41]; dsimp only [plainW]
    refine onM_push fun m1 hn1 hg1 hk1 => ?_
    refine onM_push fun m2 hn2 hg2 hk2 => ?_
    have hx2 : Ext m m2 := ⟨by omega, fun c hc => by rw [hk2 c (by omega), hk1 c hc]⟩
    have g1 : m2.get m.n = .cells [.int .i64 i0, .int .i64 i1, .int .i64 i2, .int .i64 i3, .int .i64 i4, .int .i64 i5] 91 none := by rw [hk2 _ (by omega)]; exact hg1
    unfold ptrTo
    have ld : ∀ {mm : M} {i : Nat} {x : Int}, Ext m2 mm → [i0, i1, i2, i3, i4, i5][i]? = some x → indexAddr? Tab.env 91 (.pointer (some ⟨m.n, 0, none⟩)) (.int .i64 i) = some (.pointer (some ⟨m.n, i, none⟩)) ∧ load? Tab.env mm 3 (.pointer (some ⟨m.n, i, none⟩)) = some (.int .i64 x) := fun {mm i x} hx hi => by
      have hil := (List.getElem?_eq_some_iff.1 hi).1
      refine ⟨by have := idx6 (b := m.n) (o := 0) (k := .i64) (i := i) hil; rwa [Nat.zero_add] at this, ?_⟩
      have hc : [Value.int .i64 i0, .int .i64 i1, .int .i64 i2, .int .i64 i3, .int .i64 i4, .int .i64 i5][i]? = some (.int .i64 x) := by
        have : ([i0, i1, i2, i3, i4, i5].map (Value.int .i64))[i]? = some (.int .i64 x) := by rw [List.getElem?_map, hi]; rfl
        exact this
      rw [load_3, cellAt_of (hx.cells g1), hc]
    have d0a : indexAddr? Tab.env 91 (.pointer (some ⟨m.n, 0, none⟩)) (.int .i64 0) = some (.pointer (some ⟨m.n, 0, none⟩)) := (@ld m2 0 i0 .refl rfl).1
    have d0b := (@ld m2 0 i0 .refl rfl).2
    have d1a : indexAddr? Tab.env 91 (.pointer (some ⟨m.n, 0, none⟩)) (.int .i64 1) = some (.pointer (some ⟨m.n, 1, none⟩)) := (@ld m2 1 i1 .refl rfl).1
    have d1b := (@ld m2 1 i1 .refl rfl).2
    have d2a : indexAddr? Tab.env 91 (.pointer (some ⟨m.n, 0, none⟩)) (.int .i64 2) = some (.pointer (some ⟨m.n, 2, none⟩)) := (@ld m2 2 i2 .refl rfl).1
    have d2b := (@ld m2 2 i2 .refl rfl).2
    have d3a : indexAddr? Tab.env 91 (.pointer (some ⟨m.n, 0, none⟩)) (.int .i64 3) = some (.pointer (some ⟨m.n, 3, none⟩)) := (@ld m2 3 i3 .refl rfl).1
    have d3b := (@ld m2 3 i3 .refl rfl).2
    rw [d0a, onS_some, d0b, onS_some]
    refine onC_of (rpick_ok hX h0 (by decide)) ?_
    rw [bin_mul, onS_some]
    rw [d1a, onS_some, d1b, onS_some]
    refine onC_of (rpick_ok hX h1 (by decide)) ?_
    rw [bin_mul, onS_some]
    rw [d2a, onS_some, d2b, onS_some]
    refine onC_of (rpick_ok hX h2 (by decide)) ?_
    rw [bin_add, onS_some, bin_mul, onS_some, bin_add, onS_some, min_two, on2_some]
    rw [d3a, onS_some, d3b, onS_some]
    refine onC_of (rpick_ok hX h3 (by decide)) ?_
    rw [bin_add, onS_some, bin_mul, onS_some, bin_add, onS_some]
    generalize IntKind.i64.wrap (4 * pickZ i0 9) = x0
    generalize IntKind.i64.wrap (4 * pickZ i1 6) = y0
    generalize min (IntKind.i64.wrap _) (40 : Int) = x1
    generalize IntKind.i64.wrap (y0 + _) = y1
    have bp : ∀ a b : Int, build? Tab.env 64 [(0, .int .i64 a), (1, .int .i64 b)] = some (Pl.v ⟨a, b⟩) := fun a b => build_64_0_1 rfl rfl
    rw [bp, onS_some, bp, onS_some, bp, onS_some, bp, onS_some]
    obtain ⟨L, hL⟩ : ∃ L : List Pl, L = [⟨x0, y0⟩, ⟨x1, y0⟩, ⟨x1, y1⟩, ⟨x0, y1⟩] := ⟨_, rfl⟩
    have hbs : buildSlice? Tab.env m2 45 4 [(0, Pl.v ⟨x0, y0⟩), (1, Pl.v ⟨x1, y0⟩), (2, Pl.v ⟨x1, y1⟩), (3, Pl.v ⟨x0, y1⟩)] = some (.slice (some ⟨m2.n, 0, none⟩) 4 4, m2.push (.cells (plC L) 64 none)) := by rw [hL]; kernel_rfl
    rw [hbs, on2_some]
    have hx37 : Ext m2 (m2.push (.cells (plC L) 64 none)) := Ext.refl.push
    generalize hm37 : m2.push (.cells (plC L) 64 none) = m37 at *
    have hg37 : m37.get m2.n = .cells (plC L) 64 none := by rw [← hm37]; exact M.get_push_new
    have hn37 : m37.n = m2.n + 1 := by rw [← hm37]; rfl
    have d4a : indexAddr? Tab.env 91 (.pointer (some ⟨m.n, 0, none⟩)) (.int .i64 4) = some (.pointer (some ⟨m.n, 4, none⟩)) := (@ld m37 4 i4 hx37 rfl).1
    have d4b := (@ld m37 4 i4 hx37 rfl).2
    rw [d4a, onS_some, d4b, onS_some]
    refine onC_of (rpick_ok hX h4 (by decide)) ?_
    have gz : m37.get m1.n = .cells Un.zc 57 none := by rw [hx37.get _ (by omega), hg2]
    have hne : m1.n ≠ m2.n := by omega
    have fin : ∀ (mm : M) (lo0 : Nat) (w : Value) (shp : List Pl), (∀ c, c ≠ m2.n → c < m37.n → mm.get c = m37.get c) → m37.n ≤ mm.n → m.n ≤ lo0 → Sl mm shp w → shp.length ≤ 4 → (∃ a n c, w = .slice (some a) n c) → mm.get m.n = .cells [.int .i64 i0, .int .i64 i1, .int .i64 i2, .int .i64 i3, .int .i64 i4, .int .i64 i5] 91 none ∧ mm.get m1.n = .cells Un.zc 57 none ∧
        ∀ (u : Un) (m' : M) (lo : Nat), u.shape = shp → mm.n = m'.n → m'.get m1.n = .cells (u.c w) 57 none → (∀ c, c ≠ m1.n → m'.get c = mm.get c) → min lo0 (min m1.n mm.n) ≤ lo → (flat2 (mkres [u.v w]) = false ∨ lo < m.n) ∧ min m.n lo = m.n ∧ ∃ (u' : Un) (w' : Value), mkres [u.v w] = u'.v w' ∧ Ext m m' ∧ Sl m' u'.shape w' ∧ u'.shape.length ≤ 4 := by
      intro mm lo0 w shp hk hnm hlo hs hl hw
      refine ⟨by rw [hk _ (by omega) (by omega), hx37.get _ (by omega), g1], by rw [hk _ hne (by omega), gz], fun u m' lo hu hnn hg hk' hlo' => ⟨.inl ?_, by omega, u, w, rfl, ⟨by omega, fun c hc => by rw [hk' c (by omega), hk c (by omega) (by omega), hx37.get c (by omega), hx2.get c hc]⟩, ?_, by rw [hu]; exact hl⟩⟩
      · obtain ⟨a, k, c, rfl⟩ := hw
        show flat2 (u.v (.slice (some a) k c)) = false
        simp [flat2, flat1, flat0]
      · rw [hu]
        refine hs.keep fun b cs t g hb ht => ?_
        by_cases e : b = m1.n
        · subst e
          rw [hk _ hne (by omega), gz] at hb
          cases hb
          exact absurd ht (by decide)
        · rw [hk' b e, hb]
    have hsl37 : ∀ {mm : M} {L' : List Pl}, mm.get m2.n = .cells (plC L') 64 none → L'.length = 4 → Sl mm L' (.slice (some ⟨m2.n, 0, none⟩) 4 4) := fun {mm L'} h hl => by
      have := sl_plC (c := 4) h
      rwa [hl] at this
    have hix : ∀ i, i < 4 → indexAddr? Tab.env 45 (.slice (some ⟨m2.n, 0, none⟩) 4 4) (.int .i64 (i : Nat)) = some (.pointer (some ⟨m2.n, i * 2, none⟩)) := fun i hi => idx_pl hi
    have x0' : indexAddr? Tab.env 45 (.slice (some ⟨m2.n, 0, none⟩) 4 4) (.int .i64 0) = some (.pointer (some ⟨m2.n, 0 * 2, none⟩)) := hix 0 (by decide)
    have x1' : indexAddr? Tab.env 45 (.slice (some ⟨m2.n, 0, none⟩) 4 4) (.int .i64 1) = some (.pointer (some ⟨m2.n, 1 * 2, none⟩)) := hix 1 (by decide)
    have x2' : indexAddr? Tab.env 45 (.slice (some ⟨m2.n, 0, none⟩) 4 4) (.int .i64 2) = some (.pointer (some ⟨m2.n, 2 * 2, none⟩)) := hix 2 (by decide)
    have x3' : indexAddr? Tab.env 45 (.slice (some ⟨m2.n, 0, none⟩) 4 4) (.int .i64 3) = some (.pointer (some ⟨m2.n, 3 * 2, none⟩)) := hix 3 (by decide)
    have tail : ∀ (mm : M) (lo0 : Nat) (w : Value) (shp : List Pl), (∀ c, c ≠ m2.n → c < m37.n → mm.get c = m37.get c) → m37.n ≤ mm.n → m.n ≤ lo0 → Sl mm shp w → shp.length ≤ 4 → (∃ a n c, w = .slice (some a) n c) → _ := fun mm lo0 w shp a b c d e f => by
      obtain ⟨f1, f2, f3⟩ := fin mm lo0 w shp a b c d e f
      exact block_tail hX (R := fun vs m' lo => (flat2 (mkres vs) = false ∨ lo < m.n) ∧ min m.n lo = m.n ∧ ∃ (u : Un) (w : Value), mkres vs = u.v w ∧ Ext m m' ∧ Sl m' u.shape w ∧ u.shape.length ≤ 4) (lo0 := lo0) f1 f2 d hn h5 f3
    have ldp : ∀ {mm : M} {L' : List Pl} {i : Nat} {p : Pl}, mm.get m2.n = .cells (plC L') 64 none → L'[i]? = some p → load? Tab.env mm 64 (.pointer (some ⟨m2.n, i * 2, none⟩)) = some p.v := fun {mm L' i p} h hi => by
      have hil := (List.getElem?_eq_some_iff.1 hi).1
      rw [load_64, loadCells_of h (by rw [plC_len]; omega)]
      have := plC_chunk hi
      unfold chunk at this
      rw [this]; rfl
    rw [bin_eql, onS_some, ifV_bool]
    refine ifB_intro (fun _ => ?_) (fun _ => ?_)
    · rw [bin_sub, onS_some, x2', onS_some, fieldAddr_64_0, onS_some]
      refine store_x (L := L) (i := 2) (p := ⟨x1, y1⟩) hg37 (by rw [hL]; rfl) fun m47 hn47 hg47 hk47 => ?_
      rw [bin_add, onS_some, x3', onS_some, fieldAddr_64_0, onS_some]
      refine store_x (i := 3) (p := ⟨x0, y1⟩) hg47 (by rw [hL]; rfl) fun m52 hn52 hg52 hk52 => ?_
      exact tail m52 _ _ _ (fun c h _ => by rw [hk52 c h, hk47 c h]) (by omega) (by omega) (hsl37 hg52 (by rw [hL]; rfl)) (by rw [hL]; exact Nat.le_refl _) ⟨_, _, _, rfl⟩
    rw [bin_eql, onS_some, ifV_bool]
    refine ifB_intro (fun _ => ?_) (fun _ => ?_)
    · rw [bin_add, onS_some, x0', onS_some, fieldAddr_64_0, onS_some]
      refine store_x (L := L) (i := 0) (p := ⟨x0, y0⟩) hg37 (by rw [hL]; rfl) fun m47 hn47 hg47 hk47 => ?_
      rw [bin_sub, onS_some, x1', onS_some, fieldAddr_64_0, onS_some]
      refine store_x (i := 1) (p := ⟨x1, y0⟩) hg47 (by rw [hL]; rfl) fun m52 hn52 hg52 hk52 => ?_
      exact tail m52 _ _ _ (fun c h _ => by rw [hk52 c h, hk47 c h]) (by omega) (by omega) (hsl37 hg52 (by rw [hL]; rfl)) (by rw [hL]; exact Nat.le_refl _) ⟨_, _, _, rfl⟩
    rw [bin_eql, onS_some, ifV_bool]
    have tri : ∀ (p q r : Pl) (lo0 : Nat), m.n ≤ lo0 → ∀ m193 : M, m37.push (.cells (plC [p, q, r]) 64 none) = m193 → Sl m193 [p, q, r] (.slice (some ⟨m37.n, 0, none⟩) 3 3) ∧ (∀ c, c ≠ m2.n → c < m37.n → m193.get c = m37.get c) ∧ m37.n ≤ m193.n := fun p q r lo0 h m193 hm => by
      have hg : m193.get m37.n = .cells (plC [p, q, r]) 64 none := by rw [← hm]; exact M.get_push_new
      refine ⟨sl_plC (l := [p, q, r]) hg, fun c _ hc => by rw [← hm]; exact M.get_push_lt hc, by rw [← hm]; exact Nat.le_succ _⟩
    have bs3 : ∀ p q r : Pl, buildSlice? Tab.env m37 45 3 [(0, p.v), (1, q.v), (2, r.v)] = some (.slice (some ⟨m37.n, 0, none⟩) 3 3, m37.push (.cells (plC [p, q, r]) 64 none)) := fun p q r => by kernel_rfl
    refine ifB_intro (fun _ => ?_) (fun _ => ?_)
    · rw [x0', onS_some, ldp (i := 0) (p := ⟨x0, y0⟩) hg37 (by rw [hL]; rfl), onS_some, x1', onS_some, ldp (i := 1) (p := ⟨x1, y0⟩) hg37 (by rw [hL]; rfl), onS_some, x2', onS_some, ldp (i := 2) (p := ⟨x1, y1⟩) hg37 (by rw [hL]; rfl), onS_some, bs3, on2_some]
      generalize hm : m37.push (.cells (plC [⟨x0, y0⟩, ⟨x1, y0⟩, ⟨x1, y1⟩]) 64 none) = m193
      obtain ⟨s1, s2, s3⟩ := tri _ _ _ m.n (Nat.le_refl _) m193 hm
      exact tail m193 _ _ _ s2 s3 (by omega) s1 (by simp) ⟨_, _, _, rfl⟩
    rw [bin_eql, onS_some, ifV_bool]
    refine ifB_intro (fun _ => ?_) (fun _ => ?_)
    · rw [x0', onS_some, ldp (i := 0) (p := ⟨x0, y0⟩) hg37 (by rw [hL]; rfl), onS_some, x2', onS_some, ldp (i := 2) (p := ⟨x1, y1⟩) hg37 (by rw [hL]; rfl), onS_some, x3', onS_some, ldp (i := 3) (p := ⟨x0, y1⟩) hg37 (by rw [hL]; rfl), onS_some, bs3, on2_some]
      generalize hm : m37.push (.cells (plC [⟨x0, y0⟩, ⟨x1, y1⟩, ⟨x0, y1⟩]) 64 none) = m193
      obtain ⟨s1, s2, s3⟩ := tri _ _ _ m.n (Nat.le_refl _) m193 hm
      exact tail m193 _ _ _ s2 s3 (by omega) s1 (by simp) ⟨_, _, _, rfl⟩
    exact tail m37 _ _ _ (fun c _ _ => rfl) (Nat.le_refl _) (by omega) (hsl37 hg37 (by rw [hL]; rfl)) (by rw [hL]; exact Nat.le_refl _) ⟨_, _, _, rfl⟩
  obtain ⟨r, m', b, hc, rfl, u, w, rfl, h1, h2, h3⟩ := key
  exact ⟨u, w, m', hc, h1, h2, h3⟩
end Go.Proofs.YtjecgmfildhpiaaGreatDoor

/- putlogref12.Add. -/
namespace Go.Proofs.YtjecgmfildhpiaaGreatDoor
open Go Go.D
variable {X : CallFn} {m : M}
def insU (u : Un) : List Un → List Un
  | [] => [u]
  | a :: r => if u.id < a.id then u :: a :: r else a :: insU u r
theorem insU_no {u : Un} : ∀ {p q : List Un}, (∀ x ∈ p, ¬ u.id < x.id) → insU u (p ++ q) = p ++ insU u q
  | [], q, _ => rfl
  | a :: p, q, h => by
    rw [List.cons_append, insU, if_neg (h a (by simp)), insU_no fun x hx => h x (by simp [hx])]; rfl
theorem insU_yes {u x : Un} : ∀ {p : List Un}, (∃ y ∈ p, u.id < y.id) → insU u (p ++ [x]) = insU u p ++ [x]
  | [], h => by obtain ⟨y, hy, _⟩ := h; cases hy
  | a :: p, h => by
    rw [List.cons_append, insU, insU]
    by_cases e : u.id < a.id
    · rw [if_pos e, if_pos e]; rfl
    · rw [if_neg e, if_neg e, insU_yes]
      · rfl
      · obtain ⟨y, hy, hlt⟩ := h
        rcases List.mem_cons.1 hy with rfl | hy
        · exact absurd hlt e
        · exact ⟨y, hy, hlt⟩
/-- All but a cell and rows of units is as it was. -/
structure KeU (oc : Nat) (m m1 : M) : Prop where
  n : m.n ≤ m1.n
  lo : ∀ c, c < oc → m1.get c = m.get c
  get : ∀ c, c < m.n → c ≠ oc → (∀ cs g, m.get c ≠ .cells cs 57 g) → m1.get c = m.get c
/-- A list of units that grows in a cell of one's own. -/
structure GrU (oc : Nat) (mm : M) (acc : List UW) (r : Value) : Prop where
  cell : mm.get oc = .cells [r] 31 none
  ow : Ow (oc + 1) mm acc r
  sh : ∀ x ∈ acc, Sl mm x.u.shape x.w
  ln : ∀ x ∈ acc, x.u.shape.length < 1000000
theorem GrU.fab {oc : Nat} {mm : M} {acc : List UW} {r : Value} (h : GrU oc mm acc r) : FabV mm acc r :=
  ⟨h.ow.sl, h.sh, h.ln, by
    rcases h.ow with ⟨_, h⟩ | ⟨b, cs, h1, h2, h3, h4, h5, h6⟩
    · exact .inl h
    · exact .inr ⟨b, 0, _, cs, _, h1, Nat.le_refl _, h4, .inr rfl⟩⟩
theorem GrU.keepE {oc : Nat} {mm m' : M} {acc : List UW} {r : Value} (h : GrU oc mm acc r) (hx : Ext mm m') : GrU oc m' acc r := ⟨hx.cells h.cell, h.ow.keepE hx, fun x hx' => (h.sh x hx').keepE hx, h.ln⟩
theorem ow_addr' {α : Type} [Rep α] {n1 : Nat} {l : List α} {v : Value} (h : Ow n1 m l v) {a : Addr} {n k : Nat} (e : v = .slice (some a) n k) : ∃ cs g, m.get a.block = .cells cs (Rep.ty α) g ∧ n1 ≤ a.block := by
  rcases h with ⟨rfl, _⟩ | ⟨b, cs, rfl, h2, h3, h4, _⟩
  · cases e
  · cases e; exact ⟨_, _, h4, h3⟩
/-- A unit, appended: step by step. -/
theorem push_un {oc : Nat} {mm : M} {acc : List UW} {r w : Value} {u : Un} (h : GrU oc mm acc r) (hw : Sl mm u.shape w) (hl : u.shape.length < 1000000) (hal : acc.length < 1000000) :
    ∃ m81 r' m83 m85, buildSlice? Tab.env mm 29 1 [(0, u.v w)] = some (.slice (some ⟨mm.n, 0, none⟩) 1 1, m81) ∧ builtin? Tab.env (M.wl m81 (M.n m81)) .append [29, 29] [r, .slice (some ⟨mm.n, 0, none⟩) 1 1] = some (r', m83) ∧
      store? Tab.env m83 29 (.pointer (some ⟨oc, 0 + 0, none⟩)) r' = some (m85, oc) ∧ oc + 1 ≤ m83.low ∧ GrU oc m85 (acc ++ [⟨u, w⟩]) r' ∧ KeU oc mm m85 := by
  have hoc := M.lt_of_get h.cell
  have ow' : one w = true := hw.one
  have hx81 : Ext mm (mm.push (.cells (UW.c ⟨u, w⟩) 57 none)) := Ext.refl.push
  refine ⟨mm.push (.cells (UW.c ⟨u, w⟩) 57 none), ?_⟩
  have hb1 : buildSlice? Tab.env mm 29 1 [(0, u.v w)] = some (.slice (some ⟨mm.n, 0, none⟩) 1 1, mm.push (.cells (UW.c ⟨u, w⟩) 57 none)) := one_un' (x := ⟨u, w⟩)
  generalize hm81 : mm.push (.cells (UW.c ⟨u, w⟩) 57 none) = m81 at *
  have hg81 : m81.get mm.n = .cells (UW.c ⟨u, w⟩) 57 none := by rw [← hm81]; exact M.get_push_new
  have n81 : m81.n = mm.n + 1 := by rw [← hm81]; rfl
  have h81 := h.keepE hx81
  obtain ⟨r', m83, ha, ho83, hf83, hl83, hn83⟩ := Ow.append (y := .slice (some ⟨mm.n, 0, none⟩) 1 1) (ys := [(⟨u, w⟩ : UW)]) apt_uw (by simp [Rep.tys]) h81.ow (sl_one_un hg81 ow') (by omega) (by simp; omega)
  have n83 := hf83.n
  have g83 : m83.get oc = .cells [r] 31 none := by rw [hf83.get _ (by omega), h81.cell]
  have hst := store_of (E := Tab.env) (o := 0 + 0) (x := r') ty_29 g83 (by rw [ho83.sl.cells]; rfl) (by rw [ho83.sl.cells]; simp) (by rw [ho83.sl.cells]; simp [ho83.sl.one])
  refine ⟨r', m83, _, hb1, ha, hst, hl83, ?_⟩
  have hset : ∀ c, c ≠ oc → (m83.set oc (.cells (([r] : List Value).take (0 + 0) ++ (cells r' ++ ([r] : List Value).drop (0 + 0 + (cells r').length))) 31 none)).get c = m83.get c := fun c hc => M.get_set_ne hc
  have g85 : (m83.set oc (.cells (([r] : List Value).take (0 + 0) ++ (cells r' ++ ([r] : List Value).drop (0 + 0 + (cells r').length))) 31 none)).get oc = .cells [r'] 31 none := by
    rw [M.get_set_same (M.lt_of_get g83), ho83.sl.cells]; rfl
  have hnset : (m83.set oc (.cells (([r] : List Value).take (0 + 0) ++ (cells r' ++ ([r] : List Value).drop (0 + 0 + (cells r').length))) 31 none)).n = m83.n := rfl
  generalize m83.set oc (.cells (([r] : List Value).take (0 + 0) ++ (cells r' ++ ([r] : List Value).drop (0 + 0 + (cells r').length))) 31 none) = m85 at *
  have keep : ∀ c, c < m81.n → c ≠ oc → (∀ cs g, m81.get c ≠ .cells cs 57 g) → m85.get c = m81.get c := fun c hc hne ht => by
    rw [hset c hne, append_other ha hc fun a n k e he => ?_]
    obtain ⟨cs, g, hg, _⟩ := ow_addr' h81.ow e
    rw [← he] at hg
    exact ht _ _ hg
  have keepS : ∀ (shp : List Pl) (v : Value), Sl m81 shp v → Sl m85 shp v := fun shp v hs => hs.keep fun b cs t g hb ht => by
    have ht : t = 64 := by simpa [Rep.ty, Rep.tys] using ht
    subst ht
    rw [keep b (M.lt_of_get hb) (fun e => by subst e; rw [h81.cell] at hb; cases hb) (fun cs' g' e => by rw [hb] at e; cases e), hb]
  refine ⟨⟨g85, ho83.keep fun b c t g hb ht => ?_, fun x hx => ?_, fun x hx => ?_⟩, ⟨by omega, fun c hc => ?_, fun c hc hne ht => ?_⟩⟩
  · have ht : t = 57 := by simpa [Rep.ty, Rep.tys] using ht
    rw [hset b (fun e => by subst e; rw [g83] at hb; cases hb; exact absurd ht (by decide)), hb]
  · rcases List.mem_append.1 hx with hx | hx
    · exact keepS _ _ (h81.sh x hx)
    · rw [List.mem_singleton] at hx
      subst hx
      exact keepS _ _ (hw.keepE hx81)
  · rcases List.mem_append.1 hx with hx | hx
    · exact h.ln x hx
    · rw [List.mem_singleton] at hx
      subst hx
      exact hl
  · rw [hset c (by omega), hf83.get c (by omega), hx81.get c (by omega)]
  · rw [keep c (by omega) hne (fun cs g e => ht cs g (by rw [← e, hx81.get c (by omega)])), hx81.get c (by omega)]
/-- A copy of a unit, appended. -/
theorem push_copy (hX : NoX X) {oc : Nat} {mm : M} {acc : List UW} {r w : Value} {u : Un} (h : GrU oc mm acc r) (hw : Sl mm u.shape w) (hl : u.shape.length < 1000000) (hal : acc.length < 1000000) :
    ∃ w' m78 m81 r' m83 m85, C X (.func 45) [u.v w] mm mm.n (u.v w') m78 ∧ buildSlice? Tab.env m78 29 1 [(0, u.v w')] = some (.slice (some ⟨m78.n, 0, none⟩) 1 1, m81) ∧
      builtin? Tab.env (M.wl m81 (M.n m81)) .append [29, 29] [r, .slice (some ⟨m78.n, 0, none⟩) 1 1] = some (r', m83) ∧
      store? Tab.env m83 29 (.pointer (some ⟨oc, 0 + 0, none⟩)) r' = some (m85, oc) ∧ oc + 1 ≤ m83.low ∧ GrU oc m85 (acc ++ [⟨u, w'⟩]) r' ∧ KeU oc mm m85 := by
  have hoc := M.lt_of_get h.cell
  obtain ⟨w', m78, hc, hx78, hs78⟩ := copied_ok hX hw hl
  have n78 := hx78.n
  obtain ⟨m81, r', m83, m85, h1, h2, h3, h4, h5, h6⟩ := push_un (h.keepE hx78) hs78 hl hal
  exact ⟨w', m78, m81, r', m83, m85, hc, h1, h2, h3, h4, h5, ⟨by have := h6.n; omega, fun c hc => by rw [h6.lo c hc, hx78.get c (by omega)], fun c hc hne ht => by rw [h6.get c (by omega) hne (fun cs g e => ht cs g (by rw [← e, hx78.get c hc])), hx78.get c hc]⟩⟩
open Classical in
/-- What putlogref12.Add returns. -/
def AddR (l : List UW) (u : Un) (m' : M) (rv : Value) : Prop :=
  if fabB (us' l) = true ∧ fabB (insU u (us' l)) = true then ∃ l' r, rv = .tuple #[.agg #[r], .int .i64 0] ∧ us' l' = insU u (us' l) ∧ FabV m' l' r else rv = .tuple #[.agg #[.slice none 0 0], .int .i64 120]
theorem AddR.no {l : List UW} {u : Un} {m' : M} (h : ¬ (fabB (us' l) = true ∧ fabB (insU u (us' l)) = true)) : AddR l u m' (.tuple #[.agg #[.slice none 0 0], .int .i64 120]) := by unfold AddR; rw [if_neg h]
theorem AddR.yes {l l' : List UW} {u : Un} {m' : M} {r : Value} (h1 : fabB (us' l) = true) (h2 : fabB (insU u (us' l)) = true) (h3 : us' l' = insU u (us' l)) (h4 : FabV m' l' r) : AddR l u m' (.tuple #[.agg #[r], .int .i64 0]) := by unfold AddR; rw [if_pos ⟨h1, h2⟩]; exact ⟨l', r, rfl, h3, h4⟩
theorem insU_ne (u : Un) (l : List Un) : insU u l ≠ [] := by
  cases l with
  | nil => simp [insU]
  | cons a r => rw [insU]; split <;> simp
set_option maxRecDepth 100000 in
theorem add_ok (hX : NoX X) {l : List UW} {v w : Value} {u : Un} (h : FabV m l v) (hlen : l.length < 1000) (hw : Sl m u.shape w) (hul : u.shape.length < 1000000) :
    ∃ rv m', C X (.func 40) [.agg #[v], u.v w] m m.n rv m' ∧ Ext m m' ∧ AddR l u m' rv := by
  have key : ∃ rv m' b, C X (.func 40) [.agg #[v], u.v w] m b rv m' ∧ b = m.n ∧ Ext m m' ∧ AddR l u m' rv := by
    refine Cl.gen (R := fun rv m' b => b = m.n ∧ Ext m m' ∧ AddR l u m' rv) (hX.no _ rfl) fn_40 rfl ?_
    rw [F40]; dsimp only [plainW]
    refine onM_push fun m1 hn1 hg1 hk1 => ?_
    refine onM_push fun m2 hn2 hg2 hk2 => ?_
    refine onM_push fun m3 hn3 hg3 hk3 => ?_
    simp only [cells_agg] at hg1 hg2
    have hx3 : Ext m m3 := ⟨by omega, fun c hc => by rw [hk3 c (by omega), hk2 c (by omega), hk1 c hc]⟩
    have g1 : m3.get m.n = .cells [v] 31 none := by rw [hk3 _ (by omega), hk2 _ (by omega)]; exact hg1
    have g2 : m3.get m1.n = .cells (u.c w) 57 none := by rw [hk3 _ (by omega)]; exact hg2
    unfold ptrTo
    rw [load_31, loadCells_of g1 (by simp)]
    show onS (some (Value.agg #[v])) _
    rw [onS_some]
    refine onC_of (rfvalid_ok hX (h.keepE hx3) (by omega)) ?_
    rw [un_not, onS_some, ifV_bool]
    have hfail : ∀ (mm : M) (lo : Nat), (∀ c, c < m3.n → mm.get c = m3.get c) → ¬ (fabB (us' l) = true ∧ fabB (insU u (us' l)) = true) → m.n ≤ lo →
        on2 (store? Tab.env mm 31 (.pointer (some ⟨m2.n, 0, none⟩)) (.agg #[.slice none 0 0])) fun m10 b11 => onS (load? Tab.env m10 31 (.pointer (some ⟨m2.n, 0, none⟩))) fun v12 =>
          (flat2 (mkres [v12, .int .i64 120]) = true ∧ m.n ≤ min lo b11 ∧ m.n = m.n ∧ Ext m m ∧ AddR l u m (mkres [v12, .int .i64 120])) ∨
          ((flat2 (mkres [v12, .int .i64 120]) = false ∨ min lo b11 < m.n) ∧ min m.n (min lo b11) = m.n ∧ Ext m m10 ∧ AddR l u m10 (mkres [v12, .int .i64 120])) := by
      intro mm lo hk hno hlo
      have g3 : mm.get m2.n = .cells [.slice none 0 0] 31 none := by rw [hk _ (by omega), hg3]
      refine on2_storeV ty_31 g3 rfl rfl rfl fun m10 hn10 hg10 hk10 => ?_
      have hg10 : m10.get m2.n = .cells [.slice none 0 0] 31 none := hg10
      rw [load_31, loadCells_of hg10 (by simp)]
      show onS (some (Value.agg #[.slice none 0 0])) _
      rw [onS_some]
      exact .inl ⟨rfl, by omega, rfl, .refl, .no hno⟩
    have bld : build? Tab.env 31 [] = some (.agg #[.slice none 0 0]) := build_31_
    refine ifB_intro (fun hb => ?_) (fun hb => ?_)
    · have hb : fabB (us' l) = false := by simpa using hb
      rw [bld, onS_some]
      exact hfail m3 (min m.n m3.n) (fun _ _ => rfl) (fun hh => by rw [hb] at hh; exact absurd hh.1 (by decide)) (by omega)
    have hfl : fabB (us' l) = true := by simpa using hb
    refine onM_push fun m13 hn13 hg13 hk13 => ?_
    obtain ⟨oc, hoc⟩ : ∃ oc, oc = m3.n := ⟨_, rfl⟩
    rw [← hoc] at hg13 ⊢
    have hx13 : Ext m3 m13 := ⟨by omega, fun c hc => hk13 c hc⟩
    refine Lp.intro (γ := Nat) (fun i => l.length - i) (fun i vs mm lo => ∃ (done : Bool) (acc : List UW) (r : Value), vs = [.bool done, .int .i64 i] ∧ i ≤ l.length ∧ GrU oc mm acc r ∧ (∀ c, c < oc → mm.get c = m3.get c) ∧ m.n ≤ lo ∧ m13.n ≤ mm.n ∧
      (done = false → us' acc = (us' l).take i ∧ ∀ x ∈ (us' l).take i, ¬ u.id < x.id) ∧ (done = true → us' acc = insU u ((us' l).take i) ∧ ∃ x ∈ (us' l).take i, u.id < x.id) ∧ acc.length ≤ i + 1) 0
      ⟨false, [], _, rfl, Nat.zero_le _, ⟨hg13, .nil, fun x hx => (by cases hx), fun x hx => (by cases hx)⟩, fun c hc => hk13 c (by omega), by omega, Nat.le_refl _, fun _ => ⟨rfl, fun x hx => (by simp at hx)⟩, fun h => (by cases h), Nat.zero_le _⟩ ?_
    rintro i vs mm lo1 ⟨done, acc, r, rfl, hi, hgr, hk, hlo, hnm, hd0, hd1, hal⟩
    have gf : mm.get m.n = .cells [v] 31 none := by rw [hk _ (by omega), g1]
    have gu : mm.get m1.n = .cells (u.c w) 57 none := by rw [hk _ (by omega), g2]
    have hxm : Ext m mm := ⟨by omega, fun c hc => by rw [hk c (by omega), hx3.get c hc]⟩
    have hF := h.keepE hxm
    have ldF : ∀ m' : M, m'.get m.n = .cells [v] 31 none → load? Tab.env m' 29 (.pointer (some ⟨m.n, 0 + 0, none⟩)) = some v := fun m' h => by rw [load_29, cellAt_of h]; rfl
    have ldO : ∀ (m' : M) acc r, GrU oc m' acc r → load? Tab.env m' 29 (.pointer (some ⟨oc, 0 + 0, none⟩)) = some r := fun m' acc r h => by rw [load_29, cellAt_of h.cell]; rfl
    rw [un_cons, un_cons, fieldAddr_31_0, onS_some, ldF mm gf, onS_some, hF.sl.len slt_uw, on2_some, bin_lss, onS_some, ifV_bool]
    refine ifB_intro (fun hlt => ?_) (fun hge => ?_)
    · have hlt : i < l.length := by simpa using hlt
      obtain ⟨x, hx⟩ : ∃ x, l[i]? = some x := ⟨_, List.getElem?_eq_getElem hlt⟩
      have hxm' := List.mem_of_getElem? hx
      have htk : (us' l).take (i + 1) = (us' l).take i ++ [x.u] := by rw [List.take_add_one, us_at hx]; rfl
      refine jn_of (fun vs m' lo => vs = [.bool (!done && decide (u.id < x.u.id))] ∧ mm = m' ∧ lo1 = lo) (fun R hR => ?_) ?_
      · rw [un_not, onS_some, ifV_bool]
        refine ifB_intro (fun h1 => ?_) (fun h1 => ?_)
        · obtain ⟨q, q0, f1, f2, f3⟩ := uw_id hF.sl hx
          obtain ⟨l0, -⟩ := unf gu
          rw [onS_some, ldF mm gf, onS_some, f1, onS_some, f2, onS_some, f3, onS_some, fieldAddr_57_0, onS_some, l0, onS_some, bin_gtr, onS_some]
          exact hR _ _ _ ⟨by rw [h1, Bool.true_and], rfl, rfl⟩
        · exact hR _ _ _ ⟨by rw [h1, Bool.false_and], rfl, rfl⟩
      rintro _ _ _ ⟨rfl, rfl, rfl⟩
      rw [un_cons, ifV_bool]
      -- one more unit of the list
      have step : ∀ (m' : M) (acc' : List UW) (r' : Value), GrU oc m' acc' r' → (∀ c, c < oc → m'.get c = m3.get c) → m13.n ≤ m'.n → acc'.length < 100000 →
          ∃ q w' m78 m81 r'' m83 m85, indexAddr? Tab.env 29 v (.int .i64 i) = some q ∧ load? Tab.env m' 57 q = some x.v ∧ C X (.func 45) [x.v] m' m'.n (x.u.v w') m78 ∧ buildSlice? Tab.env m78 29 1 [(0, x.u.v w')] = some (.slice (some ⟨m78.n, 0, none⟩) 1 1, m81) ∧
            builtin? Tab.env (M.wl m81 (M.n m81)) .append [29, 29] [r', .slice (some ⟨m78.n, 0, none⟩) 1 1] = some (r'', m83) ∧
            store? Tab.env m83 29 (.pointer (some ⟨oc, 0 + 0, none⟩)) r'' = some (m85, oc) ∧ oc + 1 ≤ m83.low ∧ GrU oc m85 (acc' ++ [⟨x.u, w'⟩]) r'' ∧ (∀ c, c < oc → m85.get c = m3.get c) ∧ m13.n ≤ m85.n := by
        intro m' acc' r' hg hk' hn' hal'
        have hxm2 : Ext m m' := ⟨by omega, fun c hc => by rw [hk' c (by omega), hx3.get c hc]⟩
        obtain ⟨q, q1, q2, _⟩ := (h.keepE hxm2).sl.at_uw (k := .i64) hx
        obtain ⟨w', m78, m81, r'', m83, m85, h1, h2, h3, h4, h5, h6, h7⟩ := push_copy hX hg ((h.keepE hxm2).sh x hxm') (h.ln x hxm') (by omega)
        exact ⟨q, w', m78, m81, r'', m83, m85, q1, q2, h1, h2, h3, h4, h5, h6, fun c hc => by rw [h7.lo c hc, hk' c hc], by have := h7.n; omega⟩
      refine ifB_intro (fun h1 => ?_) (fun h1 => ?_)
      · rw [Bool.and_eq_true] at h1
        obtain ⟨h1, h2⟩ := h1
        have hdone : done = false := by simpa using h1
        have hlt2 : u.id < x.u.id := by simpa using h2
        obtain ⟨e1, e2⟩ := hd0 hdone
        have hal0 : acc.length ≤ i := by
          have := congrArg List.length e1
          rw [us_len, List.length_take] at this
          omega
        obtain ⟨wa, m45, m48, ra, m50, m52, a1, a2, a3, a4, a5, a6, a7⟩ := push_copy hX hgr (hw.keepE hxm) hul (by omega)
        obtain ⟨q, wb, m61, m64, rb, m66, m68, b1, b2, b3, b4, b5, b6, b7, b8, b9, b10⟩ := step m52 _ ra a6 (fun c hc => by rw [a7.lo c hc, hk c hc]) (by have := a7.n; omega) (by rw [List.length_append]; simp; omega)
        have gf52 : m52.get m.n = .cells [v] 31 none := by rw [a7.lo _ (by omega), gf]
        rw [fieldAddr_31_0, onS_some, ldO mm acc r hgr, onS_some, load_un gu, onS_some]
        refine onC_of a1 ⟨Nat.le_refl _, ?_⟩
        rw [a2, on2_some, a3, on2_some, onS_some, a4, on2_some, onS_some, ldO m52 _ _ a6, onS_some, onS_some, ldF m52 gf52, onS_some, b1, onS_some, b2, onS_some]
        refine onC_of b3 ⟨Nat.le_refl _, ?_⟩
        rw [b4, on2_some, b5, on2_some, onS_some, b6, on2_some, bin_add, onS_some, wrap64 (by omega) (by omega)]
        have := a7.n
        refine ⟨i + 1, by omega, true, _, rb, rfl, by omega, b8, b9, by omega, b10, (fun h => by cases h), fun _ => ⟨?_, x.u, by rw [htk]; simp, hlt2⟩, by simp; omega⟩
        rw [htk, insU_no e2]
        show us' ((acc ++ [⟨u, wa⟩]) ++ [⟨x.u, wb⟩]) = _
        unfold us' at e1 ⊢
        rw [List.map_append, List.map_append, e1]
        simp [insU, hlt2]
      · obtain ⟨q, wb, m78, m81, rb, m83, m85, b1, b2, b3, b4, b5, b6, b7, b8, b9, b10⟩ := step mm _ r hgr hk hnm (by omega)
        rw [fieldAddr_31_0, onS_some, ldO mm acc r hgr, onS_some, onS_some, ldF mm gf, onS_some, b1, onS_some, b2, onS_some]
        refine onC_of b3 ⟨Nat.le_refl _, ?_⟩
        rw [b4, on2_some, b5, on2_some, onS_some, b6, on2_some, bin_add, onS_some, wrap64 (by omega) (by omega)]
        refine ⟨i + 1, by omega, done, _, rb, rfl, by omega, b8, b9, by omega, b10, fun hd => ?_, fun hd => ?_, by simp; omega⟩
        · obtain ⟨e1, e2⟩ := hd0 hd
          have hn : ¬ u.id < x.u.id := by
            rw [hd, Bool.not_false, Bool.true_and] at h1
            simpa using h1
          refine ⟨?_, fun y hy => ?_⟩
          · rw [htk]
            unfold us' at e1 ⊢
            rw [List.map_append, e1]; rfl
          · rw [htk] at hy
            rcases List.mem_append.1 hy with hy | hy
            · exact e2 y hy
            · rw [List.mem_singleton] at hy; subst hy; exact hn
        · obtain ⟨e1, y, hy, hlt2⟩ := hd1 hd
          refine ⟨?_, y, by rw [htk]; simp [hy], hlt2⟩
          rw [htk, insU_yes ⟨y, hy, hlt2⟩]
          unfold us' at e1 ⊢
          rw [List.map_append, e1]; rfl
    · have hi' : i = l.length := by
        have : ¬ (i : Int) < (l.length : Int) := by simpa using hge
        omega
      subst hi'
      rw [List.take_of_length_le (by rw [us_len]; exact Nat.le_refl _)] at hd0 hd1
      -- the end
      have fin : ∀ (m' : M) (acc' : List UW) (r' : Value) (lo' : Nat), GrU oc m' acc' r' → (∀ c, c < oc → m'.get c = m3.get c) → m13.n ≤ m'.n → m.n ≤ lo' → us' acc' = insU u (us' l) → acc'.length < 100000 →
          C X (.func 49) [.agg #[r']] m' m'.n (.bool (fabB (insU u (us' l)))) m' ∧ load? Tab.env m' 31 (.pointer (some ⟨oc, 0, none⟩)) = some (.agg #[r']) ∧
          (fabB (insU u (us' l)) = true → on2 (store? Tab.env m' 31 (.pointer (some ⟨m2.n, 0, none⟩)) (.agg #[r'])) fun m112 b113 => onS (load? Tab.env m112 31 (.pointer (some ⟨m2.n, 0, none⟩))) fun v12 =>
            (flat2 (mkres [v12, .int .i64 0]) = true ∧ m.n ≤ min lo' b113 ∧ m.n = m.n ∧ Ext m m ∧ AddR l u m (mkres [v12, .int .i64 0])) ∨
            ((flat2 (mkres [v12, .int .i64 0]) = false ∨ min lo' b113 < m.n) ∧ min m.n (min lo' b113) = m.n ∧ Ext m m112 ∧ AddR l u m112 (mkres [v12, .int .i64 0]))) := by
        intro m' acc' r' lo' hg hk' hn' hlo' hus hal'
        refine ⟨by rw [← hus]; exact rfvalid_ok hX hg.fab (by omega), by rw [load_31, loadCells_of hg.cell (by simp)]; rfl, fun hv => ?_⟩
        have g3 : m'.get m2.n = .cells [.slice none 0 0] 31 none := by rw [hk' _ (by omega), hg3]
        refine on2_storeV ty_31 g3 rfl rfl (by show (one r' && true) = true; rw [hg.ow.sl.one]; rfl) fun m10 hn10 hg10 hk10 => ?_
        have hg10 : m10.get m2.n = .cells [r'] 31 none := hg10
        rw [load_31, loadCells_of hg10 (by simp)]
        show onS (some (Value.agg #[r'])) _
        rw [onS_some]
        have hfab : FabV m10 acc' r' := hg.fab.keep fun c cs t g hb ht => by
          rw [hk10 c (fun e => by subst e; rw [g3] at hb; cases hb; rcases ht with ht | ht <;> exact absurd ht (by decide)), hb]
        refine .inr ⟨.inl ?_, by omega, ⟨by omega, fun c hc => by rw [hk10 c (by omega), hk' c (by omega), hx3.get c hc]⟩, .yes hfl hv hus hfab⟩
        have hne : acc' ≠ [] := fun e => by
          rw [e] at hus
          exact insU_ne u (us' l) hus.symm
        obtain ⟨bb, hv', _⟩ := Own.of hg.ow hne
        rw [hv']
        simp [mkres, flat2, flat1, flat0]
      rw [un_not, onS_some, ifV_bool]
      refine ifB_intro (fun h1 => ?_) (fun h1 => ?_)
      · have hdone : done = false := by simpa using h1
        obtain ⟨e1, e2⟩ := hd0 hdone
        obtain ⟨wa, m93, m96, ra, m98, m100, a1, a2, a3, a4, a5, a6, a7⟩ := push_copy hX hgr (hw.keepE hxm) hul (by omega)
        have hus : us' (acc ++ [⟨u, wa⟩]) = insU u (us' l) := by
          have : insU u (us' l ++ []) = us' l ++ insU u [] := insU_no e2
          rw [List.append_nil] at this
          rw [this]
          unfold us' at e1 ⊢
          rw [List.map_append, e1]; rfl
        have n7 := a7.n
        obtain ⟨f1, f2, f3⟩ := fin m100 _ ra (min (min (min lo1 mm.n) m98.low) oc) a6 (fun c hc => by rw [a7.lo c hc, hk c hc]) (by omega) (by omega) hus (by simp; omega)
        rw [fieldAddr_31_0, onS_some, ldO mm acc r hgr, onS_some, load_un gu, onS_some]
        refine onC_of a1 ⟨Nat.le_refl _, ?_⟩
        rw [a2, on2_some, a3, on2_some, onS_some, a4, on2_some, f2, onS_some]
        refine onC_of f1 ?_
        rw [un_not, onS_some, ifV_bool]
        have hmin : min (min (min (min lo1 mm.n) m98.low) oc) m100.n = min (min (min lo1 mm.n) m98.low) oc := by have := M.lt_of_get a6.cell; omega
        rw [hmin]
        cases hfv : fabB (insU u (us' l)) with
        | false =>
          rw [Bool.not_false, ifB_true, bld, onS_some]
          exact hfail m100 _ (fun c hc => by rw [a7.lo c (by omega), hk c (by omega)]) (fun hh => by rw [hfv] at hh; exact absurd hh.2 (by decide)) (by omega)
        | true =>
          rw [Bool.not_true, ifB_false, f2, onS_some]
          exact f3 hfv
      · have hdone : done = true := by simpa using h1
        obtain ⟨e1, _⟩ := hd1 hdone
        obtain ⟨f1, f2, f3⟩ := fin mm acc r (min lo1 mm.n) hgr hk hnm (by omega) e1 (by omega)
        rw [f2, onS_some]
        refine onC_of f1 ?_
        rw [un_not, onS_some, ifV_bool]
        cases hfv : fabB (insU u (us' l)) with
        | false =>
          rw [Bool.not_false, ifB_true, bld, onS_some]
          exact hfail mm _ (fun c hc => hk c (by omega)) (fun hh => by rw [hfv] at hh; exact absurd hh.2 (by decide)) (by omega)
        | true =>
          rw [Bool.not_true, ifB_false, f2, onS_some]
          exact f3 hfv
  obtain ⟨rv, m', b, hc, rfl, h1, h2⟩ := key
  exact ⟨rv, m', hc, h1, h2⟩
end Go.Proofs.YtjecgmfildhpiaaGreatDoor

/- putlogref12.Made: a valid fabric. -/
namespace Go.Proofs.YtjecgmfildhpiaaGreatDoor
open Go Go.D
variable {X : CallFn} {m : M}
structure I6 where
  a : Int
  b : Int
  c : Int
  d : Int
  e : Int
  f : Int
def I6.c' (x : I6) : List Value := [.int .i64 x.a, .int .i64 x.b, .int .i64 x.c, .int .i64 x.d, .int .i64 x.e, .int .i64 x.f]
def I6.ok (x : I6) : Prop := R64 x.a ∧ R64 x.b ∧ R64 x.c ∧ R64 x.d ∧ R64 x.e ∧ R64 x.f
instance : Rep I6 where
  ty := 91
  sz := 6
  agg := true
  tys := []
  rep _ x cs := cs = x.c'
  pos := by decide
  one := by intro h; cases h
  len := by rintro _ _ _ rfl; rfl
  ones := by rintro _ _ _ rfl; rfl
  keep := by rintro _ _ _ _ rfl _; rfl
theorem slt_i6 : SlT Tab.env 22 91 I6 := ⟨Tab.t22, Tab.t91, by kernel_rfl, ⟨_, rfl⟩, rfl, by kernel_rfl, rfl, rfl⟩
/-- Six integers that were handed in. -/
theorem i6_at {l : List I6} {v : Value} (h : SlR m l v) {i : Nat} {x : I6} (hx : l[i]? = some x) : ∃ b o, indexAddr? Tab.env 22 v (.int .i64 i) = some (.pointer (some ⟨b, o, none⟩)) ∧ load? Tab.env m 91 (.pointer (some ⟨b, o, none⟩)) = some (.agg x.c'.toArray) ∧ load? Tab.env m 3 (.pointer (some ⟨b, o + 5, none⟩)) = some (.int .i64 x.f) := by
  obtain ⟨p, cs, e1, e2, e3⟩ := h.index slt_i6 (k := .i64) hx
  have e3 : cs = x.c' := e3
  subst e3
  have hlt := (List.getElem?_eq_some_iff.1 hx).1
  rcases h with h | h
  · obtain ⟨b, o, bc, g, cs, f1, hb, hr, hle, hj⟩ := h.indexA slt_i6 (k := .i64) hx
    have hr : cs = x.c' := hr
    subst hr
    rw [e1] at f1
    cases f1
    refine ⟨b, o, e1, e2, ?_⟩
    rw [load_3, cellAt_of hb, hj 5 (by decide)]; rfl
  · rcases h with ⟨_, rfl⟩ | ⟨b, o, c, bc, rfl, hb, hel⟩
    · simp at hx
    · obtain ⟨hle, hr⟩ := hel i x hx
      have hr : (bc.drop (o + i * 6)).take 6 = x.c' := hr
      have f1 : indexAddr? Tab.env 22 (.slice (some ⟨b, o, none⟩) l.length c) (.int .i64 i) = some (.pointer (some ⟨b, o + i * 6, none⟩)) := by
        have hc : 0 ≤ (i : Int) ∧ (i : Int) < (l.length : Int) ∧ 0 < Tab.t22.es := ⟨by omega, by omega, by decide⟩
        have hd : Tab.t22.d = .slice 91 := rfl
        simp only [indexAddr?, ty_22, hd]
        rw [if_pos hc, addr_add rfl]; rfl
      rw [e1] at f1
      cases f1
      refine ⟨b, o + i * 6, e1, e2, ?_⟩
      have h5 : bc[o + i * 6 + 5]? = some (.int .i64 x.f) := by
        have := congrArg (·[5]?) hr
        simp only [List.getElem?_take_of_lt (show 5 < 6 by decide), List.getElem?_drop] at this
        rw [this]; rfl
      rw [load_3, cellAt_ro hb h5 rfl]
set_option maxRecDepth 100000 in
theorem made12_ok (hX : NoX X) {xs : List I6} {v : Value} (hv : SlR m xs v) (hok : ∀ x ∈ xs, x.ok) (hlen : xs.length < 9223372036854775808) :
    ∃ l r m', C X (.func 10) [v] m m.n (.agg #[r]) m' ∧ Ext m m' ∧ FabV m' l r ∧ FabP (us' l) := by
  have key : ∃ rv m' b, C X (.func 10) [v] m b rv m' ∧ b = m.n ∧ Ext m m' ∧ ∃ l r, rv = .agg #[r] ∧ FabV m' l r ∧ FabP (us' l) := by
    refine Cl.gen (R := fun rv m' b => b = m.n ∧ Ext m m' ∧ ∃ l r, rv = .agg #[r] ∧ FabV m' l r ∧ FabP (us' l)) (hX.no _ rfl) fn_10 rfl ?_
    rw [F10]; dsimp only [plainW]
    refine onM_push fun m1 hn1 hg1 hk1 => ?_
    refine onM_push fun m2 hn2 hg2 hk2 => ?_
    have hx2 : Ext m m2 := ⟨by omega, fun c hc => by rw [hk2 c (by omega), hk1 c hc]⟩
    have g1 : m2.get m.n = .cells [.slice none 0 0] 31 none := by rw [hk2 _ (by omega), hg1]
    have fab0 : ∀ mm : M, FabV mm [] (.slice none 0 0) := fun mm => ⟨.nil, fun x hx => (by cases hx), fun x hx => (by cases hx), .inl rfl⟩
    have fabp0 : FabP (us' []) := ⟨by simp [us'], fun u hu => (by simp [us'] at hu), fun i a b ha => (by simp [us'] at ha), fun i k a b _ ha => (by simp [us'] at ha)⟩
    unfold ptrTo
    refine Lp.intro (γ := Nat) (fun i => 12 - i) (fun i vs mm lo => ∃ l r, vs = [.int .i64 i] ∧ i ≤ 12 ∧ Ext m mm ∧ m2.n ≤ mm.n ∧ mm.get m.n = .cells [.slice none 0 0] 31 none ∧ mm.get m1.n = .cells [r] 31 none ∧ FabV mm l r ∧ FabP (us' l) ∧ m.n ≤ lo ∧ (l = [] → r = .slice none 0 0)) 0
      ⟨[], _, rfl, by omega, hx2, Nat.le_refl _, g1, hg2, fab0 _, fabp0, Nat.le_refl _, fun _ => rfl⟩ ?_
    rintro i vs mm lo ⟨l, r, rfl, hi, hx, hnm, ga, gb, hF, hP, hlo, hnil⟩
    have hll : l.length ≤ 12 := by have := hP.len; rwa [us_len] at this
    rw [un_cons]
    refine jn_of (fun vs m' lo' => vs = [.bool (decide (i < xs.length) && decide (i < 12))] ∧ mm = m' ∧ lo = lo') (fun R hR => ?_) ?_
    · rw [(hv.keepE hx).len slt_i6, on2_some, bin_lss, onS_some, ifV_bool]
      refine ifB_intro (fun h => ?_) (fun h => ?_)
      · have h : i < xs.length := by simpa using h
        rw [bin_lss, onS_some]
        refine hR _ _ _ ⟨?_, rfl, rfl⟩
        rw [decide_eq_true h, Bool.true_and]
        congr 2
        rw [decide_eq_decide]; omega
      · have h : ¬ i < xs.length := by simpa using h
        exact hR _ _ _ ⟨by rw [decide_eq_false h]; rfl, rfl, rfl⟩
    rintro _ _ _ ⟨rfl, rfl, rfl⟩
    rw [un_cons, ifV_bool]
    have ldF : ∀ (m' : M) (b : Nat) (r : Value), m'.get b = .cells [r] 31 none → load? Tab.env m' 31 (.pointer (some ⟨b, 0, none⟩)) = some (.agg #[r]) := fun m' b r h => by rw [load_31, loadCells_of h (by simp)]; rfl
    refine ifB_intro (fun h => ?_) (fun h => ?_)
    · simp only [Bool.and_eq_true, decide_eq_true_eq] at h
      obtain ⟨hix, hi12⟩ := h
      obtain ⟨x, hxi⟩ : ∃ x, xs[i]? = some x := ⟨_, List.getElem?_eq_getElem hix⟩
      obtain ⟨k0, k1, k2, k3, k4, k5⟩ := hok x (List.mem_of_getElem? hxi)
      obtain ⟨b, o, e1, e2, e3⟩ := i6_at (hv.keepE hx) hxi
      have e4 : indexAddr? Tab.env 91 (.pointer (some ⟨b, o, none⟩)) (.int .i64 5) = some (.pointer (some ⟨b, o + 5, none⟩)) := idx6 (i := 5) (by decide)
      rw [ldF mm _ _ gb, onS_some, bin_mul, onS_some, e1, onS_some, e4, onS_some, e3, onS_some]
      refine onC_of (rpick_ok hX k5 (by decide)) ⟨Nat.le_refl _, ?_⟩
      rw [bin_add, onS_some, onS_some, e2, onS_some]
      obtain ⟨u, w, m30, hc30, hx30, hs30, hl30⟩ := block_ok (m := mm) hX (wr_R64 _) k0 k1 k2 k3 k4 k5
      refine onC_of hc30 ⟨Nat.le_refl _, ?_⟩
      obtain ⟨rv, m33, hc33, hx33, hr33⟩ := add_ok (m := m30) hX (hF.keepE hx30) (by omega) hs30 (by omega)
      refine onC_of hc33 ⟨Nat.le_refl _, ?_⟩
      have n30 := hx30.n
      have n33 := hx33.n
      have hx333 := hx30.trans hx33
      by_cases hc : fabB (us' l) = true ∧ fabB (insU u (us' l)) = true
      · unfold AddR at hr33
        rw [if_pos hc] at hr33
        obtain ⟨l', r', rfl, hus, hF'⟩ := hr33
        rw [extr_tuple, extr_tuple]
        simp only [List.getElem?_cons_zero, List.getElem?_cons_succ, onS_some]
        refine onM_push fun m37 hn37 hg37 hk37 => ?_
        have or : one r' = true := hF'.sl.one
        refine on2_storeV ty_31 hg37 rfl rfl (by show (one r' && true) = true; rw [or]; rfl) fun m38 hn38 hg38 hk38 => ?_
        have hg38 : m38.get m33.n = .cells [r'] 31 none := hg38
        have hx38 : Ext m33 m38 := ⟨by omega, fun c hc => by rw [hk38 c (by omega), hk37 c hc]⟩
        rw [bin_eql, onS_some, ifV_bool, decide_eq_true rfl, ifB_true, ldF m38 _ _ hg38, onS_some]
        have gb38 : m38.get m1.n = .cells [r] 31 none := hx38.cells (hx333.cells gb)
        refine on2_storeV ty_31 gb38 rfl rfl (by show (one r' && true) = true; rw [or]; rfl) fun m42 hn42 hg42 hk42 => ?_
        have hg42 : m42.get m1.n = .cells [r'] 31 none := hg42
        rw [bin_add, onS_some, wrap64 (by omega) (by omega)]
        refine ⟨i + 1, by omega, l', r', rfl, by omega, ⟨by have := hx.n; omega, fun c hc => by rw [hk42 c (by omega), hx38.get c (by have := hx.n; omega), hx333.get c (by have := hx.n; omega), hx.get c hc]⟩, by omega, ?_, hg42, ?_, ?_, by have := hx.n; omega, fun e => ?_⟩
        · rw [hk42 _ (by omega), hx38.get _ (by omega), hx333.get _ (by omega), ga]
        · exact (hF'.keepE hx38).keep fun c cs t g hb ht => by
            rw [hk42 c (fun e => by subst e; rw [gb38] at hb; cases hb; rcases ht with ht | ht <;> exact absurd ht (by decide)), hb]
        · rw [hus]; exact fabB_iff.1 hc.2
        · rw [e] at hus
          exact absurd hus.symm (insU_ne u _)
      · unfold AddR at hr33
        rw [if_neg hc] at hr33
        subst hr33
        rw [extr_tuple, extr_tuple]
        simp only [List.getElem?_cons_zero, List.getElem?_cons_succ, onS_some]
        refine onM_push fun m37 hn37 hg37 hk37 => ?_
        refine on2_storeV ty_31 hg37 rfl rfl rfl fun m38 hn38 hg38 hk38 => ?_
        have hx38 : Ext m33 m38 := ⟨by omega, fun c hc => by rw [hk38 c (by omega), hk37 c hc]⟩
        rw [bin_eql, onS_some, ifV_bool, show decide ((120 : Int) = 0) = false from rfl, ifB_false, bin_add, onS_some, wrap64 (by omega) (by omega)]
        have hxx := hx333.trans hx38
        exact ⟨i + 1, by omega, l, r, rfl, by omega, hx.trans hxx, by have := hxx.n; omega, hxx.cells ga, hxx.cells gb, hF.keepE hxx, hP, by have := hx.n; omega, hnil⟩
    · rw [ldF mm _ _ gb, onS_some]
      have or : one r = true := hF.sl.one
      refine on2_storeV ty_31 ga rfl rfl (by show (one r && true) = true; rw [or]; rfl) fun m47 hn47 hg47 hk47 => ?_
      have hg47 : m47.get m.n = .cells [r] 31 none := hg47
      rw [ldF m47 _ _ hg47, onS_some]
      have hF47 : FabV m47 l r := hF.keep fun c cs t g hb ht => by
        rw [hk47 c (fun e => by subst e; rw [ga] at hb; cases hb; rcases ht with ht | ht <;> exact absurd ht (by decide)), hb]
      have hx47 : Ext m m47 := ⟨by have := hx.n; omega, fun c hc => by rw [hk47 c (by omega), hx.get c hc]⟩
      by_cases hl : l = []
      · have hr := hnil hl
        subst hl
        subst hr
        exact .inl ⟨rfl, by omega, rfl, .refl, [], _, rfl, fab0 m, fabp0⟩
      · refine .inr ⟨.inl ?_, by omega, hx47, l, r, rfl, hF47, hP⟩
        rcases hF.cap with h | ⟨bb, o, c, bc, g, rfl, _⟩
        · exact absurd h hl
        · simp [mkres, flat2, flat1, flat0]
  obtain ⟨rv, m', b, hc, rfl, h1, l, r, rfl, h2, h3⟩ := key
  exact ⟨l, r, m', hc, h1, h2, h3⟩
end Go.Proofs.YtjecgmfildhpiaaGreatDoor

/- Rows of six integers as an argument. -/
namespace Go.Proofs.YtjecgmfildhpiaaGreatDoor
open Go Go.D Go.ChangeShapes Go.WideShapes Go.ChangeAt Go.RowKit
theorem u_sixes : Tryz.prog.underlying 22 = some (.slice 91) := by kernel_rfl
theorem u_six : Tryz.prog.underlying 91 = some (.array 6 3) := by kernel_rfl
section
variable {H : Type} {enc : TypeId × Value → H} {W W' : World} {sp : Nat → Bool} {held : Bool} {base : Nat}
theorem el_six : ∀ fuel cs x, DataW.trod enc Tryz.prog W 0 sp held fuel 91 cs = some x → ∃ y : I6, y.ok ∧ (∀ m, Rep.rep m y cs) ∧ ∀ u ∈ cs, flat0 u = true := by
  intro fuel cs x h
  obtain ⟨l, rfl, hl, hr⟩ := ints_of u_six (by kernel_rfl) h
  match l, hl, hr with
  | [a, b, c, d, e, f], _, hr =>
    refine ⟨⟨a, b, c, d, e, f⟩, ⟨hr _ (by simp), hr _ (by simp), hr _ (by simp), hr _ (by simp), hr _ (by simp), hr _ (by simp)⟩, fun m => rfl, fun u hu => ?_⟩
    obtain ⟨z, _, rfl⟩ := List.mem_map.1 hu
    rfl
set_option maxRecDepth 100000 in
theorem sixes_of {v : Value} {d : DataW H} {ps : List MemPlace} (hok : Value.okWide Tryz.prog W .any base 22 v) (h : DataW.Trod enc Tryz.prog W 0 sp held 22 v d ps) :
    VRel (sgOf W) v v ∧ ∃ l : List I6, SlI (storeOf W) l v ∧ l.length < 9223372036854775808 ∧ ∀ y ∈ l, y.ok := by
  simp only [Value.okWide, u_sixes] at hok
  obtain ⟨fuel, h⟩ := h
  have hv : v.cells.toList = [v] := by
    cases v with
    | agg cs =>
      exfalso
      revert hok
      simp [Cell.okWide, Cell.ok, u_sixes]
    | _ => rfl
  rw [hv] at h
  obtain ⟨a, l, b, c, d⟩ := slI_of (α := I6) (v := v) u_sixes (by kernel_rfl) el_six hok h
  exact ⟨a, l, b, c, d⟩
theorem stays22 {v : Value} {d : DataW H} {ps : List MemPlace} (hb : Below W.heap.size W W') (h : DataW.Trod enc Tryz.prog W 0 (fun _ => true) true 22 v d ps) (hlt : ∀ x ∈ ps, x.block < W.heap.size) (sp : Nat → Bool) (hs : ∀ x ∈ ps, sp x.block = true) : DataW.Trod enc Tryz.prog W' 0 sp true 22 v d ps :=
  WideElems.Trod_stays laidOut (by kernel_rfl) (of_decide_eq_true (by kernel_rfl)) h (fun x hx => hb.same (hlt x hx)) hs
end
end Go.Proofs.YtjecgmfildhpiaaGreatDoor

/- A body, leaf by leaf. -/
namespace Go.D
open Go
section
variable {E : Env} {call : CallFn} {n : Nat}
def flat : Code → List Code
  | .seq a b => flat a ++ flat b
  | c => [c]
def execs (f : Code → Fr → Option (Ex × Fr)) : List Code → Fr → Option (Ex × Fr)
  | [], fr => some (.normal, fr)
  | c :: r, fr => match f c fr with
    | some (.normal, fr) => execs f r fr
    | r => r
theorem execs_app (f : Code → Fr → Option (Ex × Fr)) : ∀ (a b : List Code) (fr : Fr), execs f (a ++ b) fr = match execs f a fr with | some (.normal, fr) => execs f b fr | r => r
  | [], b, fr => rfl
  | c :: a, b, fr => by
    show (match f c fr with | some (.normal, fr) => execs f (a ++ b) fr | r => r) = match (match f c fr with | some (.normal, fr) => execs f a fr | r => r) with | some (.normal, fr) => execs f b fr | r => r
    cases h : f c fr with
    | none => rfl
    | some p =>
      obtain ⟨e, fr1⟩ := p
      cases e with
      | normal => exact execs_app f a b fr1
      | exit id => rfl
      | ret => rfl
theorem exec_flat : ∀ (c : Code) (fr : Fr), exec? E call n c fr = execs (exec? E call n) (flat c) fr
  | .seq a b, fr => by
    rw [flat, execs_app, ← exec_flat a fr]
    show (match exec? E call n a fr with | some (.normal, fr) => exec? E call n b fr | r => r) = _
    cases h : exec? E call n a fr with
    | none => rfl
    | some p =>
      obtain ⟨e, fr1⟩ := p
      cases e with
      | normal => exact exec_flat b fr1
      | exit id => rfl
      | ret => rfl
  | .skip, fr => one_leaf _ fr
  | .region _ _ _, fr => one_leaf _ fr
  | .cond _ _ _, fr => one_leaf _ fr
  | .block _ _, fr => one_leaf _ fr
  | .loop _, fr => one_leaf _ fr
  | .exit _, fr => one_leaf _ fr
  | .ret, fr => one_leaf _ fr
  | .label _, fr => one_leaf _ fr
  | .goto _, fr => one_leaf _ fr
  | .rangeFunc _ _ _ _, fr => one_leaf _ fr
  | .scope _, fr => one_leaf _ fr
  | .refuse _, fr => one_leaf _ fr
where
  one_leaf (c : Code) (fr : Fr) : exec? E call n c fr = execs (exec? E call n) [c] fr := by
    unfold execs
    cases h : exec? E call n c fr with
    | none => rfl
    | some p =>
      obtain ⟨e, fr1⟩ := p
      cases e <;> rfl
theorem execs_cut {f : Code → Fr → Option (Ex × Fr)} {l : List Code} {fr fr' : Fr} (a k : Nat) (h : execs f ((l.drop a).take k) fr = some (.normal, fr')) : execs f (l.drop a) fr = execs f (l.drop (a + k)) fr' := by
  have e : l.drop a = (l.drop a).take k ++ l.drop (a + k) := by rw [← List.drop_drop, List.take_append_drop]
  rw [e, execs_app, h]
/-- A call, out of its body's run. -/
theorem call_of_exec {X : CallFn} {f : FuncId} {fn : Func} {c : Code} {args : List Value} {m : M} {fr : Fr} {v : Value} (hX : X (.func f) args m = none) (hf : E.fn.get f = some fn) (hb : fn.body = some c) (hle : Nat.ble args.length fn.ntmps = true)
    (he : exec? E (call? E X n) n c { T := enter args 0, m := { m with low := m.n } } = some (.ret, fr)) (hr : result? E fn fr.T fr.m = some v) (hv : flat2 v = true) (hl : Nat.ble m.n fr.m.low = true) : call? E X (n + 1) (.func f) args m = some (v, m) := by
  unfold call?
  rw [hX, hf]
  dsimp only
  rw [hb]
  dsimp only
  rw [hle, cond_true, he]
  dsimp only
  rw [hr]
  dsimp only
  rw [hv, hl]
  rfl
end
end Go.D

/- What is known of calls, put together; runs of a region, part by part; a call known at one store. -/
namespace Go.D
open Go
section
variable {P : Program}
noncomputable def orX (X Y : CallFn) : CallFn := fun f args m => match X f args m with | some r => some r | none => Y f args m
theorem orX_cases {X Y : CallFn} {f : Fn} {args : List Value} {m : M} {r : Value × M} (h : orX X Y f args m = some r) : X f args m = some r ∨ Y f args m = some r := by
  unfold orX at h
  cases hx : X f args m with
  | none => rw [hx] at h; exact .inr h
  | some r' => rw [hx] at h; exact .inl h
theorem orX_ok {X Y : CallFn} (hX : CallOK P X) (hY : CallOK P Y) : CallOK P (orX X Y) :=
  ⟨fun f args m v m' h => (orX_cases h).elim (hX.func f args m v m') (hY.func f args m v m'),
   fun l args m v m' h => (orX_cases h).elim (hX.yield l args m v m') (hY.yield l args m v m'),
   fun f args m v m' h => (orX_cases h).elim (hX.keep f args m v m') (hY.keep f args m v m'),
   fun a m v m' b h => (orX_cases h).elim (hX.prv a m v m' b) (hY.prv a m v m' b)⟩
end
section
variable {E : Env} {call : CallFn}
theorem draw_app {ops : Array Oper} : ∀ (a b : List Oper) (j : Nat) (fr : Fr), draw? E call ops (a ++ b) j fr = match draw? E call ops a j fr with | some fr => draw? E call ops b (j + a.length) fr | none => none
  | [], b, j, fr => rfl
  | o :: a, b, j, fr => by
    have hj : j + (o :: a).length = (j + 1) + a.length := by simp only [List.length_cons]; omega
    rw [List.cons_append, draw?_cons, draw?_cons, hj]
    cases wanted? ops fr.T o with
    | false => simp only [cond_false]; exact draw_app a b _ _
    | true =>
      simp only [cond_true]
      cases op? o.op E call fr.T { fr.m with low := fr.m.n } with
      | none => rfl
      | some r =>
        dsimp only
        cases (Nat.ble fr.m.n r.2.low || (barrier ops j || priv ops j fr.m fr.T o.op)) with
        | false => rfl
        | true => simp only [cond_true]; exact draw_app a b _ _
theorem draw_cut {ops : Array Oper} {l : List Oper} {fr fr' : Fr} (a k j : Nat) (hk : ((l.drop a).take k).length = k) (h : draw? E call ops ((l.drop a).take k) j fr = some fr') : draw? E call ops (l.drop a) j fr = draw? E call ops (l.drop (a + k)) (j + k) fr' := by
  have e : l.drop a = (l.drop a).take k ++ l.drop (a + k) := by rw [← List.drop_drop, List.take_append_drop]
  rw [e, draw_app, h, hk]
end
end Go.D

/- slices.Sorted over the keys of a map: what is known of the call beforehand. -/
namespace Go.D
open Go

section
variable {P : Program} {σ : Sg} {m : M} {w w' : World}

/-- A new block, somewhere behind what lay there. -/
theorem Ev.new_at (h : Sim P σ m w) {g : Nat} {gr : Option (Nat × Nat × Nat)} {ob : Ob} (hk : ∀ B, B < w.heap.size → w'.heap[B]? = w.heap[B]?) (hle : w.heap.size ≤ w'.heap.size) (hg : w.heap.size ≤ g) (hg' : g < w'.heap.size)
    (hh : Holds (σ.add m.n ⟨g, gr⟩) ⟨g, gr⟩ w' ob) (ho : w'.os = w.os) (ht : w'.tape = w.tape) (hu : w'.output = w.output) : Ev P σ m w (σ.add m.n ⟨g, gr⟩) (m.push ob) w' := by
  have hn := h.next_none
  have hl := Sg.le_add (i := ⟨g, gr⟩) hn
  have hcase : ∀ b i, (σ.add m.n ⟨g, gr⟩) b = some i → (b = m.n ∧ i = ⟨g, gr⟩) ∨ (b ≠ m.n ∧ σ b = some i) := by
    intro b i hb
    unfold Sg.add at hb
    by_cases hbn : b = m.n
    · rw [if_pos hbn] at hb; exact .inl ⟨hbn, by injection hb with hb; exact hb.symm⟩
    · rw [if_neg hbn] at hb; exact .inr ⟨hbn, hb⟩
  have hpn : (m.push ob).n = m.n + 1 := rfl
  refine ⟨hl, ⟨?_, ?_, ?_, ?_, fun g hg => hl g _ (h.glob g hg)⟩, Nat.le_refl _, by omega, hle, ?_, ?_, fun B hB _ => hk B hB, ho, ht, hu⟩
  · intro b i hb
    rcases hcase b i hb with ⟨rfl, _⟩ | ⟨_, hb⟩
    · omega
    · have := h.dom b i hb; omega
  · intro b i hb
    rw [M.get_push]
    rcases hcase b i hb with ⟨rfl, rfl⟩ | ⟨hne, hb⟩
    · rw [if_pos rfl]; exact hh
    · rw [if_neg hne]; exact (h.obj b i hb).keep hl (hk _ (h.lt b i hb))
  · intro b i hb
    rcases hcase b i hb with ⟨_, rfl⟩ | ⟨_, hb⟩
    · exact hg'
    · have := h.lt b i hb; omega
  · intro b b' i i' hb hb' hd hd' he
    rw [M.get_push] at hd hd'
    rcases hcase b i hb with ⟨rfl, rfl⟩ | ⟨hne, hb⟩ <;> rcases hcase b' i' hb' with ⟨rfl, rfl⟩ | ⟨hne', hb'⟩
    · rfl
    · have := h.lt b' i' hb'; dsimp only at he; omega
    · have := h.lt b i hb; dsimp only at he; omega
    · rw [if_neg hne] at hd; rw [if_neg hne'] at hd'; exact h.inj b b' i i' hb hb' hd hd' he
  · intro b i hb hs
    rcases hcase b i hb with ⟨rfl, rfl⟩ | ⟨_, hb⟩
    · exact ⟨Nat.le_refl _, .inl hg⟩
    · rw [hs] at hb; cases hb
  · intro b _ hb
    rw [M.get_push, if_neg (by omega)]
/-- Nothing of what the store knows has turned. -/
theorem Ev.kept (h : Sim P σ m w) (hk : ∀ B, B < w.heap.size → w'.heap[B]? = w.heap[B]?) (hle : w.heap.size ≤ w'.heap.size) (ho : w'.os = w.os) (ht : w'.tape = w.tape) (hu : w'.output = w.output) : Ev P σ m w σ m w' :=
  ⟨fun _ _ x => x, ⟨h.dom, fun b i hb => (h.obj b i hb).keep (fun _ _ x => x) (hk _ (h.lt b i hb)), fun b i hb => Nat.lt_of_lt_of_le (h.lt b i hb) hle, h.inj, h.glob⟩, Nat.le_refl _, Nat.le_refl _, hle, fun b i x y => (by rw [x] at y; cases y), fun _ _ _ => rfl, fun B hB _ => hk B hB, ho, ht, hu⟩

end
end Go.D

/- Calls that a contract makes known: what they come to, said of a store of one's own choice. -/
namespace Go.D
open Go
section
variable {P : Program} {E : Env} {X : CallFn} {σ : Sg} {m m1 : M} {w w' : World} {f : Nat} {args : List Value} {v : Value} {args' : Array Value}
theorem Cl.calls (hE : E.OK P) (hX : CallOK P X) (hc : Cl E X (.func f) args m m.n v m1) (hs : Sim P σ m w) (hl : LRel σ args args'.toList) :
    CallsIn Fence.wide 0 P f args' w (CallRes P σ (m.wl m.n) w v (m1.wl m.n)) ∧ (callFunc f args').run P w = .ok (.enter f args') w := by
  obtain ⟨hn, _, n0, h⟩ := hc
  have h1 := h (n0 + 1) (by omega) m.n (Nat.le_refl _)
  rw [Nat.min_self] at h1
  exact call_calls hE hX (call_sound' hE hX n0) h1 (hs.low m.n) hl
/-- A result without addresses. -/
theorem CallRes.flat (hs : Sim P σ m w) (hv : flat0 v = true) {e : Ending} (h : CallRes P σ (m.wl m.n) w v (m1.wl m.n) e w') : CallRes P σ m w v m e w' := by
  obtain ⟨v', σ', rfl, hv', he⟩ := h
  have := hv'.eq_of_flat0 hv
  subst this
  exact ⟨_, σ, rfl, .flat _ hv, Ev.kept hs (fun B hB => he.heap B hB fun b i hb _ => hs.dom b i hb) he.hle he.os he.tape he.output⟩
/-- A new row: it may as well be the next block. -/
theorem Ev.row (hs : Sim P σ m w) {σ' : Sg} (he : Ev P σ (m.wl m.n) w σ' (m1.wl m.n) w') {b n : Nat} {cs : List Value} {t : TypeId} {k : Nat} (hb : m.n ≤ b) (hg : m1.get b = .cells cs t (some k)) (hf : ∀ u ∈ cs, flat0 u = true) {u' : Value}
    (hv : VRel σ' (.slice (some ⟨b, 0, none⟩) n n) u') (hn : 0 < n) : ∃ τ, VRel τ (.slice (some ⟨m.n, 0, none⟩) n n) u' ∧ Ev P σ m w τ (m.push (.cells cs t (some k))) w' := by
  have go : ∀ i : BI, σ' b = some i → Ev P σ m w (σ.add m.n i) (m.push (.cells cs t (some k))) w' := by
    intro i hi
    have hσb : σ b = none := by
      cases h : σ b with
      | none => rfl
      | some j => have := hs.dom b j h; omega
    obtain ⟨_, hnew⟩ := he.new b i hi hσb
    have hnew : w.heap.size ≤ i.blk := by
      rcases hnew with h | ⟨b0, i0, h1, _, h2⟩
      · exact h
      · have := hs.dom b0 i0 h1
        have h2 : m.n ≤ b0 := h2
        omega
    have hobj : Holds σ' i w' (.cells cs t (some k)) := by
      have := he.sim.obj b i hi
      rw [show (m1.wl m.n).get b = .cells cs t (some k) from hg] at this
      exact this
    obtain ⟨blk, gr⟩ := i
    refine Ev.new_at hs (fun B hB => he.heap B hB fun b i hb _ => hs.dom b i hb) he.hle hnew (he.sim.lt b _ hi) ?_ he.os he.tape he.output
    obtain ⟨c', h1, h2, h3, h4⟩ := hobj
    refine ⟨c', h1, h2, ⟨h3.1, fun j u u' hu hu' => ?_⟩, h4⟩
    have hff := hf u (List.mem_of_getElem? hu)
    have := (h3.2 j u u' hu hu').eq_of_flat0 hff
    subst this
    exact .flat _ hff
  have hadd : ∀ i : BI, (σ.add m.n i) m.n = some i := fun i => by unfold Sg.add; rw [if_pos rfl]
  cases hv with
  | flat _ h => cases h
  | slice a i _ _ h hsn hgr => exact ⟨_, .slice ⟨m.n, 0, none⟩ i n n (hadd i) rfl hgr, go i h⟩
  | sliceG a i _ _ c' k' sz N h hsn hgr hc => exact ⟨_, .sliceG ⟨m.n, 0, none⟩ i n n c' k' sz N (hadd i) rfl hgr hc, go i h⟩
  | empty a a' i c' k' sz N h hgr ho => omega
end
end Go.D

/- plane.Valid, plane.Cell and the elevation, known beforehand. -/
namespace Go.Proofs.YtjecgmfildhpiaaGreatDoor
open Go Go.D
variable {m : M}

/-- The places that cells hold. -/
def parsePl : Nat → List Value → Option (List Pl)
  | 0, _ => some []
  | n + 1, .int .i64 x :: .int .i64 y :: r => match parsePl n r with | some l => some (⟨x, y⟩ :: l) | none => none
  | _ + 1, _ => none
noncomputable def plsAt (m : M) (v : Value) : Option (List Pl) :=
  match v with
  | .slice none 0 0 => some []
  | .slice (some a) n _ => match a.spot, m.get a.block with
    | none, .cells cs e _ => bif Nat.beq e 64 && Nat.ble (a.off + n * 2) cs.length then parsePl n (cs.drop a.off) else none
    | _, _ => none
  | _ => none
theorem parsePl_at : ∀ {n : Nat} {cs : List Value} {l : List Pl}, parsePl n cs = some l → l.length = n ∧ ∀ i p, l[i]? = some p → (cs.drop (i * 2)).take 2 = p.c
  | 0, _, l, h => by cases h; exact ⟨rfl, fun i p hi => by cases hi⟩
  | n + 1, cs, l, h => by
    unfold parsePl at h
    split at h
    · omega
    · rename_i n' x y r hn
      cases hn
      cases hr : parsePl n r with
      | none => rw [hr] at h; cases h
      | some l' =>
        rw [hr] at h
        cases h
        obtain ⟨h1, h2⟩ := parsePl_at hr
        refine ⟨by simp [h1], fun i p hi => ?_⟩
        match i with
        | 0 => cases hi; rfl
        | i + 1 =>
          have := h2 i p (by simpa using hi)
          rw [show (i + 1) * 2 = i * 2 + 1 + 1 by omega, List.drop_succ_cons, List.drop_succ_cons]
          exact this
    · cases h
theorem plsAt_sl {v : Value} {l : List Pl} (h : plsAt m v = some l) : Sl m l v := by
  unfold plsAt at h
  split at h
  · cases h; exact .inl ⟨rfl, rfl⟩
  · rename_i a n c
    split at h
    · rename_i cs e g hsp hg
      cases hc : (Nat.beq e 64 && Nat.ble (a.off + n * 2) cs.length) with
      | false => rw [hc] at h; cases h
      | true =>
        rw [hc, cond_true] at h
        rw [Bool.and_eq_true] at hc
        obtain rfl := Nat.eq_of_beq_eq_true hc.1
        have hle := Nat.le_of_ble_eq_true hc.2
        obtain ⟨h1, h2⟩ := parsePl_at h
        obtain ⟨ab, ao, sp⟩ := a
        have hsp : sp = none := hsp
        subst hsp
        refine .inr ⟨ab, ao, c, cs, g, by rw [h1], hg, by rw [h1]; exact hle, fun i p hi => ?_⟩
        have := h2 i p hi
        rw [List.drop_drop] at this
        exact this
    · cases h
  · cases h
/-- The units that cells hold. -/
noncomputable def parseUn (m : M) : Nat → List Value → Option (List Un)
  | 0, _ => some []
  | n + 1, .int .i64 a :: .int .i64 b :: .int .i64 c :: w :: .int .i64 d :: .int .i64 e :: r => match plsAt m w, parseUn m n r with | some s, some l => some (⟨a, b, c, s, d, e⟩ :: l) | _, _ => none
  | _ + 1, _ => none
noncomputable def unsAt (m : M) (v : Value) : Option (List Un) :=
  match v with
  | .slice none 0 0 => some []
  | .slice (some a) n _ => match a.spot, m.get a.block with
    | none, .cells cs e _ => bif Nat.beq e 57 && Nat.ble (a.off + n * 6) cs.length then parseUn m n (cs.drop a.off) else none
    | _, _ => none
  | _ => none
theorem parseUn_at : ∀ {n : Nat} {cs : List Value} {l : List Un}, parseUn m n cs = some l → l.length = n ∧ ∀ i u, l[i]? = some u → ∃ w, (cs.drop (i * 6)).take 6 = u.c w ∧ Sl m u.shape w
  | 0, _, l, h => by cases h; exact ⟨rfl, fun i p hi => by cases hi⟩
  | n + 1, cs, l, h => by
    unfold parseUn at h
    split at h
    · omega
    · rename_i n' a b c w d e r hn
      cases hn
      cases hs : plsAt m w with
      | none => rw [hs] at h; cases h
      | some s =>
        cases hr : parseUn m n r with
        | none => rw [hs, hr] at h; cases h
        | some l' =>
          rw [hs, hr] at h
          cases h
          obtain ⟨h1, h2⟩ := parseUn_at hr
          refine ⟨by simp [h1], fun i p hi => ?_⟩
          match i with
          | 0 => cases hi; exact ⟨w, rfl, plsAt_sl hs⟩
          | i + 1 =>
            have := h2 i p (by simpa using hi)
            rw [show (i + 1) * 6 = i * 6 + 1 + 1 + 1 + 1 + 1 + 1 by omega, List.drop_succ_cons, List.drop_succ_cons, List.drop_succ_cons, List.drop_succ_cons, List.drop_succ_cons, List.drop_succ_cons]
            exact this
    · cases h
theorem unsAt_sl {v : Value} {l : List Un} (h : unsAt m v = some l) : Sl m l v := by
  unfold unsAt at h
  split at h
  · cases h; exact .inl ⟨rfl, rfl⟩
  · rename_i a n c
    split at h
    · rename_i cs e g hsp hg
      cases hc : (Nat.beq e 57 && Nat.ble (a.off + n * 6) cs.length) with
      | false => rw [hc] at h; cases h
      | true =>
        rw [hc, cond_true] at h
        rw [Bool.and_eq_true] at hc
        obtain rfl := Nat.eq_of_beq_eq_true hc.1
        have hle := Nat.le_of_ble_eq_true hc.2
        obtain ⟨h1, h2⟩ := parseUn_at h
        obtain ⟨ab, ao, sp⟩ := a
        have hsp : sp = none := hsp
        subst hsp
        refine .inr ⟨ab, ao, c, cs, g, by rw [h1], hg, by rw [h1]; exact hle, fun i u hi => ?_⟩
        obtain ⟨w, hw, hs⟩ := h2 i u hi
        rw [List.drop_drop] at hw
        exact ⟨w, hw, hs⟩
    · cases h
  · cases h
/-- What is known. -/
noncomputable def planeX : CallFn := fun fn args m =>
  match fn with
  | .func f =>
    bif Nat.beq f 77 then
      match args with
      | [v] => match plsAt m v with | some l => bif Nat.ble l.length 1000 then some (.bool (validB l), m) else none | none => none
      | _ => none
    else bif Nat.beq f 33 then
      match args with
      | [v, .int .i64 x, .int .i64 y] => match plsAt m v with | some l => bif Nat.ble l.length 1000 then some (.int .i64 (cellZ l x y), m) else none | none => none
      | _ => none
    else bif Nat.beq f 48 then
      match args with
      | [.agg a, .bool b] => match a.toList with
        | [v] => match unsAt m v with
          | some us => bif Nat.ble us.length 1000 && us.all (fun u => validB u.shape) then some (drV 40 40 (.slice (some ⟨m.n, 0, none⟩) 1600 1600), m.push (.cells ((elevL us b).map (.int .i64)) 3 (some 1))) else none
          | none => none
        | _ => none
      | _ => none
    else none
  | _ => none
end Go.Proofs.YtjecgmfildhpiaaGreatDoor

/- What is known of plane.Valid, plane.Cell and the elevation is so. -/
namespace Go.Proofs.YtjecgmfildhpiaaGreatDoor
open Go Go.D
variable {m : M}

theorem noX_no : NoX noX := ⟨fun _ _ _ _ => rfl⟩
theorem ints_chunk : ∀ {l : List Int} {cs : List Value}, cs.length = l.length * 1 → (∀ i x, l[i]? = some x → chunk cs 1 i = [.int .i64 x]) → cs = l.map (.int .i64)
  | [], cs, h, _ => List.length_eq_zero_iff.1 (by simpa using h)
  | x :: l, a :: cs, h, hc => by
    have h0 := hc 0 x rfl
    simp only [chunk, Nat.zero_mul, List.drop_zero, List.take_succ_cons, List.take_zero] at h0
    injection h0 with h0
    rw [h0, List.map_cons, ← ints_chunk (l := l) (cs := cs) (by simp at h; omega) (fun i y hi => by
      have := hc (i + 1) y (by simpa using hi)
      simp only [chunk, Nat.mul_one, List.drop_succ_cons] at this ⊢
      exact this)]
  | x :: l, [], h, _ => by simp at h
theorem elevL_len {us : List Un} {b : Bool} : (elevL us b).length = 1600 := by unfold elevL; rw [gridZ_len]
theorem drawing_res {σ : Sg} {m1 : M} {w w' : World} {v1 : Value} {l : List Int} (hs : Sim Tryz.prog σ m w) (ho : Ow m.n m1 l v1) (hl : 0 < l.length) {e : Ending} (h : CallRes Tryz.prog σ (m.wl m.n) w (drV 40 40 v1) (m1.wl m.n) e w') :
    CallRes Tryz.prog σ m w (drV 40 40 (.slice (some ⟨m.n, 0, none⟩) l.length l.length)) (m.push (.cells (l.map (.int .i64)) 3 (some 1))) e w' := by
  obtain ⟨v', σ', rfl, hv, he⟩ := h
  rcases ho with ⟨_, rfl⟩ | ⟨b, cs, rfl, _, hb, hg, hcl, hch⟩
  · simp at hl
  have hcs : cs = l.map (.int .i64) := ints_chunk hcl hch
  subst hcs
  cases hv with
  | flat _ h => cases h
  | agg a a' ha h1 =>
    obtain ⟨τ, hvs, hev⟩ : ∃ τ, VRel τ (.slice (some ⟨m.n, 0, none⟩) l.length l.length) ((a'.toList[2]?).getD undef) ∧ Ev Tryz.prog σ m w τ (m.push (.cells (l.map (.int .i64)) 3 (some 1))) w' := by
      have hlt : 2 < a'.size := by rw [← ha]; exact Nat.lt_succ_self _
      have e2 : a'[2]? = some a'[2] := Array.getElem?_eq_getElem hlt
      have := h1 2 _ _ rfl e2
      have e3 : (a'.toList[2]?).getD undef = a'[2] := by rw [Array.getElem?_toList, e2]; rfl
      rw [e3]
      exact Ev.row hs he hb hg (fun u hu => by obtain ⟨z, _, rfl⟩ := List.mem_map.1 hu; rfl) this hl
    refine ⟨.agg a', τ, rfl, .agg _ _ ha fun j u u' hu hu' => ?_, hev⟩
    match j with
    | 0 =>
      have := (h1 0 _ _ rfl hu').eq_of_flat0 rfl
      cases hu
      rw [this]
      exact .flat _ rfl
    | 1 =>
      have := (h1 1 _ _ rfl hu').eq_of_flat0 rfl
      cases hu
      rw [this]
      exact .flat _ rfl
    | 2 =>
      cases hu
      have e3 : (a'.toList[2]?).getD undef = u' := by rw [Array.getElem?_toList, hu']; rfl
      rw [← e3]
      exact hvs
    | j + 3 => simp at hu
theorem planeX_ok : CallOK Tryz.prog planeX := by
  refine ⟨fun f args m v m' hx σ w args' hs hl => ?_, fun l args m v m' hx => by simp [planeX] at hx, fun f args m v m' hx => ?_, fun a m v m' b hx => by
    have e : planeX (.func stN) [.pointer (some a)] m = none := rfl
    rw [e] at hx
    cases hx⟩
  · unfold planeX at hx
    dsimp only at hx
    cases h1 : Nat.beq f 77 with
    | true =>
      obtain rfl := Nat.eq_of_beq_eq_true h1
      rw [h1, cond_true] at hx
      split at hx
      · rename_i v0
        split at hx
        · rename_i l hp
          cases hlen : Nat.ble l.length 1000 with
          | false => rw [hlen] at hx; cases hx
          | true =>
            rw [hlen, cond_true] at hx
            cases hx
            have hle := Nat.le_of_ble_eq_true hlen
            have hc := Cl.calls Tab.ok noX_ok (valid_ok noX_no (plsAt_sl hp) (by omega)) hs hl
            exact ⟨hc.1.mono fun e w' h => h.flat hs rfl, hc.2⟩
        · cases hx
      · cases hx
    | false =>
      rw [h1, cond_false] at hx
      cases h2 : Nat.beq f 33 with
      | true =>
        obtain rfl := Nat.eq_of_beq_eq_true h2
        rw [h2, cond_true] at hx
        split at hx
        · rename_i v0 x y
          split at hx
          · rename_i l hp
            cases hlen : Nat.ble l.length 1000 with
            | false => rw [hlen] at hx; cases hx
            | true =>
              rw [hlen, cond_true] at hx
              cases hx
              have hle := Nat.le_of_ble_eq_true hlen
              have hc := Cl.calls Tab.ok noX_ok (cell_ok noX_no (plsAt_sl hp) (by omega) x y) hs hl
              exact ⟨hc.1.mono fun e w' h => h.flat hs rfl, hc.2⟩
          · cases hx
        · cases hx
      | false =>
        rw [h2, cond_false] at hx
        cases h3 : Nat.beq f 48 with
        | false => rw [h3] at hx; cases hx
        | true =>
          obtain rfl := Nat.eq_of_beq_eq_true h3
          rw [h3, cond_true] at hx
          split at hx
          · rename_i a b
            split at hx
            · rename_i v0 ha
              split at hx
              · rename_i us hp
                cases hc : (Nat.ble us.length 1000 && us.all (fun u => validB u.shape)) with
                | false => rw [hc] at hx; cases hx
                | true =>
                  rw [hc, cond_true] at hx
                  rw [Bool.and_eq_true] at hc
                  have hle := Nat.le_of_ble_eq_true hc.1
                  have hval : ∀ u ∈ us, validB u.shape = true := fun u hu => by
                    have := List.all_eq_true.1 hc.2 u hu
                    exact this
                  cases hx
                  obtain ⟨al⟩ := a
                  have ha : al = [v0] := ha
                  subst ha
                  obtain ⟨v1, m1, hcl, hx1, ho⟩ := elevation_ok (behind := b) noX_no (unsAt_sl hp) hval hle
                  have hcc := Cl.calls Tab.ok noX_ok hcl hs hl
                  refine ⟨hcc.1.mono fun e w' h => ?_, hcc.2⟩
                  have := drawing_res hs ho (by rw [elevL_len]; decide) h
                  rw [elevL_len] at this
                  exact this
              · cases hx
            · cases hx
          · cases hx
  · unfold planeX at hx
    cases f with
    | func f =>
      dsimp only at hx
      cases h1 : Nat.beq f 77 with
      | true =>
        rw [h1, cond_true] at hx
        split at hx
        · split at hx
          · rename_i l hp
            cases hlen : Nat.ble l.length 1000 with
            | false => rw [hlen] at hx; cases hx
            | true => rw [hlen, cond_true] at hx; cases hx; exact LK.refl
          · cases hx
        · cases hx
      | false =>
        rw [h1, cond_false] at hx
        cases h2 : Nat.beq f 33 with
        | true =>
          rw [h2, cond_true] at hx
          split at hx
          · split at hx
            · rename_i l hp
              cases hlen : Nat.ble l.length 1000 with
              | false => rw [hlen] at hx; cases hx
              | true => rw [hlen, cond_true] at hx; cases hx; exact LK.refl
            · cases hx
          · cases hx
        | false =>
          rw [h2, cond_false] at hx
          cases h3 : Nat.beq f 48 with
          | false => rw [h3] at hx; cases hx
          | true =>
            rw [h3, cond_true] at hx
            split at hx
            · split at hx
              · split at hx
                · rename_i us hp
                  cases hc : (Nat.ble us.length 1000 && us.all (fun u => validB u.shape)) with
                  | false => rw [hc] at hx; cases hx
                  | true => rw [hc, cond_true] at hx; cases hx; exact LK.push
                · cases hx
              · cases hx
            · cases hx
    | _ => cases hx
end Go.Proofs.YtjecgmfildhpiaaGreatDoor

/- The shelf contracts for strings, laid at this program (printed by the kit tool lay-plain). -/
namespace Go.Proofs
open Go.Shelf
def Tryz.lays169_ren : Go.Shelf.Ren := ⟨fun | 169 => 65 | n => n, fun | 70 => 110 | 9 => 9 | 0 => 0 | 72 => 112 | 37 => 52 | 127 => 167 | 3 => 3 | 5 => 5 | n => n, fun | n => n⟩
theorem Tryz.lays169 : Go.Proofs.Lays.n169 Tryz.prog Tryz.lays169_ren := {
  mixed := by kernel_rfl
  f169 := Tryz.func65.trans (congrArg some (by kernel_rfl))
  t0 := Tryz.underlying0
  a0 := Tryz.isAgg0
  z0 := Tryz.sizeOf0
  v0 := Tryz.zeroValue0
  t3 := Tryz.underlying3
  a3 := Tryz.isAgg3
  z3 := Tryz.sizeOf3
  v3 := Tryz.zeroValue3
  t9 := Tryz.underlying9
  a9 := Tryz.isAgg9
  z9 := Tryz.sizeOf9
  v9 := Tryz.zeroValue9
  t37 := Tryz.underlying52
  a37 := Tryz.isAgg52
  z37 := Tryz.sizeOf52
  v37 := Tryz.zeroValue52
  t70 := Tryz.underlying110
  a70 := Tryz.isAgg110
  z70 := Tryz.sizeOf110
  v70 := Tryz.zeroValue110
  t72 := Tryz.underlying112
  a72 := Tryz.isAgg112
  z72 := Tryz.sizeOf112
  v72 := Tryz.zeroValue112
  t127 := Tryz.underlying167
  a127 := Tryz.isAgg167
  z127 := Tryz.sizeOf167
  v127 := Tryz.zeroValue167 }
theorem Tryz.Builder_Extra_169 : Builder.Extra Tryz.prog Tryz.lays169_ren := {
  sizeBuilder := by kernel_rfl
  liesBuilder := by kernel_rfl
  t5 := Tryz.underlying5
  a5 := Tryz.isAgg5
  z5 := Tryz.sizeOf5
  v5 := Tryz.zeroValue5
  infoByte := by kernel_rfl
  cellsByte := by kernel_rfl
  sizeByte := by kernel_rfl
  neB5 := by decide }
def Tryz.lays156_ren : Go.Shelf.Ren := ⟨fun | 156 => 67 | 165 => 108 | 166 => 63 | 169 => 65 | 240 => 107 | 241 => 138 | 276 => 137 | 277 => 170 | n => n, fun | 31 => 42 | 9 => 9 | 3 => 3 | 4 => 4 | 0 => 0 | 20 => 20 | 72 => 112 | 76 => 115 | 70 => 110 | 37 => 52 | 75 => 114 | 127 => 167 | 164 => 192 | 5 => 5 | 80 => 118 | n => n, fun | n => n⟩
theorem Tryz.lays156 : Go.Proofs.Lays.n156 Tryz.prog Tryz.lays156_ren := {
  mixed := by kernel_rfl
  f156 := Tryz.func67.trans (congrArg some (by kernel_rfl))
  f165 := Tryz.func108.trans (congrArg some (by kernel_rfl))
  f166 := Tryz.func63.trans (congrArg some (by kernel_rfl))
  f169 := Tryz.func65.trans (congrArg some (by kernel_rfl))
  f240 := Tryz.func107.trans (congrArg some (by kernel_rfl))
  f241 := Tryz.func138.trans (congrArg some (by kernel_rfl))
  f276 := Tryz.func137.trans (congrArg some (by kernel_rfl))
  f277 := Tryz.func170.trans (congrArg some (by kernel_rfl))
  t0 := Tryz.underlying0
  a0 := Tryz.isAgg0
  z0 := Tryz.sizeOf0
  v0 := Tryz.zeroValue0
  t3 := Tryz.underlying3
  a3 := Tryz.isAgg3
  z3 := Tryz.sizeOf3
  v3 := Tryz.zeroValue3
  t4 := Tryz.underlying4
  a4 := Tryz.isAgg4
  z4 := Tryz.sizeOf4
  v4 := Tryz.zeroValue4
  t9 := Tryz.underlying9
  a9 := Tryz.isAgg9
  z9 := Tryz.sizeOf9
  v9 := Tryz.zeroValue9
  t20 := Tryz.underlying20
  a20 := Tryz.isAgg20
  z20 := Tryz.sizeOf20
  v20 := Tryz.zeroValue20
  t31 := Tryz.underlying42
  a31 := Tryz.isAgg42
  z31 := Tryz.sizeOf42
  v31 := Tryz.zeroValue42
  t37 := Tryz.underlying52
  a37 := Tryz.isAgg52
  z37 := Tryz.sizeOf52
  v37 := Tryz.zeroValue52
  t70 := Tryz.underlying110
  a70 := Tryz.isAgg110
  z70 := Tryz.sizeOf110
  v70 := Tryz.zeroValue110
  t72 := Tryz.underlying112
  a72 := Tryz.isAgg112
  z72 := Tryz.sizeOf112
  v72 := Tryz.zeroValue112
  t75 := Tryz.underlying114
  a75 := Tryz.isAgg114
  z75 := Tryz.sizeOf114
  v75 := Tryz.zeroValue114
  t76 := Tryz.underlying115
  a76 := Tryz.isAgg115
  z76 := Tryz.sizeOf115
  v76 := Tryz.zeroValue115
  t127 := Tryz.underlying167
  a127 := Tryz.isAgg167
  z127 := Tryz.sizeOf167
  v127 := Tryz.zeroValue167
  t164 := Tryz.underlying192
  a164 := Tryz.isAgg192
  z164 := Tryz.sizeOf192
  v164 := Tryz.zeroValue192 }
theorem Tryz.Builder_Extra_156 : Builder.Extra Tryz.prog Tryz.lays156_ren := {
  sizeBuilder := by kernel_rfl
  liesBuilder := by kernel_rfl
  t5 := Tryz.underlying5
  a5 := Tryz.isAgg5
  z5 := Tryz.sizeOf5
  v5 := Tryz.zeroValue5
  infoByte := by kernel_rfl
  cellsByte := by kernel_rfl
  sizeByte := by kernel_rfl
  neB5 := by decide }
def Tryz.lays143_ren : Go.Shelf.Ren := ⟨fun | 143 => 141 | 219 => 174 | 217 => 195 | 225 => 196 | 224 => 197 | 267 => 198 | 266 => 220 | 314 => 221 | n => n, fun | 9 => 9 | 3 => 3 | 4 => 4 | 5 => 5 | 46 => 171 | 146 => 291 | 51 => 215 | n => n, fun | 1 => 0 | n => n⟩
theorem Tryz.lays143 : Go.Proofs.Lays.n143 Tryz.prog Tryz.lays143_ren := {
  mixed := by kernel_rfl
  f143 := Tryz.func141.trans (congrArg some (by kernel_rfl))
  f217 := Tryz.func195.trans (congrArg some (by kernel_rfl))
  f219 := Tryz.func174.trans (congrArg some (by kernel_rfl))
  f224 := Tryz.func197.trans (congrArg some (by kernel_rfl))
  f225 := Tryz.func196.trans (congrArg some (by kernel_rfl))
  f266 := Tryz.func220.trans (congrArg some (by kernel_rfl))
  f267 := Tryz.func198.trans (congrArg some (by kernel_rfl))
  f314 := Tryz.func221.trans (congrArg some (by kernel_rfl))
  t3 := Tryz.underlying3
  a3 := Tryz.isAgg3
  z3 := Tryz.sizeOf3
  v3 := Tryz.zeroValue3
  t4 := Tryz.underlying4
  a4 := Tryz.isAgg4
  z4 := Tryz.sizeOf4
  v4 := Tryz.zeroValue4
  t5 := Tryz.underlying5
  a5 := Tryz.isAgg5
  z5 := Tryz.sizeOf5
  v5 := Tryz.zeroValue5
  t9 := Tryz.underlying9
  a9 := Tryz.isAgg9
  z9 := Tryz.sizeOf9
  v9 := Tryz.zeroValue9
  t46 := Tryz.underlying171
  a46 := Tryz.isAgg171
  z46 := Tryz.sizeOf171
  v46 := Tryz.zeroValue171
  t51 := Tryz.underlying215
  a51 := Tryz.isAgg215
  z51 := Tryz.sizeOf215
  v51 := Tryz.zeroValue215
  t146 := Tryz.underlying291
  a146 := Tryz.isAgg291
  z146 := Tryz.sizeOf291
  v146 := Tryz.zeroValue291
  g1 := by kernel_rfl }
def Tryz.lays138_ren : Go.Shelf.Ren := ⟨fun | 138 => 140 | 195 => 171 | 218 => 173 | 143 => 141 | 219 => 174 | 217 => 195 | 225 => 196 | 224 => 197 | 267 => 198 | 266 => 220 | 314 => 221 | n => n, fun | 9 => 9 | 3 => 3 | 4 => 4 | 5 => 5 | 0 => 0 | 46 => 171 | 146 => 291 | 51 => 215 | n => n, fun | 1 => 0 | n => n⟩
theorem Tryz.lays138 : Go.Proofs.Lays.n138 Tryz.prog Tryz.lays138_ren := {
  mixed := by kernel_rfl
  f138 := Tryz.func140.trans (congrArg some (by kernel_rfl))
  f143 := Tryz.func141.trans (congrArg some (by kernel_rfl))
  f195 := Tryz.func171.trans (congrArg some (by kernel_rfl))
  f217 := Tryz.func195.trans (congrArg some (by kernel_rfl))
  f218 := Tryz.func173.trans (congrArg some (by kernel_rfl))
  f219 := Tryz.func174.trans (congrArg some (by kernel_rfl))
  f224 := Tryz.func197.trans (congrArg some (by kernel_rfl))
  f225 := Tryz.func196.trans (congrArg some (by kernel_rfl))
  f266 := Tryz.func220.trans (congrArg some (by kernel_rfl))
  f267 := Tryz.func198.trans (congrArg some (by kernel_rfl))
  f314 := Tryz.func221.trans (congrArg some (by kernel_rfl))
  t0 := Tryz.underlying0
  a0 := Tryz.isAgg0
  z0 := Tryz.sizeOf0
  v0 := Tryz.zeroValue0
  t3 := Tryz.underlying3
  a3 := Tryz.isAgg3
  z3 := Tryz.sizeOf3
  v3 := Tryz.zeroValue3
  t4 := Tryz.underlying4
  a4 := Tryz.isAgg4
  z4 := Tryz.sizeOf4
  v4 := Tryz.zeroValue4
  t5 := Tryz.underlying5
  a5 := Tryz.isAgg5
  z5 := Tryz.sizeOf5
  v5 := Tryz.zeroValue5
  t9 := Tryz.underlying9
  a9 := Tryz.isAgg9
  z9 := Tryz.sizeOf9
  v9 := Tryz.zeroValue9
  t46 := Tryz.underlying171
  a46 := Tryz.isAgg171
  z46 := Tryz.sizeOf171
  v46 := Tryz.zeroValue171
  t51 := Tryz.underlying215
  a51 := Tryz.isAgg215
  z51 := Tryz.sizeOf215
  v51 := Tryz.zeroValue215
  t146 := Tryz.underlying291
  a146 := Tryz.isAgg291
  z146 := Tryz.sizeOf291
  v146 := Tryz.zeroValue291
  g1 := by kernel_rfl }
def Tryz.lays221_ren : Go.Shelf.Ren := ⟨fun | 221 => 110 | 268 => 139 | 138 => 140 | 143 => 141 | 195 => 171 | 197 => 172 | 218 => 173 | 219 => 174 | 260 => 194 | 217 => 195 | 225 => 196 | 224 => 197 | 267 => 198 | 266 => 220 | 314 => 221 | n => n, fun | 9 => 9 | 3 => 3 | 31 => 42 | 4 => 4 | 0 => 0 | 105 => 243 | 21 => 21 | 5 => 5 | 46 => 171 | 119 => 287 | 139 => 290 | 138 => 289 | 146 => 291 | 51 => 215 | n => n, fun | 1 => 0 | 3 => 1 | 4 => 2 | n => n⟩
theorem Tryz.lays221 : Go.Proofs.Lays.n221 Tryz.prog Tryz.lays221_ren := {
  mixed := by kernel_rfl
  f138 := Tryz.func140.trans (congrArg some (by kernel_rfl))
  f143 := Tryz.func141.trans (congrArg some (by kernel_rfl))
  f195 := Tryz.func171.trans (congrArg some (by kernel_rfl))
  f197 := Tryz.func172.trans (congrArg some (by kernel_rfl))
  f217 := Tryz.func195.trans (congrArg some (by kernel_rfl))
  f218 := Tryz.func173.trans (congrArg some (by kernel_rfl))
  f219 := Tryz.func174.trans (congrArg some (by kernel_rfl))
  f221 := Tryz.func110.trans (congrArg some (by kernel_rfl))
  f224 := Tryz.func197.trans (congrArg some (by kernel_rfl))
  f225 := Tryz.func196.trans (congrArg some (by kernel_rfl))
  f260 := Tryz.func194.trans (congrArg some (by kernel_rfl))
  f266 := Tryz.func220.trans (congrArg some (by kernel_rfl))
  f267 := Tryz.func198.trans (congrArg some (by kernel_rfl))
  f268 := Tryz.func139.trans (congrArg some (by kernel_rfl))
  f314 := Tryz.func221.trans (congrArg some (by kernel_rfl))
  t0 := Tryz.underlying0
  a0 := Tryz.isAgg0
  z0 := Tryz.sizeOf0
  v0 := Tryz.zeroValue0
  t3 := Tryz.underlying3
  a3 := Tryz.isAgg3
  z3 := Tryz.sizeOf3
  v3 := Tryz.zeroValue3
  t4 := Tryz.underlying4
  a4 := Tryz.isAgg4
  z4 := Tryz.sizeOf4
  v4 := Tryz.zeroValue4
  t5 := Tryz.underlying5
  a5 := Tryz.isAgg5
  z5 := Tryz.sizeOf5
  v5 := Tryz.zeroValue5
  t9 := Tryz.underlying9
  a9 := Tryz.isAgg9
  z9 := Tryz.sizeOf9
  v9 := Tryz.zeroValue9
  t21 := Tryz.underlying21
  a21 := Tryz.isAgg21
  z21 := Tryz.sizeOf21
  v21 := Tryz.zeroValue21
  t31 := Tryz.underlying42
  a31 := Tryz.isAgg42
  z31 := Tryz.sizeOf42
  v31 := Tryz.zeroValue42
  t46 := Tryz.underlying171
  a46 := Tryz.isAgg171
  z46 := Tryz.sizeOf171
  v46 := Tryz.zeroValue171
  t51 := Tryz.underlying215
  a51 := Tryz.isAgg215
  z51 := Tryz.sizeOf215
  v51 := Tryz.zeroValue215
  t105 := Tryz.underlying243
  a105 := Tryz.isAgg243
  z105 := Tryz.sizeOf243
  v105 := Tryz.zeroValue243
  t119 := Tryz.underlying287
  a119 := Tryz.isAgg287
  z119 := Tryz.sizeOf287
  t138 := Tryz.underlying289
  a138 := Tryz.isAgg289
  z138 := Tryz.sizeOf289
  v138 := Tryz.zeroValue289
  t139 := Tryz.underlying290
  a139 := Tryz.isAgg290
  z139 := Tryz.sizeOf290
  v139 := Tryz.zeroValue290
  t146 := Tryz.underlying291
  a146 := Tryz.isAgg291
  z146 := Tryz.sizeOf291
  v146 := Tryz.zeroValue291
  g1 := by kernel_rfl
  g3 := by kernel_rfl
  g4 := by kernel_rfl }
end Go.Proofs
