/- The law PermitTraces. -/
import Derived.Test.YtbpmlholiohkpaaGreatDoorC8
import Derived.Test.YtbpmlholiohkpaaGreatDoorC9
import Derived.Test.YtbpmlholiohkpaaGreatDoorFk6
/- The law PermitTraces. -/
namespace Go.D
open Go
section
variable {E : Env} {m : M} {T : TypeId} {α : Type} [Rep α] {n1 : Nat} {l ys : List α} {v y : Value}
theorem Ow.row (h : Ow n1 m l v) : ∀ a n k, v = .slice (some a) n k → ∃ cs g, m.get a.block = .cells cs (Rep.ty α) g := by
  rcases h with ⟨rfl, rfl⟩ | ⟨b, cs, rfl, h2, h3, h4, _⟩
  · intro a n k e; cases e
  · intro a n k e; cases e; exact ⟨cs, _, h4⟩
/-- append, and what it leaves. -/
theorem Ow.append_all (hT : ApT E T α) (hty : Rep.ty α ∉ Rep.tys α) (h : Ow n1 m l v) (hy : Sl m ys y) (hn : n1 ≤ m.n) (hs : l.length + ys.length ≤ 1000000) :
    ∃ v' m1, builtin? E (m.wl m.n) .append [T, T] [v, y] = some (v', m1) ∧ Ow n1 m1 (l ++ ys) v' ∧ (∀ c, c < m.n → (∀ a n k, v = .slice (some a) n k → c ≠ a.block) → m1.get c = m.get c) ∧ n1 ≤ m1.low ∧ m.n ≤ m1.n ∧
      (∀ c cs t g, m.get c = .cells cs t g → t ≠ Rep.ty α → m1.get c = .cells cs t g) ∧ (∀ c, c < n1 → m1.get c = m.get c) := by
  obtain ⟨v', m1, e1, e2, e3, e4, e5⟩ := h.append hT hty hy hn (by omega)
  have ho := fun c hc hs => append_other (c := c) e1 hc hs
  refine ⟨v', m1, e1, e2, ho, e4, e3.n, fun c cs t g hc ht => ?_, e3.get⟩
  rw [ho c (M.lt_of_get hc) fun a n k hv e => ?_, hc]
  obtain ⟨cs', g', hr⟩ := h.row a n k hv
  rw [← e, hc] at hr
  cases hr
  exact ht rfl
end
theorem take_of_get {bc l : List Value} {o : Nat} (h : ∀ i, i < l.length → bc[o + i]? = l[i]?) : (bc.drop o).take l.length = l := by
  apply List.ext_getElem?
  intro i
  by_cases hi : i < l.length
  · rw [List.getElem?_take_of_lt hi, List.getElem?_drop, h i hi]
  · rw [List.getElem?_eq_none (by rw [List.length_take]; omega), List.getElem?_eq_none (by omega)]
end Go.D
namespace Go.Proofs.YtbpmlholiohkpaaGreatDoor
open Go Go.D
variable {X : CallFn} {m : M}
instance repAr5 : Rep (Ar 5) where
  ty := 30
  sz := 5
  agg := true
  tys := []
  rep := fun _ x cs => cs = x.l.map (.int .i64)
  pos := by decide
  one := fun h => by cases h
  len := by rintro _ x _ rfl; simp [x.len]
  ones := by rintro _ x _ rfl; exact x.ones
  keep := fun h _ => h
theorem slt_ar5 : SlT Tab.env 77 30 (Ar 5) := ⟨Tab.t77, Tab.t30, by kernel_rfl, ⟨_, rfl⟩, rfl, by kernel_rfl, rfl, rfl⟩
theorem Ar.five (x : Ar 5) : ∃ a b c d e, x.l = [a, b, c, d, e] ∧ InR a ∧ InR b ∧ InR c ∧ InR d ∧ InR e := by
  obtain ⟨l, hl, hr⟩ := x
  match l, hl, hr with
  | [a, b, c, d, e], _, hr => exact ⟨a, b, c, d, e, rfl, hr _ (by simp), hr _ (by simp), hr _ (by simp), hr _ (by simp), hr _ (by simp)⟩
instance repWish : Rep Wish where
  ty := 45
  sz := 5
  agg := true
  tys := []
  rep := fun _ x cs => cs = x.c
  pos := by decide
  one := fun h => by cases h
  len := by rintro _ _ _ rfl; rfl
  ones := by rintro _ _ _ rfl; rfl
  keep := fun h _ => h
theorem slt_wish : SlT Tab.env 79 45 Wish := ⟨Tab.t79, Tab.t45, by kernel_rfl, ⟨_, rfl⟩, rfl, by kernel_rfl, rfl, rfl⟩
theorem apt_wish : ApT Tab.env 79 Wish := ⟨Tab.t79, Tab.t45, by kernel_rfl, rfl, rfl, by kernel_rfl, by decide, rfl⟩
theorem buildSlice_w {a b c d e : Value} : buildSlice? Tab.env m 79 1 [(0, .agg #[a, b, c, d, e])] = some (.slice (some ⟨m.n, 0, none⟩) 1 1, m.push (.cells [a, b, c, d, e] 45 none)) := by
  simp only [buildSlice?, show Tab.env.ty.get 79 = some Tab.t79 by kernel_rfl, Tab.t79, show zero? Tab.env 45 = some (.agg #[.int .i64 0, .int .i64 0, .int .i64 0, .int .i64 0, .int .i64 0]) by kernel_rfl, cells_agg]
  rfl
theorem buildSlice_rl {a b c d e f g h : Value} : buildSlice? Tab.env m 78 1 [(0, .agg #[a, b, c, d, e, f, g, h])] = some (.slice (some ⟨m.n, 0, none⟩) 1 1, m.push (.cells [a, b, c, d, e, f, g, h] 81 none)) := by
  simp only [buildSlice?, show Tab.env.ty.get 78 = some Tab.t78 by kernel_rfl, Tab.t78, show zero? Tab.env 81 = some (.agg #[.int .i64 0, .int .i64 0, .int .i64 0, .bool false, .bool false, .slice none 0 0, .int .i64 0, .int .i64 0]) by kernel_rfl, cells_agg]
  rfl
/-- A ruling about a wish. -/
structure Rules (r : Registry) (n k : Int) (w : Wish) (x : Ruling) : Prop where
  ok : w.ok = true
  q : w.query = x.query n k
  a : x.a = allowedS r w
  nd : x.n = neededS r w
  d : x.d = deedS r w
  g : x.g = grantS r w
  fit : x.Fit r n k
/-- What is so of a wish if clauses that its proof does not lean on are repealed. -/
theorem few_same {r : Registry} {n k : Int} {w : Wish} {x : Ruling} (h : Rules r n k w x) {rs : List Repeal} (hok : (r.law.few rs).ok = true) (hrs : ∀ c, leansP r.law n k x c → ∀ z ∈ rs, z.cl ≠ c) :
    neededS ⟨r.law.few rs, r.deeds, r.grants⟩ w = neededS r w ∧ allowedS ⟨r.law.few rs, r.deeds, r.grants⟩ w = allowedS r w := by
  have hp : provesS (r.law.few rs) (x.query n k) (x.query n k).says x.n x.lst = true := few_proves h.fit.pr fun y hy z hz r' hr' => hrs z ⟨y, hy, hz⟩ r' hr'
  have h1 := proves_sound hok hp
  have hn : neededS ⟨r.law.few rs, r.deeds, r.grants⟩ w = neededS r w := by
    rw [← h.nd, h1]
    unfold neededS
    rw [h.q]
  refine ⟨hn, ?_⟩
  unfold allowedS
  rw [hn]
  rfl
theorem wish_unit {cl : List Clause} {a b c d e : Int} : 0 ≤ (wishS cl a b c d e).unit ∧ (wishS cl a b c d e).unit ≤ 2 := by
  have p := pickS_bounds (c := b) (n := 3) (by omega)
  show 0 ≤ pickS b 3 ∧ pickS b 3 ≤ 2
  omega
set_option maxRecDepth 100000 in
theorem permitTraces_ok (hX : NoX X) (h8 : ∀ m : M, 0 < m.n → X (.func 8) [] m = some (.bool true, m)) (h48 : Sorts X) (hm : 0 < m.n) {x : Value} (n1 : NumV m x) {yl : List (Ar 5)} {vy : Value} (ny : SlI m yl vy) (zy : yl.length < 9223372036854775808) {day known : Int} (r5 : InR day) (r6 : InR known) :
    C X (.func 6) [x, vy, .int .i64 day, .int .i64 known] m m.n (.bool true) m := by
  obtain ⟨s1, s2, s3, s4, s5, s6, rfl⟩ := n1.form
  refine Cl.flatJ (hX.no 6 rfl) fn_6 rfl rfl ?_
  rw [FJ6]; dsimp only [plainW]
  refine onM_push fun m1 hn1 hg1 hk1 => ?_
  simp only [cells_agg] at hg1
  have he1 : Ext m m1 := ⟨by omega, hk1⟩
  refine onC_of (Cl.known (fun l => h8 (m1.wl l) (by show 0 < m1.n; omega)) (Nat.le_refl _) ⟨_, rfl⟩) ?_
  simp only [ptrTo, onS_some, on2_some, ifV_bool, ifB_true, ifB_false, bin_leq, bin_lss, bin_geq, bin_gtr, bin_eql, bin_neq, un_not, ptrTo, nilck_ptr, Nat.zero_add, Nat.reduceAdd, List.getElem?_cons_zero, List.getElem?_cons_succ, List.drop_zero, List.drop_succ_cons, List.take_succ_cons, List.take_zero, Option.map_some, cells_agg, cells_int, cells_bool]
  rw [load_29, loadCells_of hg1 (by simp)]
  simp only [Option.map_some, onS_some]
  obtain ⟨r, v1, v2, v3, v4, v5, m8, hc8, hr8, hgd, he8⟩ := (n1.keepE he1).made hX
  refine onC_of (show C X (.func 9) [Value.agg (List.take 6 (List.drop 0 [s1, s2, s3, s4, s5, s6])).toArray] m1 m1.n _ m8 from hc8) ?_
  obtain ⟨o1, o2, o3, o4, o5⟩ := hr8.ones
  refine onM_push fun m10 hn10 hg10 hk10 => ?_
  refine on2_storeV ty_42 hg10 (by rfl) (by rfl) (by simp [cells_agg, o1, o2, o3, o4, o5]) fun m11 hn11 hg11 hk11 => ?_
  simp only [cells_agg] at hg11
  have he11 : Ext m8 m11 := ⟨by omega, fun b hb => by rw [hk11 b (by omega), hk10 b hb]⟩
  have hr11 := hr8.keepE he11
  have hE11 := (he1.trans he8).trans he11
  have hn8 := he8.n
  refine onC_of (pick19_ok hX r5 (by omega)) ?_
  refine onC_of (pick19_ok hX r6 (by omega)) ?_
  have pn := pickS_bounds (c := day) (n := 100) (by omega)
  have pk := pickS_bounds (c := known) (n := 100) (by omega)
  generalize pickS day 100 = n at pn ⊢
  generalize pickS known 100 = k at pk ⊢
  have hrs := hgd.sized
  have hro := hgd.ok
  have hlo0 : m.n ≤ min (min (min (min (min m.n m1.n) m1.n) m8.n) m11.n) m11.n := by omega
  -- the wishes and the rulings
  refine Lp.intro (γ := Nat) (fun i => yl.length - i) (fun i vs mm lo => ∃ (u vw vr : Value) (wl : List Wish) (rl : List Ruling), vs = [u, vw, vr, .int .i64 i] ∧ i ≤ yl.length ∧ i ≤ 6 ∧ KC m11 mm ∧ m.n ≤ lo ∧ Ow m11.n mm wl vw ∧ Ow m11.n mm rl vr ∧ wl.length = i ∧ rl.length = i ∧ (∀ (j : Nat) (w : Wish) (x : Ruling), wl[j]? = some w → rl[j]? = some x → Rules r n k w x)) 0
    ⟨_, _, _, [], [], rfl, Nat.zero_le _, by omega, .refl, hlo0, .nil, .nil, rfl, rfl, fun j w x h => by simp at h⟩ ?_
  rintro i vs mm lo ⟨u, vw, vr, wl, rl, rfl, hi, hi6, hE, hlo, hOw, hOr, hwl, hrl, hru⟩
  have hbr := hE.get _ _ _ _ hg11
  have hrm := hE.reg hr11
  have hmn := hE.n
  have hym : SlI mm yl vy := by
    rcases ny.keepE hE11 with h | ⟨b, o, c, bc, h1, h2, h3⟩
    · exact .inl h
    · exact .inr ⟨b, o, c, bc, h1, hE.ro _ _ h2, h3⟩
  simp only [un_cons]
  refine jn_of (fun vs m' lo' => vs = [.bool (decide (i < yl.length) && decide (i < 6))] ∧ mm = m' ∧ lo = lo') (fun R hR => ?_) ?_
  · simp only [hym.len slt_ar5, onS_some, on2_some, ifV_bool, ifB_true, ifB_false, bin_leq, bin_lss, bin_geq, bin_gtr, bin_eql, bin_neq, un_not, ptrTo, nilck_ptr, Nat.zero_add, Nat.reduceAdd, List.getElem?_cons_zero, List.getElem?_cons_succ, List.drop_zero, List.drop_succ_cons, List.take_succ_cons, List.take_zero, Option.map_some, cells_agg, cells_int, cells_bool]
    refine ifB_intro (fun hc => hR _ _ _ ⟨?_, rfl, rfl⟩) (fun hc => hR _ _ _ ⟨?_, rfl, rfl⟩)
    · have : i < yl.length := by simpa using hc
      have e : decide ((i : Int) < 6) = decide (i < 6) := by by_cases h : i < 6 <;> simp [h] <;> omega
      simp [this, e]
    · have : ¬ i < yl.length := by simpa using hc
      simp [this]
  rintro _ _ _ ⟨rfl, rfl, rfl⟩
  rw [un_cons, ifV_bool]
  refine ifB_intro (fun hc => ?_) (fun hc => ?_)
  · simp only [Bool.and_eq_true, decide_eq_true_eq] at hc
    obtain ⟨hlt, hlt6⟩ := hc
    have hx : yl[i]? = some yl[i] := List.getElem?_eq_getElem hlt
    obtain ⟨p, cs, e1, e2, rfl⟩ := hym.index slt_ar5 (k := .i64) hx
    obtain ⟨a, b, c, d, e, hy, q0, q1, q2, q3, q4⟩ := yl[i].five
    rw [hy] at e2
    rw [load_42, loadCells_of hbr (by simp), Option.map_some, onS_some, e1, onS_some, e2, onS_some, val_agg rfl]
    refine onC_of (show C X (.func 10) [Value.agg (List.take 5 (List.drop 0 [v1, v2, v3, v4, v5])).toArray, Value.agg (List.map (Value.int .i64) [a, b, c, d, e]).toArray] mm mm.n _ mm from wish_ok hX hrm hgd.cs (by have := hgd.nc; omega) q0 q1 q2 q3 q4) ?_
    refine ⟨Nat.le_refl _, ?_⟩
    have hwo := wishS_ok hgd.cs a b c d e
    have hwu := wish_unit (cl := r.law.clauses) (a := a) (b := b) (c := c) (d := d) (e := e)
    generalize wishS r.law.clauses a b c d e = w0 at hwo hwu
    refine onM_push fun m47 hn47 hg47 hk47 => ?_
    refine on2_storeV ty_45 hg47 (by rfl) (by rfl) rfl fun m48 hn48 hg48 hk48 => ?_
    simp only [cells_agg] at hg48
    simp only [fieldAddr_45_3, fieldAddr_45_4, onS_some]
    refine on2_store ty_3 hg48 (by rfl) (by simp [cells_int]) rfl fun m51 hn51 hg51 hk51 => ?_
    refine on2_store ty_3 hg51 (by rfl) (by simp [cells_int]) rfl fun m54 hn54 hg54 hk54 => ?_
    have hwk : ({ w0 with day := n, known := k } : Wish).ok = true := by
      simp only [Wish.ok, inB, Bool.and_eq_true, decide_eq_true_eq] at hwo ⊢
      omega
    have hg54' : m54.get mm.n = .cells (Wish.c { w0 with day := n, known := k }) 45 none := hg54
    have hwd : ({ w0 with day := n, known := k } : Wish).day = n ∧ ({ w0 with day := n, known := k } : Wish).known = k ∧ 0 ≤ ({ w0 with day := n, known := k } : Wish).unit ∧ ({ w0 with day := n, known := k } : Wish).unit ≤ 2 := ⟨rfl, rfl, hwu⟩
    generalize ({ w0 with day := n, known := k } : Wish) = w at hg54' hwk hwd
    have he54 : Ext mm m54 := ⟨by omega, fun b hb => by rw [hk54 b (by omega), hk51 b (by omega), hk48 b (by omega), hk47 b hb]⟩
    have hE54 : KC m11 m54 := hE.trans (.of_ext he54)
    rw [load_42, loadCells_of (he54.cells hbr) (by simp), Option.map_some, onS_some, load_45, loadCells_of hg54' (by simp), Option.map_some, onS_some]
    obtain ⟨pv, lst, m59, hc59, hS59, hpr, hll, hK59⟩ := pdecide_ok hX (hE54.reg hr11) hrs hro w hwk
    refine onC_of (show C X (.func 11) [Value.agg (List.take 5 (List.drop 0 [v1, v2, v3, v4, v5])).toArray, Value.agg (List.take 5 (List.drop 0 w.c)).toArray] m54 m54.n _ m59 from hc59) ?_
    simp only [extr_tuple, onS_some, on2_some, ifV_bool, ifB_true, ifB_false, bin_leq, bin_lss, bin_geq, bin_gtr, bin_eql, bin_neq, un_not, ptrTo, nilck_ptr, Nat.zero_add, Nat.reduceAdd, List.getElem?_cons_zero, List.getElem?_cons_succ, List.drop_zero, List.drop_succ_cons, List.take_succ_cons, List.take_zero, Option.map_some, cells_agg, cells_int, cells_bool]
    refine onM_push fun m63 hn63 hg63 hk63 => ?_
    refine on2_storeV ty_49 hg63 (by rfl) (by rfl) (by simp [cells_agg, hS59.one]; exact ⟨rfl, rfl, rfl, rfl⟩) fun m64 hn64 hg64 hk64 => ?_
    simp only [cells_agg] at hg64
    have he64 : Ext m59 m64 := ⟨by omega, fun b hb => by rw [hk64 b (by omega), hk63 b hb]⟩
    have hK64 : KC m54 m64 := hK59.trans (.of_ext he64)
    have hKm : KC mm m64 := (KC.of_ext he54).trans hK64
    have hg64w := hK64.get _ _ _ _ hg54'
    have hn59 := hK59.n
    have hne : lst ≠ [] := by
      rintro rfl
      simp [provesS] at hpr
    refine ifB_intro (fun h => by simp at h) (fun _ => ?_)
    rw [load_45, loadCells_of hg64w (by simp), Option.map_some, onS_some]
    simp only [List.drop_zero, List.take_succ_cons, List.take_zero]
    rw [buildSlice_w, on2_some]
    have hsl : Sl (m64.push (.cells w.c 45 none)) [w] (.slice (some ⟨m64.n, 0, none⟩) 1 1) := sl_one (x := w) rfl
    have he69 : Ext m64 (m64.push (.cells w.c 45 none)) := Ext.refl.push
    have hn69 : (m64.push (.cells w.c 45 none)).n = m64.n + 1 := M.push_n
    generalize m64.push (.cells w.c 45 none) = m69 at hsl he69 hn69 ⊢
    have hK69 : KC mm m69 := hKm.trans (.of_ext he69)
    have hOw69 : Ow m11.n m69 wl vw := hOw.keep fun b c t g hb _ => hK69.get _ _ _ _ hb
    have hOr69 : Ow m11.n m69 rl vr := hOr.keep fun b c t g hb _ => hK69.get _ _ _ _ hb
    obtain ⟨v70, m71, e71, hOw71, hot71, hlow71, hn71, hty71, hold71⟩ := hOw69.append_all apt_wish (by simp [Rep.tys]) hsl (by omega) (by simp; omega)
    rw [e71, on2_some]
    have hrow : ∀ a n k, vw = .slice (some a) n k → a.block < mm.n := fun a n k e => by
      obtain ⟨cs, g, h⟩ := hOw.row a n k e
      exact M.lt_of_get h
    have hnew : ∀ b, mm.n ≤ b → b < m69.n → m71.get b = m69.get b := fun b h1 h2 => hot71 b h2 fun a n k e => by have := hrow a n k e; omega
    have hg71w : m71.get mm.n = .cells w.c 45 none := by rw [hnew _ (Nat.le_refl _) (by omega)]; exact he69.cells hg64w
    have hg71d : m71.get m59.n = .cells [.bool (allowedS r w), .bool (neededS r w), pv, .int .i64 (deedS r w), .int .i64 (grantS r w)] 49 none := by rw [hnew _ (by omega) (by omega)]; exact he69.cells hg64
    have hOr71 : Ow m11.n m71 rl vr := hOr69.keep fun b c t g hb ht => hty71 _ _ _ _ hb (by rintro rfl; simp [Rep.tys, Rep.ty] at ht)
    have hS71 : Sl m71 lst pv := ((hS59.keepE he64).keepE he69).keep fun b c t g hb ht => hty71 _ _ _ _ hb (by rintro rfl; simp [Rep.tys, Rep.ty] at ht)
    simp only [fieldAddr_45_0, fieldAddr_45_1, load_3, cellAt_of hg71w, onS_some, on2_some, ifV_bool, ifB_true, ifB_false, bin_leq, bin_lss, bin_geq, bin_gtr, bin_eql, bin_neq, un_not, ptrTo, nilck_ptr, Nat.zero_add, Nat.reduceAdd, List.getElem?_cons_zero, List.getElem?_cons_succ, List.drop_zero, List.drop_succ_cons, List.take_succ_cons, List.take_zero, Option.map_some, cells_agg, cells_int, cells_bool]
    rw [load_49, loadCells_of hg71d (by simp), Option.map_some, onS_some, build_81_0_1_2_3 rfl rfl rfl (by simp [cells_agg]), onS_some]
    simp only [cells_int, cells_agg, List.cons_append, List.nil_append, List.drop_zero, List.take_succ_cons, List.take_zero]
    rw [buildSlice_rl, on2_some]
    have hsl2 : Sl (m71.push (.cells [.int .i64 i, .int .i64 w.kind, .int .i64 w.unit, .bool (allowedS r w), .bool (neededS r w), pv, .int .i64 (deedS r w), .int .i64 (grantS r w)] 81 none)) [(⟨i, w.kind, w.unit, allowedS r w, neededS r w, lst, deedS r w, grantS r w⟩ : Ruling)] (.slice (some ⟨m71.n, 0, none⟩) 1 1) := sl_one (m := m71) ⟨pv, rfl, hS71⟩
    have he79 : Ext m71 (m71.push (.cells [.int .i64 i, .int .i64 w.kind, .int .i64 w.unit, .bool (allowedS r w), .bool (neededS r w), pv, .int .i64 (deedS r w), .int .i64 (grantS r w)] 81 none)) := Ext.refl.push
    have hn79 : (m71.push (.cells [.int .i64 i, .int .i64 w.kind, .int .i64 w.unit, .bool (allowedS r w), .bool (neededS r w), pv, .int .i64 (deedS r w), .int .i64 (grantS r w)] 81 none)).n = m71.n + 1 := M.push_n
    generalize m71.push (.cells [.int .i64 i, .int .i64 w.kind, .int .i64 w.unit, .bool (allowedS r w), .bool (neededS r w), pv, .int .i64 (deedS r w), .int .i64 (grantS r w)] 81 none) = m79 at hsl2 he79 hn79 ⊢
    obtain ⟨v80, m81, e81, hOr81, hot81, hlow81, hn81, hty81, hold81⟩ := (hOr71.keepE he79).append_all apt_ruling (by simp [Rep.tys, Rep.ty]) hsl2 (by omega) (by simp; omega)
    rw [e81, on2_some]
    have hOw81 : Ow m11.n m81 (wl ++ [w]) v70 := (hOw71.keepE he79).keep fun b c t g hb ht => hty81 _ _ _ _ hb (by rintro rfl; simp [Rep.tys, Rep.ty] at ht)
    simp only [bin_add, onS_some]
    have hl3 : m.n ≤ mm.n ∧ m.n ≤ m54.n ∧ m.n ≤ m59.n ∧ m.n ≤ m71.low ∧ m.n ≤ m81.low := by have := hE11.n; omega
    refine ⟨i + 1, by omega, u, v70, v80, wl ++ [w], rl ++ [⟨i, w.kind, w.unit, allowedS r w, neededS r w, lst, deedS r w, grantS r w⟩], ?_, by omega, by omega, ⟨by omega, fun c cs t g hc => ?_, fun c cs hc => ?_⟩, by simp only [Nat.le_min, hlo, hl3, and_self], hOw81, hOr81, by simp [hwl], by simp [hrl], fun j w' x' hj hj' => ?_⟩
    · rw [wrap64 (by omega) (by omega)]; rfl
    · have hlt := M.lt_of_get hc
      rw [hold81 c hlt, he79.get c (by omega), hold71 c hlt]
      exact hK69.get _ _ _ _ (hE.get _ _ _ _ hc)
    · have hlt := lt_of_ro hc
      rw [hold81 c hlt, he79.get c (by omega), hold71 c hlt]
      exact hK69.ro _ _ (hE.ro _ _ hc)
    · by_cases hji : j < i
      · rw [List.getElem?_append_left (by omega)] at hj hj'
        exact hru j w' x' hj hj'
      · rw [List.getElem?_append_right (by omega)] at hj hj'
        rw [hwl] at hj
        rw [hrl] at hj'
        cases hk3 : j - i with
        | succ q => rw [hk3] at hj; simp at hj
        | zero =>
          rw [hk3] at hj hj'
          simp only [List.getElem?_cons_zero, Option.some.injEq] at hj hj'
          subst hj
          subst hj'
          have hwk' := hwk
          simp only [Wish.ok, inB, Bool.and_eq_true, decide_eq_true_eq] at hwk'
          have hq : w.query = Ruling.query ⟨i, w.kind, w.unit, allowedS r w, neededS r w, lst, deedS r w, grantS r w⟩ n k := by
            show (⟨w.unit, 10 + w.kind, w.day, w.known⟩ : Query) = ⟨w.unit, 10 + w.kind, n, k⟩
            rw [hwd.1, hwd.2.1]
          refine ⟨hwk, hq, rfl, rfl, rfl, rfl, ⟨hwd.2.2, ⟨by show 1 ≤ w.kind; omega, by show w.kind ≤ 9; omega⟩, hll, ?_⟩⟩
          rw [← hq]
          exact hpr
  · clear hc
    have hrl6 : rl.length ≤ 6 := by omega
    have hpair : ∀ j x, rl[j]? = some x → ∃ w, wl[j]? = some w ∧ Rules r n k w x := fun j x hj => by
      have hjl := (List.getElem?_eq_some_iff.1 hj).1
      have hw : wl[j]? = some wl[j] := List.getElem?_eq_getElem (by omega)
      exact ⟨_, hw, hru j _ x hw hj⟩
    have hfit : ∀ x ∈ rl, x.Fit r n k := fun x hx => by
      obtain ⟨j, hj⟩ := List.mem_iff_getElem?.1 hx
      obtain ⟨w, _, h⟩ := hpair j x hj
      exact h.fit
    rw [load_42, loadCells_of hbr (by simp), Option.map_some, onS_some]
    obtain ⟨vt, tl, m85, hc85, hS85, htr, htll, he85⟩ := trace_ok hX h48 hrm hrs hro (by omega) (by omega) hOr.sl hrl6 hfit
    refine onC_of (show C X (.func 20) [Value.agg (List.take 5 (List.drop 0 [v1, v2, v3, v4, v5])).toArray, vr, _, _] mm mm.n _ m85 from hc85) ?_
    simp only [extr_tuple, onS_some, on2_some, ifV_bool, ifB_true, ifB_false, bin_leq, bin_lss, bin_geq, bin_gtr, bin_eql, bin_neq, un_not, ptrTo, nilck_ptr, Nat.zero_add, Nat.reduceAdd, List.getElem?_cons_zero, List.getElem?_cons_succ, List.drop_zero, List.drop_succ_cons, List.take_succ_cons, List.take_zero, Option.map_some, cells_agg, cells_int, cells_bool]
    refine ifB_intro (fun h => by simp at h) (fun _ => ?_)
    have hbr85 := he85.cells hbr
    have hr85 := hrm.keepE he85
    have hOr85 := hOr.keepE he85
    have hOw85 := hOw.keepE he85
    have hN8 := hgd.nc
    simp only [fieldAddr_42_0, fieldAddr_38_0, load_34, cellAt_of hbr85, hr85.law.clauses.len slt_clause, onS_some, on2_some, ifV_bool, ifB_true, ifB_false, bin_leq, bin_lss, bin_geq, bin_gtr, bin_eql, bin_neq, un_not, ptrTo, nilck_ptr, Nat.zero_add, Nat.reduceAdd, List.getElem?_cons_zero, List.getElem?_cons_succ, List.drop_zero, List.drop_succ_cons, List.take_succ_cons, List.take_zero, Option.map_some, cells_agg, cells_int, cells_bool]
    rw [makeTable (by omega), on2_some]
    have hg96 : (m85.push (.cells (zeros [.bool false, .bool false, .bool false] r.law.clauses.length) 88 none)).get m85.n = _ := M.get_push_new
    have hT0 := BT.fresh hg96
    have he96 : Ext m85 (m85.push (.cells (zeros [.bool false, .bool false, .bool false] r.law.clauses.length) 88 none)) := Ext.refl.push
    have hn96 : (m85.push (.cells (zeros [.bool false, .bool false, .bool false] r.law.clauses.length) 88 none)).n = m85.n + 1 := M.push_n
    generalize m85.push (.cells (zeros [.bool false, .bool false, .bool false] r.law.clauses.length) 88 none) = m96 at hg96 hT0 he96 hn96 ⊢
    have htb : ∀ t ∈ tl, (0 ≤ t.cl ∧ t.cl < r.law.clauses.length) ∧ ∀ u ∈ t.us, 0 ≤ u ∧ u ≤ 2 := fun t ht => by
      obtain ⟨h1, h2, h3⟩ := htr.us t ht
      obtain ⟨u0, hu0⟩ := List.exists_mem_of_ne_nil _ h1
      obtain ⟨x, hx, _, hle⟩ := (h3 u0).1 hu0
      refine ⟨leans_bd (hfit x hx) hle, fun u hu => ?_⟩
      obtain ⟨x', hx', rfl, _⟩ := (h3 u).1 hu
      exact (hfit x' hx').unit
    have hstr : ∀ (i j : Nat) (t t' : Trail), tl[i]? = some t → tl[j]? = some t' → i < j → t.cl < t'.cl := fun i j t t' h1 h2 hij => by
      have := List.pairwise_iff_getElem.1 htr.asc i j (by rw [List.length_map]; exact (List.getElem?_eq_some_iff.1 h1).1) (by rw [List.length_map]; exact (List.getElem?_eq_some_iff.1 h2).1) hij
      rwa [List.getElem_map, List.getElem_map, (List.getElem?_eq_some_iff.1 h1).2, (List.getElem?_eq_some_iff.1 h2).2] at this
    have h85n := he85.n
    have hm85 : m.n ≤ mm.n ∧ m.n ≤ m85.n := by have := hE11.n; omega
    -- what is traced
    refine Lp.intro (γ := Nat) (fun i => tl.length - i) (fun i vs mk lo => ∃ (u : Value) (T : Nat → Nat → Bool), vs = [u, .int .i64 i] ∧ i ≤ tl.length ∧ (∀ b, b ≠ m85.n → mk.get b = m96.get b) ∧ mk.n = m96.n ∧ m.n ≤ lo ∧ BT m85.n r.law.clauses.length T mk ∧ ∀ c u, c < r.law.clauses.length → u < 3 → (T c u = true ↔ ∃ t ∈ tl.take i, t.cl = (c : Int) ∧ (u : Int) ∈ t.us)) 0
      ⟨_, _, rfl, Nat.zero_le _, fun _ _ => rfl, rfl, by simp only [Nat.le_min, hlo, hm85, and_self], hT0, fun c u _ _ => by simp⟩ ?_
    rintro i vs mk lo2 ⟨u2, T, rfl, hi2, hkk, hkn, hlo2, hT, hTs⟩
    have hbt : ∀ b c t g, m96.get b = .cells c t g → t ≠ 88 → b ≠ m85.n := fun b c t g hb ht e => by
      subst e
      rw [hg96] at hb
      cases hb
      exact ht rfl
    have hSk : Sl mk tl vt := (hS85.keepE he96).keep fun b c t g hb ht => by rw [hkk b (hbt _ _ _ _ hb (by rintro rfl; simp [Rep.tys, Rep.ty] at ht)), hb]
    simp only [un_cons, hSk.len slt_trail, onS_some, on2_some, ifV_bool, ifB_true, ifB_false, bin_leq, bin_lss, bin_geq, bin_gtr, bin_eql, bin_neq, un_not, ptrTo, nilck_ptr, Nat.zero_add, Nat.reduceAdd, List.getElem?_cons_zero, List.getElem?_cons_succ, List.drop_zero, List.drop_succ_cons, List.take_succ_cons, List.take_zero, Option.map_some, cells_agg, cells_int, cells_bool]
    refine ifB_intro (fun hc => ?_) (fun hc => ?_)
    · have hlt : i < tl.length := by simpa using hc
      have hx : tl[i]? = some tl[i] := List.getElem?_eq_getElem hlt
      obtain ⟨⟨hcl0, hcl1⟩, hub⟩ := htb _ (List.getElem_mem hlt)
      obtain ⟨hune, hund, _⟩ := htr.us _ (List.getElem_mem hlt)
      have htk : tl.take (i + 1) = tl.take i ++ [tl[i]] := by rw [List.take_add_one, hx]; rfl
      generalize tl[i] = t at hx hcl0 hcl1 hub hune hund htk
      obtain ⟨b, o, bc, g, cs, e5, e6, ⟨vu, rfl, hvu⟩, e7, e8⟩ := hSk.indexA slt_trail (k := .i64) hx
      have q0 : bc[o + 0]? = some (.int .i64 t.cl) := e8 0 (by decide)
      have q1 : bc[o + 1]? = some vu := e8 1 (by decide)
      obtain ⟨c0, hc0⟩ : ∃ c0 : Nat, t.cl = c0 := ⟨t.cl.toNat, by omega⟩
      have husp : 0 < t.us.length := List.length_pos_iff.2 hune
      have hus3 : t.us.length ≤ 3 := nodup_len (N := 3) hund fun u hu => by have := hub u hu; omega
      have hul : decide ((t.us.length : Int) = 0) = false := by simp; omega
      refine jn_of (fun vs m' lo' => vs = [.bool false] ∧ mk = m' ∧ lo2 = lo') (fun R hR => ?_) ?_
      · simp only [e5, fieldAddr_87_0, fieldAddr_87_1, load_3, load_26, cellAt_of e6, q0, q1, tab_len, hvu.len slt_int, onS_some, on2_some, ifV_bool, ifB_true, ifB_false, bin_leq, bin_lss, bin_geq, bin_gtr, bin_eql, bin_neq, un_not, ptrTo, nilck_ptr, Nat.zero_add, Nat.reduceAdd, List.getElem?_cons_zero, List.getElem?_cons_succ, List.drop_zero, List.drop_succ_cons, List.take_succ_cons, List.take_zero, Option.map_some, cells_agg, cells_int, cells_bool]
        refine ifB_intro (fun h => absurd h (by simp; omega)) (fun _ => ?_)
        refine ifB_intro (fun h => absurd h (by simp; omega)) (fun _ => ?_)
        refine ifB_intro (fun hi0 => ?_) (fun _ => hR _ _ _ ⟨by rw [hul], rfl, rfl⟩)
        have hi0 : 0 < i := by
          have : (0 : Int) < (i : Int) := by simpa using hi0
          omega
        rw [bin_sub, onS_some, wrap64 (by omega) (by omega), show (i : Int) - 1 = ((i - 1 : Nat) : Int) by omega]
        have hx' : tl[i - 1]? = some tl[i - 1] := List.getElem?_eq_getElem (by omega)
        have hlt' := hstr (i - 1) i _ _ hx' hx (by omega)
        obtain ⟨b', o', bc', g', cs', e5', e6', ⟨vu', rfl, hvu'⟩, e7', e8'⟩ := hSk.indexA slt_trail (k := .i64) hx'
        have q0' : bc'[o' + 0]? = some (.int .i64 tl[i - 1].cl) := e8' 0 (by decide)
        simp only [e5', fieldAddr_87_0, load_3, cellAt_of e6', q0', onS_some, on2_some, ifV_bool, ifB_true, ifB_false, bin_leq, bin_lss, bin_geq, bin_gtr, bin_eql, bin_neq, un_not, ptrTo, nilck_ptr, Nat.zero_add, Nat.reduceAdd, List.getElem?_cons_zero, List.getElem?_cons_succ, List.drop_zero, List.drop_succ_cons, List.take_succ_cons, List.take_zero, Option.map_some, cells_agg, cells_int, cells_bool]
        refine ifB_intro (fun h => absurd h (by simp; omega)) (fun _ => hR _ _ _ ⟨by rw [hul], rfl, rfl⟩)
      rintro _ _ _ ⟨rfl, rfl, rfl⟩
      simp only [un_cons, ifV_bool, ifB_false]
      have hne96 : b ≠ m85.n := fun e => by
        obtain ⟨cs9, h9, _⟩ := hT
        rw [← e, e6] at h9; cases h9
      refine Lp.intro (γ := Nat) (fun j => t.us.length - j) (fun j vs mj lo => ∃ (u : Value) (T' : Nat → Nat → Bool), vs = [u, .int .i64 j] ∧ j ≤ t.us.length ∧ (∀ b, b ≠ m85.n → mj.get b = m96.get b) ∧ mj.n = m96.n ∧ m.n ≤ lo ∧ BT m85.n r.law.clauses.length T' mj ∧ ∀ c u, c < r.law.clauses.length → u < 3 → (T' c u = true ↔ T c u = true ∨ (c = c0 ∧ (u : Int) ∈ t.us.take j))) 0
        ⟨_, T, rfl, Nat.zero_le _, hkk, hkn, hlo2, hT, fun c u _ _ => by simp⟩ ?_
      rintro j vs mj lo3 ⟨u3, T', rfl, hj, hkj, hnj, hlo3, hT', hTs'⟩
      have e6j : mj.get b = .cells bc (Rep.ty Trail) g := by rw [hkj b hne96, ← hkk b hne96, e6]
      have hvuj : Sl mj t.us vu := hvu.keep fun b1 c t' g' hb ht => by
        have hb1 : b1 ≠ m85.n := fun e => by
          obtain ⟨cs9, h9, _⟩ := hT
          rw [← e, hb] at h9; cases h9; simp [Rep.tys, Rep.ty] at ht
        rw [hkj b1 hb1, ← hkk b1 hb1, hb]
      simp only [un_cons, e5, fieldAddr_87_1, load_26, cellAt_of e6j, q1, hvuj.len slt_int, onS_some, on2_some, ifV_bool, ifB_true, ifB_false, bin_leq, bin_lss, bin_geq, bin_gtr, bin_eql, bin_neq, un_not, ptrTo, nilck_ptr, Nat.zero_add, Nat.reduceAdd, List.getElem?_cons_zero, List.getElem?_cons_succ, List.drop_zero, List.drop_succ_cons, List.take_succ_cons, List.take_zero, Option.map_some, cells_agg, cells_int, cells_bool]
      refine ifB_intro (fun hc2 => ?_) (fun hc2 => ?_)
      · have hlt2 : j < t.us.length := by simpa using hc2
        have hz : t.us[j]? = some t.us[j] := List.getElem?_eq_getElem hlt2
        have hzb := hub _ (List.getElem_mem hlt2)
        have hznew : t.us[j] ∉ t.us.take j := fun hin => by
          obtain ⟨j', hj'⟩ := List.mem_iff_getElem?.1 hin
          have hjj : j' < j := by have := (List.getElem?_eq_some_iff.1 hj').1; rw [List.length_take] at this; omega
          rw [List.getElem?_take_of_lt hjj] at hj'
          have := List.pairwise_iff_getElem.1 hund j' j (List.getElem?_eq_some_iff.1 hj').1 hlt2 hjj
          exact this (List.getElem?_eq_some_iff.1 hj').2
        have htk2 : t.us.take (j + 1) = t.us.take j ++ [t.us[j]] := by rw [List.take_add_one, hz]; rfl
        generalize t.us[j] = z at hz hzb hznew htk2
        obtain ⟨z0, rfl⟩ : ∃ z0 : Nat, z = z0 := ⟨z.toNat, by omega⟩
        obtain ⟨p, cs, e3, e4, rfl⟩ := hvuj.index slt_int (k := .i64) hz
        rw [e3, onS_some, e4, onS_some, val_int]
        have hz3 : z0 < 3 := by omega
        have hc0n : c0 < r.law.clauses.length := by omega
        have hfalse : T' c0 z0 = false := by
          cases hb : T' c0 z0 with
          | false => rfl
          | true =>
            rcases (hTs' c0 z0 hc0n hz3).1 hb with h | ⟨_, h⟩
            · obtain ⟨t', ht', h1, _⟩ := (hTs c0 z0 hc0n hz3).1 h
              obtain ⟨i', hi'⟩ := List.mem_iff_getElem?.1 ht'
              have hii : i' < i := by have := (List.getElem?_eq_some_iff.1 hi').1; rw [List.length_take] at this; omega
              rw [List.getElem?_take_of_lt hii] at hi'
              have := hstr i' i _ _ hi' hx hii
              omega
            · exact absurd h hznew
        refine jn_of (fun vs m' lo' => vs = [.bool false] ∧ mj = m' ∧ lo3 = lo') (fun R hR => ?_) ?_
        · simp only [onS_some, on2_some, ifV_bool, ifB_true, ifB_false, bin_leq, bin_lss, bin_geq, bin_gtr, bin_eql, bin_neq, un_not, ptrTo, nilck_ptr, Nat.zero_add, Nat.reduceAdd, List.getElem?_cons_zero, List.getElem?_cons_succ, List.drop_zero, List.drop_succ_cons, List.take_succ_cons, List.take_zero, Option.map_some, cells_agg, cells_int, cells_bool]
          refine ifB_intro (fun h => absurd h (by simp)) (fun _ => ?_)
          refine ifB_intro (fun h => absurd h (by simp; omega)) (fun _ => ?_)
          simp only [e5, fieldAddr_87_0, load_3, cellAt_of e6j, q0, onS_some]
          rw [hc0, tab_idx hc0n, onS_some, idx88 hz3, onS_some, load_4, hT'.cell hc0n hz3, onS_some, hfalse]
          exact hR _ _ _ ⟨rfl, rfl, rfl⟩
        rintro _ _ _ ⟨rfl, rfl, rfl⟩
        simp only [un_cons, ifV_bool, ifB_false, e5, fieldAddr_87_0, load_3, cellAt_of e6j, q0, onS_some]
        rw [hc0, tab_idx hc0n, onS_some, idx88 hz3, onS_some]
        refine hT'.mark hc0n hz3 fun m183 hn183 hT183 hk183 => ?_
        simp only [bin_add, onS_some]
        refine ⟨j + 1, by omega, u3, _, ?_, by omega, fun b1 hb1 => by rw [hk183 b1 hb1, hkj b1 hb1], by omega, by omega, hT183, fun c u hc hu => ?_⟩
        · rw [wrap64 (by omega) (by omega)]; rfl
        · rw [htk2, List.mem_append, List.mem_singleton, Bool.or_eq_true, Bool.and_eq_true, decide_eq_true_eq, decide_eq_true_eq, hTs' c u hc hu]
          constructor
          · rintro (⟨rfl, rfl⟩ | h | ⟨h, h'⟩)
            · exact .inr ⟨rfl, .inr rfl⟩
            · exact .inl h
            · exact .inr ⟨h, .inl h'⟩
          · rintro (h | ⟨h, h' | h'⟩)
            · exact .inr (.inl h)
            · exact .inr (.inr ⟨h, h'⟩)
            · exact .inl ⟨h, by omega⟩
      · have hge : j = t.us.length := by
          have : ¬ ((j : Int) < (t.us.length : Int)) := by simpa using hc2
          omega
        subst hge
        rw [List.take_length] at hTs'
        simp only [bin_add, onS_some]
        refine ⟨i + 1, by omega, u3, T', ?_, by omega, hkj, hnj, hlo3, hT', fun c u hc hu => ?_⟩
        · rw [wrap64 (by omega) (by omega)]; rfl
        · rw [hTs' c u hc hu, hTs c u hc hu, htk]
          constructor
          · rintro (⟨t', h1, h2⟩ | ⟨rfl, h⟩)
            · exact ⟨t', List.mem_append_left _ h1, h2⟩
            · exact ⟨t, List.mem_append_right _ List.mem_cons_self, hc0, h⟩
          · rintro ⟨t', h1, h2, h3⟩
            rcases List.mem_append.1 h1 with h1 | h1
            · exact .inl ⟨t', h1, h2, h3⟩
            · rw [List.mem_singleton.1 h1] at h2 h3
              exact .inr ⟨by omega, h3⟩
    · have hge : i = tl.length := by
        have : ¬ ((i : Int) < (tl.length : Int)) := by simpa using hc
        omega
      subst hge
      rw [List.take_length] at hTs
      have hT1 : ∀ c u, c < r.law.clauses.length → u < 3 → (T c u = true ↔ ∃ x ∈ rl, x.unit = (u : Int) ∧ leansP r.law n k x (c : Int)) := fun c u hc hu => by
        rw [hTs c u hc hu]
        constructor
        · rintro ⟨t, ht, h1, h2⟩
          have := ((htr.us t ht).2.2 u).1 h2
          rwa [h1] at this
        · rintro ⟨x, hx, h1, h2⟩
          obtain ⟨t, ht, h3⟩ := htr.all x hx c h2
          exact ⟨t, ht, h3, ((htr.us t ht).2.2 u).2 ⟨x, hx, h1, by rwa [h3]⟩⟩
      clear hTs hSk
      have hEk : Ext m85 mk := ⟨by omega, fun b hb => by rw [hkk b (by omega), he96.get b hb]⟩
      have hbrk := hEk.cells hbr85
      have hrk := hr85.keepE hEk
      have hOrk := hOr85.keepE hEk
      have hOwk := hOw85.keepE hEk
      have hmk : m.n ≤ mk.n := by omega
      rw [tab_len, on2_some, makeTable (by omega), on2_some]
      have hg190 : (mk.push (.cells (zeros [.bool false, .bool false, .bool false] r.law.clauses.length) 88 none)).get mk.n = _ := M.get_push_new
      have hT20 := BT.fresh hg190
      have he190 : Ext mk (mk.push (.cells (zeros [.bool false, .bool false, .bool false] r.law.clauses.length) 88 none)) := Ext.refl.push
      have hn190 : (mk.push (.cells (zeros [.bool false, .bool false, .bool false] r.law.clauses.length) 88 none)).n = mk.n + 1 := M.push_n
      generalize mk.push (.cells (zeros [.bool false, .bool false, .bool false] r.law.clauses.length) 88 none) = m190 at hg190 hT20 he190 hn190 ⊢
      -- what is leant on
      refine Lp.intro (γ := Nat) (fun i => rl.length - i) (fun i vs ml lo => ∃ (u : Value) (T2 : Nat → Nat → Bool), vs = [u, .int .i64 i] ∧ i ≤ rl.length ∧ (∀ b, b < m190.n → b ≠ mk.n → ml.get b = m190.get b) ∧ m190.n ≤ ml.n ∧ m.n ≤ lo ∧ BT mk.n r.law.clauses.length T2 ml ∧ ∀ c u, c < r.law.clauses.length → u < 3 → (T2 c u = true ↔ ∃ x ∈ rl.take i, x.unit = (u : Int) ∧ leansP r.law n k x (c : Int))) 0
        ⟨_, _, rfl, Nat.zero_le _, fun _ _ _ => rfl, Nat.le_refl _, hlo2, hT20, fun c u _ _ => by simp⟩ ?_
      rintro i vs ml lo4 ⟨u4, T2, rfl, hi4, hkl, hnl, hlo4, hT2, hT2s⟩
      have hEl : Ext mk ml := ⟨by omega, fun b hb => by rw [hkl b (by omega) (by omega), he190.get b hb]⟩
      have hOrl := hOrk.keepE hEl
      have hrl := hrk.keepE hEl
      have hbrl := hEl.cells hbrk
      simp only [un_cons, hOrl.sl.len slt_ruling, onS_some, on2_some, ifV_bool, ifB_true, ifB_false, bin_leq, bin_lss, bin_geq, bin_gtr, bin_eql, bin_neq, un_not, ptrTo, nilck_ptr, Nat.zero_add, Nat.reduceAdd, List.getElem?_cons_zero, List.getElem?_cons_succ, List.drop_zero, List.drop_succ_cons, List.take_succ_cons, List.take_zero, Option.map_some, cells_agg, cells_int, cells_bool]
      refine ifB_intro (fun hc => ?_) (fun hc => ?_)
      · have hlt : i < rl.length := by simpa using hc
        have hx : rl[i]? = some rl[i] := List.getElem?_eq_getElem hlt
        obtain ⟨hxu, hxk, hxl, hxp⟩ := hfit _ (List.getElem_mem hlt)
        have htk : rl.take (i + 1) = rl.take i ++ [rl[i]] := by rw [List.take_add_one, hx]; rfl
        generalize rl[i] = x at hx hxu hxk hxl hxp htk
        obtain ⟨b, o, bc, g, cs, e5, e6, ⟨pv, rfl, hpv⟩, e7, e8⟩ := hOrl.sl.indexA slt_ruling (k := .i64) hx
        have q1 : bc[o + 1]? = some (.int .i64 x.kind) := e8 1 (by decide)
        have q2 : bc[o + 2]? = some (.int .i64 x.unit) := e8 2 (by decide)
        have q5 : bc[o + 3 + 2]? = some pv := e8 5 (by decide)
        obtain ⟨z0, hz0⟩ : ∃ z0 : Nat, x.unit = z0 := ⟨x.unit.toNat, by omega⟩
        have hz3 : z0 < 3 := by omega
        simp only [fieldAddr_42_0, e5, fieldAddr_81_1, fieldAddr_81_2, fieldAddr_81_3, fieldAddr_49_2, load_3, load_47, cellAt_of e6, q1, q2, q5, bin_add, onS_some, on2_some, ifV_bool, ifB_true, ifB_false, bin_leq, bin_lss, bin_geq, bin_gtr, bin_eql, bin_neq, un_not, ptrTo, nilck_ptr, Nat.zero_add, Nat.reduceAdd, List.getElem?_cons_zero, List.getElem?_cons_succ, List.drop_zero, List.drop_succ_cons, List.take_succ_cons, List.take_zero, Option.map_some, cells_agg, cells_int, cells_bool]
        rw [load_38, loadCells_of hbrl (by simp), Option.map_some, onS_some, wrap64 (by omega) (by omega), build_55_0_1_2_3 rfl rfl rfl rfl, onS_some]
        simp only [cells_int, List.cons_append, List.nil_append]
        have hqo : (x.query n k).ok = true := by
          show (inB x.unit 0 99 && (inB (10 + x.kind) 0 19 && (inB n 0 799999 && inB k 0 799999))) = true
          simp only [inB, Bool.and_eq_true, decide_eq_true_eq]
          omega
        obtain ⟨vf, vc, cl, m217, hc217, hS217, hmem, hbd, hcl, he217⟩ := uses_ok hX hrl.law (x.query n k) (by have := hgd.lok; exact this) hqo hpv hxl hxp
        refine onC_of (show C X (.func 21) [Value.agg (List.take 3 (List.drop 0 [v1, v2, v3, v4, v5])).toArray, _, _] ml ml.n _ m217 from hc217) ?_
        simp only [extr_tuple, onS_some, on2_some, ifV_bool, ifB_true, ifB_false, bin_leq, bin_lss, bin_geq, bin_gtr, bin_eql, bin_neq, un_not, ptrTo, nilck_ptr, Nat.zero_add, Nat.reduceAdd, List.getElem?_cons_zero, List.getElem?_cons_succ, List.drop_zero, List.drop_succ_cons, List.take_succ_cons, List.take_zero, Option.map_some, cells_agg, cells_int, cells_bool]
        refine ifB_intro (fun h => by simp at h) (fun _ => ?_)
        have h217n := he217.n
        have hT217 := hT2.keepE he217
        have e6' := he217.cells e6
        rw [show min lo4 ml.n = min lo4 ml.n from rfl]
        refine Lp.intro (γ := Nat) (fun j => cl.length - j) (fun j vs mj lo => ∃ (T3 : Nat → Nat → Bool), vs = [.int .i64 j] ∧ j ≤ cl.length ∧ (∀ b, b ≠ mk.n → mj.get b = m217.get b) ∧ mj.n = m217.n ∧ m.n ≤ lo ∧ BT mk.n r.law.clauses.length T3 mj ∧ ∀ c u, c < r.law.clauses.length → u < 3 → (T3 c u = true ↔ T2 c u = true ∨ (u = z0 ∧ (c : Int) ∈ cl.take j))) 0
          ⟨T2, rfl, Nat.zero_le _, fun _ _ => rfl, rfl, by omega, hT217, fun c u _ _ => by simp⟩ ?_
        rintro j vs mj lo5 ⟨T3, rfl, hj, hkj, hnj, hlo5, hT3, hT3s⟩
        have hne88 : ∀ b c t g, m217.get b = .cells c t g → t ≠ 88 → b ≠ mk.n := fun b c t g hb ht e => by
          obtain ⟨cs9, h9, _⟩ := hT217
          rw [← e, hb] at h9; cases h9; exact ht rfl
        have hSj : Sl mj cl vc := hS217.keep fun b c t g hb ht => by rw [hkj b (hne88 _ _ _ _ hb (by rintro rfl; simp [Rep.tys, Rep.ty] at ht)), hb]
        have e6j : mj.get b = .cells bc (Rep.ty Ruling) g := by rw [hkj b (hne88 _ _ _ _ e6' (by simp [Rep.ty])), e6']
        simp only [un_cons, hSj.len slt_int, onS_some, on2_some, ifV_bool, ifB_true, ifB_false, bin_leq, bin_lss, bin_geq, bin_gtr, bin_eql, bin_neq, un_not, ptrTo, nilck_ptr, Nat.zero_add, Nat.reduceAdd, List.getElem?_cons_zero, List.getElem?_cons_succ, List.drop_zero, List.drop_succ_cons, List.take_succ_cons, List.take_zero, Option.map_some, cells_agg, cells_int, cells_bool]
        refine ifB_intro (fun hc2 => ?_) (fun hc2 => ?_)
        · have hlt2 : j < cl.length := by simpa using hc2
          have hz : cl[j]? = some cl[j] := List.getElem?_eq_getElem hlt2
          have hzb := hbd _ (List.getElem_mem hlt2)
          have htk2 : cl.take (j + 1) = cl.take j ++ [cl[j]] := by rw [List.take_add_one, hz]; rfl
          generalize cl[j] = z at hz hzb htk2
          obtain ⟨c0, rfl⟩ : ∃ c0 : Nat, z = c0 := ⟨z.toNat, by omega⟩
          have hc0n : c0 < r.law.clauses.length := by omega
          obtain ⟨p, cs, e3, e4, rfl⟩ := hSj.index slt_int (k := .i64) hz
          rw [e3, onS_some, e4, onS_some, val_int]
          simp only [e5, fieldAddr_81_2, load_3, cellAt_of e6j, q2, onS_some]
          rw [hz0, tab_idx hc0n, onS_some, idx88 hz3, onS_some]
          refine hT3.mark hc0n hz3 fun m239 hn239 hT239 hk239 => ?_
          simp only [bin_add, onS_some]
          refine ⟨j + 1, by omega, _, ?_, by omega, fun b1 hb1 => by rw [hk239 b1 hb1, hkj b1 hb1], by omega, by omega, hT239, fun c u hc hu => ?_⟩
          · rw [wrap64 (by omega) (by omega)]; rfl
          · rw [htk2, List.mem_append, List.mem_singleton, Bool.or_eq_true, Bool.and_eq_true, decide_eq_true_eq, decide_eq_true_eq, hT3s c u hc hu]
            constructor
            · rintro (⟨rfl, rfl⟩ | h | ⟨h, h'⟩)
              · exact .inr ⟨rfl, .inr rfl⟩
              · exact .inl h
              · exact .inr ⟨h, .inl h'⟩
            · rintro (h | ⟨h, h' | h'⟩)
              · exact .inr (.inl h)
              · exact .inr (.inr ⟨h, h'⟩)
              · exact .inl ⟨by omega, h⟩
        · have hge : j = cl.length := by
            have : ¬ ((j : Int) < (cl.length : Int)) := by simpa using hc2
            omega
          subst hge
          rw [List.take_length] at hT3s
          refine ⟨i + 1, by omega, u4, T3, ?_, by omega, fun b1 hb1 hb2 => by rw [hkj b1 hb2, he217.get b1 (by omega), hkl b1 hb1 hb2], by omega, hlo5, hT3, fun c u hc hu => ?_⟩
          · rw [wrap64 (by omega) (by omega)]; rfl
          · rw [hT3s c u hc hu, hT2s c u hc hu, htk]
            constructor
            · rintro (⟨x', h1, h2⟩ | ⟨rfl, h⟩)
              · exact ⟨x', List.mem_append_left _ h1, h2⟩
              · exact ⟨x, List.mem_append_right _ List.mem_cons_self, hz0, (hmem _).1 h⟩
            · rintro ⟨x', h1, h2, h3⟩
              rcases List.mem_append.1 h1 with h1 | h1
              · exact .inl ⟨x', h1, h2, h3⟩
              · rw [List.mem_singleton.1 h1] at h2 h3
                exact .inr ⟨by omega, (hmem _).2 h3⟩
      · have hge : i = rl.length := by
          have : ¬ ((i : Int) < (rl.length : Int)) := by simpa using hc
          omega
        subst hge
        rw [List.take_length] at hT2s
        have hsame : ∀ c u, c < r.law.clauses.length → u < 3 → T c u = T2 c u := fun c u hc hu => by
          rw [Bool.eq_iff_iff, hT1 c u hc hu, hT2s c u hc hu]
        have hT1l := hT.keepE hEl
        have hOwl := hOwk.keepE hEl
        have hml : m.n ≤ ml.n := by omega
        simp only [fieldAddr_42_0, fieldAddr_42_1, fieldAddr_42_2, load_39, load_40, cellAt_of hbrl, onS_some, on2_some, ifV_bool, ifB_true, ifB_false, bin_leq, bin_lss, bin_geq, bin_gtr, bin_eql, bin_neq, un_not, ptrTo, nilck_ptr, Nat.zero_add, Nat.reduceAdd, List.getElem?_cons_zero, List.getElem?_cons_succ, List.drop_zero, List.drop_succ_cons, List.take_succ_cons, List.take_zero, Option.map_some, cells_agg, cells_int, cells_bool]
        rw [load_38, loadCells_of hbrl (by simp), Option.map_some, onS_some]
        obtain ⟨w1, w2, w3, m246, hc246, hL246, _, _, hOr246, he246⟩ := copy_ok' hX hrl.law hgd.lok
        refine onC_of (show C X (.func 15) [Value.agg (List.take 3 (List.drop 0 [v1, v2, v3, v4, v5])).toArray] ml ml.n _ m246 from hc246) ?_
        refine ⟨Nat.le_refl _, ?_⟩
        have hbr246 := he246.cells hbrl
        simp only [cellAt_of hbr246, onS_some, on2_some, ifV_bool, ifB_true, ifB_false, bin_leq, bin_lss, bin_geq, bin_gtr, bin_eql, bin_neq, un_not, ptrTo, nilck_ptr, Nat.zero_add, Nat.reduceAdd, List.getElem?_cons_zero, List.getElem?_cons_succ, List.drop_zero, List.drop_succ_cons, List.take_succ_cons, List.take_zero, Option.map_some, cells_agg, cells_int, cells_bool]
        have y4 := hrl.deeds.cells
        have y5 := hrl.grants.cells
        rw [build_42_0_1_2 rfl (by rw [y4]; rfl) (by rw [y5]; rfl), onS_some]
        simp only [y4, y5, cells_agg, List.cons_append, List.nil_append, List.drop_zero, List.take_succ_cons, List.take_zero]
        have q1 := hL246.clauses.one
        have q2 := hL246.repeals.one
        have q3 := hL246.facts.one
        refine onM_push fun m253 hn253 hg253 hk253 => ?_
        refine on2_storeV ty_42 hg253 (by rfl) (by rfl) (by simp [cells_agg, q1, q2, q3, o4, o5]) fun m254 hn254 hg254 hk254 => ?_
        simp only [cells_agg] at hg254
        have he254 : Ext m246 m254 := ⟨by omega, fun b hb => by rw [hk254 b (by omega), hk253 b hb]⟩
        have hE254 := he246.trans he254
        have h246n := he246.n
        have hr3 := hgd.nr
        -- the others are repealed
        refine Lp.intro (γ := Nat) (fun i => r.law.clauses.length - i) (fun i vs mq lo => ∃ (u w2' : Value) (rs : List Repeal), vs = [u, .int .i64 i] ∧ i ≤ r.law.clauses.length ∧ Ext ml mq ∧ m.n ≤ lo ∧ m246.n < mq.n ∧ mq.get m246.n = .cells [w1, w2', w3, v4, v5] 42 none ∧ Sl mq r.law.clauses w1 ∧ Ow0 ml.n mq (r.law.repeals ++ rs) w2' ∧ Sl mq r.law.facts w3 ∧ r.law.repeals.length + rs.length ≤ 10 ∧ (∀ z ∈ rs, ∃ c : Nat, c < r.law.clauses.length ∧ z = ⟨c, 0, 0⟩ ∧ ∀ u, u < 3 → T c u = false)) 0
          ⟨_, w2, [], rfl, Nat.zero_le _, hE254, by simp only [Nat.le_min, hlo4, hml, Nat.le_trans hml h246n, and_self], by omega, hg254, hL246.clauses.keepE he254, by rw [List.append_nil]; exact hOr246.keepE he254, hL246.facts.keepE he254, by simp; omega, fun z hz => by cases hz⟩ ?_
        rintro i vs mq lo6 ⟨u6, w2', rs, rfl, hi6', hEq, hlo6, hnq, hbox, hSc, hOrp, hSf, hrl10, hrsp⟩
        have hqn := hEq.n
        have hT1q := hT1l.keepE hEq
        have hT2q := hT2.keepE hEq
        simp only [un_cons, tab_len, onS_some, on2_some, ifV_bool, ifB_true, ifB_false, bin_leq, bin_lss, bin_geq, bin_gtr, bin_eql, bin_neq, un_not, ptrTo, nilck_ptr, Nat.zero_add, Nat.reduceAdd, List.getElem?_cons_zero, List.getElem?_cons_succ, List.drop_zero, List.drop_succ_cons, List.take_succ_cons, List.take_zero, Option.map_some, cells_agg, cells_int, cells_bool]
        refine ifB_intro (fun hc => ?_) (fun hc => ?_)
        · have hlt : i < r.law.clauses.length := by simpa using hc
          rw [tab_idx hlt, onS_some, hT1q.row hlt, onS_some, tab_idx hlt, onS_some, hT2q.row hlt, onS_some, hsame i 0 hlt (by omega), hsame i 1 hlt (by omega), hsame i 2 hlt (by omega), bin_neq88, onS_some, ifV_bool]
          refine ifB_intro (fun h => by simp at h) (fun _ => ?_)
          refine jn_of (fun vs m' lo' => vs = [.bool (((T2 i 0 == false) && ((T2 i 1 == false) && ((T2 i 2 == false) && true))) && decide (r.law.repeals.length + rs.length < 10))] ∧ mq = m' ∧ lo6 = lo') (fun R hR => ?_) ?_
          · rw [onS_some, hT1q.row hlt, onS_some, build_88_, onS_some, hsame i 0 hlt (by omega), hsame i 1 hlt (by omega), hsame i 2 hlt (by omega), bin_eql88, onS_some, ifV_bool]
            refine ifB_intro (fun h => ?_) (fun h => hR _ _ _ ⟨by rw [h]; rfl, rfl, rfl⟩)
            simp only [fieldAddr_42_0, fieldAddr_38_1, load_35, cellAt_of hbox, hOrp.sl.len slt_repeal, List.length_append, onS_some, on2_some, ifV_bool, ifB_true, ifB_false, bin_leq, bin_lss, bin_geq, bin_gtr, bin_eql, bin_neq, un_not, ptrTo, nilck_ptr, Nat.zero_add, Nat.reduceAdd, List.getElem?_cons_zero, List.getElem?_cons_succ, List.drop_zero, List.drop_succ_cons, List.take_succ_cons, List.take_zero, Option.map_some, cells_agg, cells_int, cells_bool]
            refine hR _ _ _ ⟨?_, rfl, rfl⟩
            rw [h, Bool.true_and]
            by_cases hl : r.law.repeals.length + rs.length < 10
            · simp [hl]; omega
            · simp [hl]; omega
          rintro _ _ _ ⟨rfl, rfl, rfl⟩
          rw [un_cons, ifV_bool]
          refine ifB_intro (fun h => ?_) (fun _ => ?_)
          · simp only [Bool.and_eq_true, beq_iff_eq, decide_eq_true_eq] at h
            obtain ⟨⟨t0, t1, t2, _⟩, hl⟩ := h
            simp only [fieldAddr_42_0, fieldAddr_38_1, load_35, cellAt_of hbox, onS_some, on2_some, ifV_bool, ifB_true, ifB_false, bin_leq, bin_lss, bin_geq, bin_gtr, bin_eql, bin_neq, un_not, ptrTo, nilck_ptr, Nat.zero_add, Nat.reduceAdd, List.getElem?_cons_zero, List.getElem?_cons_succ, List.drop_zero, List.drop_succ_cons, List.take_succ_cons, List.take_zero, Option.map_some, cells_agg, cells_int, cells_bool]
            rw [build_92_0 rfl, onS_some]
            simp only [cells_int, List.cons_append, List.nil_append]
            rw [buildSlice_r, on2_some]
            have hsl : Sl (mq.push (.cells [.int .i64 i, .int .i64 0, .int .i64 0] 92 none)) [(⟨i, 0, 0⟩ : Repeal)] (.slice (some ⟨mq.n, 0, none⟩) 1 1) := sl_one (m := mq) (x := (⟨i, 0, 0⟩ : Repeal)) rfl
            have he293 : Ext mq (mq.push (.cells [.int .i64 i, .int .i64 0, .int .i64 0] 92 none)) := Ext.refl.push
            have hn293 : (mq.push (.cells [.int .i64 i, .int .i64 0, .int .i64 0] 92 none)).n = mq.n + 1 := M.push_n
            generalize mq.push (.cells [.int .i64 i, .int .i64 0, .int .i64 0] 92 none) = m293 at hsl he293 hn293 ⊢
            obtain ⟨v294, m295, e295, hO295, hk295, hlow295, hn295, hty295⟩ := (hOrp.keepE he293).append' apt_repeal (by simp [Rep.tys, Rep.ty]) hsl (by omega) (by simp; omega)
            rw [e295, on2_some]
            have hbox295 := hty295 _ _ _ _ (he293.cells hbox) (by simp [Rep.ty])
            have hcv : cells v294 = [v294] := hO295.sl.cells
            refine on2_store ty_35 hbox295 (by rw [hcv]; rfl) (by rw [hcv]; simp) (by rw [hcv]; simp [hO295.sl.one]) fun m298 hn298 hg298 hk298 => ?_
            rw [hcv] at hg298
            have hg298' : m298.get m246.n = .cells [w1, v294, w3, v4, v5] 42 none := hg298
            have hk42 : ∀ c cs t g, m295.get c = .cells cs t g → t ≠ 42 → m298.get c = .cells cs t g := fun c cs t g hc ht => by
              rw [hk298 c fun e => ?_, hc]
              subst e
              rw [hbox295] at hc; cases hc; exact ht rfl
            have hkk2 : ∀ c cs t g, mq.get c = .cells cs t g → t ≠ 42 → t ≠ 92 → m298.get c = .cells cs t g := fun c cs t g hc h1 h2 => hk42 _ _ _ _ (hty295 _ _ _ _ (he293.cells hc) (by simpa [Rep.ty] using h2)) h1
            simp only [bin_add, onS_some]
            have hl5 : m.n ≤ m295.low ∧ m.n ≤ m246.n := by omega
            refine ⟨i + 1, by omega, u6, v294, rs ++ [⟨i, 0, 0⟩], ?_, by omega, ⟨by omega, fun b hb => by rw [hk298 b (by omega), hk295 b hb, he293.get b (by omega), hEq.get b hb]⟩, by simp only [Nat.le_min, hlo6, hl5, and_self], by omega, hg298', hSc.keep fun b c t g hb ht => hkk2 _ _ _ _ hb (by rintro rfl; simp [Rep.tys, Rep.ty] at ht) (by rintro rfl; simp [Rep.tys, Rep.ty] at ht), ?_, hSf.keep fun b c t g hb ht => hkk2 _ _ _ _ hb (by rintro rfl; simp [Rep.tys, Rep.ty] at ht) (by rintro rfl; simp [Rep.tys, Rep.ty] at ht), by simp; omega, fun z hz => ?_⟩
            · rw [wrap64 (by omega) (by omega)]; rfl
            · rw [← List.append_assoc]
              exact hO295.keep fun b c t g hb ht => hk42 _ _ _ _ hb (by rintro rfl; simp [Rep.tys, Rep.ty] at ht)
            · rcases List.mem_append.1 hz with hz | hz
              · exact hrsp z hz
              · rw [List.mem_singleton.1 hz]
                refine ⟨i, hlt, rfl, fun u hu => ?_⟩
                rw [hsame i u hlt hu]
                match u, hu with
                | 0, _ => exact t0
                | 1, _ => exact t1
                | 2, _ => exact t2
          · simp only [bin_add, onS_some]
            refine ⟨i + 1, by omega, u6, w2', rs, ?_, by omega, hEq, hlo6, hnq, hbox, hSc, hOrp, hSf, hrl10, hrsp⟩
            rw [wrap64 (by omega) (by omega)]; rfl
        · clear hc
          have hfok : (r.law.few rs).ok = true := by
            have c1 : ∀ x ∈ r.law.clauses, x.ok = true := fun x hx => (hgd.cs x hx).ok
            have c2 : ∀ x ∈ r.law.repeals ++ rs, x.ok r.law.clauses.length = true := fun x hx => by
              rcases List.mem_append.1 hx with hx | hx
              · exact (hgd.rs x hx).ok
              · obtain ⟨c, h1, rfl, _⟩ := hrsp x hx
                simp only [Repeal.ok, inB, Bool.and_eq_true, decide_eq_true_eq]
                omega
            have c3 : ∀ x ∈ r.law.facts, x.ok = true := fun x hx => (hgd.fs x hx).ok
            have b1 := hgd.nc
            have b3 := hgd.nf
            dsimp only [Law.ok, Law.few]
            rw [any_not_false c1, any_not_false c2, any_not_false c3]
            simp only [Bool.not_false, Bool.and_self, Bool.and_true, Bool.and_eq_true, decide_eq_true_eq, List.length_append]
            omega
          have hfro : Registry.ok ⟨r.law.few rs, r.deeds, r.grants⟩ = true := by
            have h := hro
            simp only [Registry.ok, Bool.and_eq_true] at h ⊢
            exact ⟨hfok, h.2⟩
          have hfs : Registry.Sized ⟨r.law.few rs, r.deeds, r.grants⟩ := ⟨hrs.sc, by show (r.law.repeals ++ rs).length < _; rw [List.length_append]; omega, hrs.sf, hrs.sd, hrs.sg⟩
          have hfr : RegV mq ⟨r.law.few rs, r.deeds, r.grants⟩ w1 w2' w3 v4 v5 := ⟨⟨hSc, hOrp.sl, hSf⟩, hrl.deeds.keepE hEq, hrl.grants.keepE hEq⟩
          have hOrq := hOrl.keepE hEq
          have hOwq := hOwl.keepE hEq
          refine Lp.intro (γ := Nat) (fun j => wl.length - j) (fun j vs mt lo => ∃ u, vs = [u, .int .i64 j] ∧ j ≤ wl.length ∧ KC mq mt ∧ m.n ≤ lo) 0 ⟨_, rfl, Nat.zero_le _, .refl, hlo6⟩ ?_
          rintro j vs mt lo7 ⟨u7, rfl, hj, hKt, hlo7⟩
          have hfrt := hKt.reg hfr
          have hSwt : Sl mt wl vw := hKt.sl hOwq.sl
          have hSrt : Sl mt rl vr := hKt.sl hOrq.sl
          have hboxt := hKt.get _ _ _ _ hbox
          have htn := hKt.n
          simp only [un_cons, hSwt.len slt_wish, onS_some, on2_some, ifV_bool, ifB_true, ifB_false, bin_leq, bin_lss, bin_geq, bin_gtr, bin_eql, bin_neq, un_not, ptrTo, nilck_ptr, Nat.zero_add, Nat.reduceAdd, List.getElem?_cons_zero, List.getElem?_cons_succ, List.drop_zero, List.drop_succ_cons, List.take_succ_cons, List.take_zero, Option.map_some, cells_agg, cells_int, cells_bool]
          refine ifB_intro (fun hc => ?_) (fun _ => ⟨rfl, hlo7⟩)
          have hlt : j < wl.length := by simpa using hc
          have hw : wl[j]? = some wl[j] := List.getElem?_eq_getElem hlt
          have hx : rl[j]? = some rl[j] := List.getElem?_eq_getElem (by omega)
          have hR1 := hru j _ _ hw hx
          generalize wl[j] = w at hw hR1
          generalize rl[j] = x at hx hR1
          obtain ⟨p, cs, e3, e4, rfl⟩ := hSwt.index slt_wish (k := .i64) hw
          rw [load_42, loadCells_of hboxt (by simp), Option.map_some, onS_some, e3, onS_some, e4, onS_some, val_agg rfl]
          obtain ⟨pv2, lst2, m317, hc317, hS317, _, _, hK317⟩ := pdecide_ok hX hfrt hfs hfro w hR1.ok
          refine onC_of (show C X (.func 11) [Value.agg (List.take 5 (List.drop 0 [w1, w2', w3, v4, v5])).toArray, w.v] mt mt.n _ m317 from hc317) ?_
          refine ⟨Nat.le_refl _, ?_⟩
          have hfew := few_same hR1 hfok (fun c hle z hz => by
            obtain ⟨c0, h1, rfl, h3⟩ := hrsp z hz
            show (c0 : Int) ≠ c
            intro e
            have hun := hR1.fit.unit
            have hu3 : x.unit.toNat < 3 := by omega
            have := (hT1 c0 x.unit.toNat h1 hu3).2 ⟨x, List.mem_of_getElem? hx, by omega, by rw [e]; exact hle⟩
            rw [h3 _ hu3] at this
            cases this)
          rw [hfew.1, hfew.2]
          simp only [extr_tuple, onS_some, on2_some, ifV_bool, ifB_true, ifB_false, bin_leq, bin_lss, bin_geq, bin_gtr, bin_eql, bin_neq, un_not, ptrTo, nilck_ptr, Nat.zero_add, Nat.reduceAdd, List.getElem?_cons_zero, List.getElem?_cons_succ, List.drop_zero, List.drop_succ_cons, List.take_succ_cons, List.take_zero, Option.map_some, cells_agg, cells_int, cells_bool]
          refine onM_push fun m321 hn321 hg321 hk321 => ?_
          refine on2_storeV ty_49 hg321 (by rfl) (by rfl) (by simp [cells_agg, hS317.one]; exact ⟨rfl, rfl, rfl, rfl⟩) fun m322 hn322 hg322 hk322 => ?_
          simp only [cells_agg] at hg322
          have he322 : Ext m317 m322 := ⟨by omega, fun b hb => by rw [hk322 b (by omega), hk321 b hb]⟩
          have hK322 : KC mt m322 := hK317.trans (.of_ext he322)
          have h317n := hK317.n
          have hl8 : m.n ≤ mt.n ∧ m.n ≤ m317.n ∧ m.n ≤ m322.n := by have := he322.n; omega
          have hSr2 : Sl m322 rl vr := hK322.sl hSrt
          refine jn_of (fun vs m' lo' => vs = [.bool false] ∧ m322 = m' ∧ m.n ≤ lo') (fun R hR => ?_) ?_
          · refine ifB_intro (fun h => by simp at h) (fun _ => ?_)
            obtain ⟨b, o, bc, g, cs, e5, e6, ⟨pv, rfl, hpv⟩, e7, e8⟩ := hSr2.indexA slt_ruling (k := .i64) hx
            have hrow : (bc.drop (o + 3)).take 5 = [.bool x.a, .bool x.n, pv, .int .i64 x.d, .int .i64 x.g] := take_of_get (l := [.bool x.a, .bool x.n, pv, .int .i64 x.d, .int .i64 x.g]) fun i hi => by
              rw [Nat.add_assoc, e8 (3 + i) (by show 3 + i < 8; simp at hi; omega)]
              match i, hi with
              | 0, _ => rfl
              | 1, _ => rfl
              | 2, _ => rfl
              | 3, _ => rfl
              | 4, _ => rfl
            have e7 : o + 8 ≤ bc.length := e7
            rw [load_49, loadCells_of hg322 (by simp), Option.map_some, onS_some, e5, onS_some, fieldAddr_81_3, onS_some, load_49, loadCells_of e6 (by omega), Option.map_some, onS_some, hrow]
            refine onC_of (show C X (.func 18) [Value.agg (List.take 5 (List.drop 0 [Value.bool (allowedS r w), .bool (neededS r w), pv2, .int .i64 _, .int .i64 _])).toArray, Value.agg #[Value.bool x.a, .bool x.n, pv, .int .i64 x.d, .int .i64 x.g]] m322 m322.n _ m322 from like_ok hX) ?_
            rw [hR1.a, hR1.nd, hR1.d, hR1.g]
            simp only [beq_self_eq_true, Bool.true_and, un_not, onS_some]
            refine hR _ _ _ ⟨?_, rfl, by simp only [Nat.le_min, hlo7, hl8, and_self]⟩
            have d1 : deedS ⟨r.law.few rs, r.deeds, r.grants⟩ w = deedS r w := rfl
            have d2 : grantS ⟨r.law.few rs, r.deeds, r.grants⟩ w = grantS r w := rfl
            rw [d1, d2]
            simp
          rintro _ _ lo8 ⟨rfl, rfl, hlo8⟩
          simp only [un_cons, ifV_bool, ifB_false, bin_add, onS_some]
          refine ⟨j + 1, by omega, u7, ?_, by omega, hKt.trans hK322, hlo8⟩
          rw [wrap64 (by omega) (by omega)]; rfl
end Go.Proofs.YtbpmlholiohkpaaGreatDoor
