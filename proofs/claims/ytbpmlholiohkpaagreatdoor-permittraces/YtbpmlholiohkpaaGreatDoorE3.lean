/- The program logic over D, its sixth part: the words of the formula at known values; how data lie in the store. The program logic over D, its seventh part: slices that the call itself has grown; append. The program logic over D, its eighth part: parts of slices; slices.Delete's steps; copies. The program logic over D, its ninth part: a formula in which ways that part meet again ('vcJ'). -/
import Derived.Test.YtbpmlholiohkpaaGreatDoorE2
/- The program logic over D, its sixth part: the words of the formula at known values; how data lie in the store. -/
namespace Go.D
open Go

section
variable {E : Env} {X : CallFn} {k : IntKind} {t : TypeId} {a b : Int}
theorem bin_leq : bin? E .leq t (.int k a) (.int k b) = some (.bool (decide (a ≤ b))) := by simp [bin?, binInt]
theorem bin_lss : bin? E .lss t (.int k a) (.int k b) = some (.bool (decide (a < b))) := by simp [bin?, binInt]
theorem bin_geq : bin? E .geq t (.int k a) (.int k b) = some (.bool (decide (b ≤ a))) := by simp [bin?, binInt]
theorem bin_gtr : bin? E .gtr t (.int k a) (.int k b) = some (.bool (decide (b < a))) := by simp [bin?, binInt]
theorem bin_eql : bin? E .eql t (.int k a) (.int k b) = some (.bool (decide (a = b))) := by simp [bin?, binInt]; rfl
theorem bin_neq : bin? E .neq t (.int k a) (.int k b) = some (.bool (!(decide (a = b)))) := by simp [bin?, binInt, bne]; rfl
theorem bin_add : bin? E .add t (.int k a) (.int k b) = some (.int k (k.wrap (a + b))) := by simp [bin?, binInt]
theorem bin_sub : bin? E .sub t (.int k a) (.int k b) = some (.int k (k.wrap (a - b))) := by simp [bin?, binInt]
theorem bin_mul : bin? E .mul t (.int k a) (.int k b) = some (.int k (k.wrap (a * b))) := by simp [bin?, binInt]
theorem bin_quo (h : b ≠ 0) : bin? E .quo t (.int k a) (.int k b) = some (.int k (k.wrap (a.tdiv b))) := by simp [bin?, binInt, h]
theorem bin_rem (h : b ≠ 0) : bin? E .rem t (.int k a) (.int k b) = some (.int k (a.tmod b)) := by simp [bin?, binInt, h]
theorem un_not {b : Bool} : un? .not (.bool b) = some (.bool (!b)) := rfl
theorem un_neg : un? .neg (.int k a) = some (.int k (k.wrap (0 - a))) := rfl
theorem wrap64 {x : Int} (h1 : -9223372036854775808 ≤ x) (h2 : x < 9223372036854775808) : IntKind.i64.wrap x = x := by
  have e : IntKind.i64.wrap x = if x % 18446744073709551616 ≥ 9223372036854775808 then x % 18446744073709551616 - 18446744073709551616 else x % 18446744073709551616 := by
    unfold IntKind.wrap
    simp [IntKind.bits, IntKind.signed]
  rw [e]
  split <;> omega
theorem wrap8 {x : Int} (h1 : 0 ≤ x) (h2 : x < 256) : IntKind.u8.wrap x = x := by
  unfold IntKind.wrap
  simp only [IntKind.bits, IntKind.signed, Bool.false_and]
  simp only [Bool.false_eq_true, if_false]
  omega
theorem ifV_bool {b : Bool} {P Q : Prop} : ifV (.bool b) P Q = ifB b P Q := rfl
theorem onFn_func {g : Fn} {fi ca : Array Value} {P : Fn → Array Value → Array Value → Prop} : onFn (.func g fi ca) P = P g fi ca := rfl
theorem un_cons {v : Value} {r : List Value} {P : Value → List Value → Prop} : un (v :: r) P = P v r := rfl
theorem nilck_ptr {a : Addr} : nilck? (.pointer (some a)) = some (.pointer (some a)) := rfl
theorem nilck_func {f : FuncId} {a b : Array Value} : nilck? (.func (.func f) a b) = some (.func (.func f) a b) := rfl
theorem extr_tuple {vs : Array Value} {i : Nat} : extr? (.tuple vs) i = vs.toList[i]? := rfl
theorem cells_agg {cs : Array Value} : cells (.agg cs) = cs.toList := rfl
theorem cells_int {x : Int} : cells (.int k x) = [.int k x] := rfl
theorem cells_bool {x : Bool} : cells (.bool x) = [.bool x] := rfl
theorem cells_slice {a : Option Addr} {n c : Nat} : cells (.slice a n c) = [.slice a n c] := rfl
theorem cells_ptr {a : Option Addr} : cells (.pointer a) = [.pointer a] := rfl
theorem cells_map {a : Option Nat} : cells (.map a) = [.map a] := rfl
theorem cells_func {f : Fn} {a b : Array Value} : cells (.func f a b) = [.func f a b] := rfl
theorem cells_str {s : ByteArray} : cells (.string s) = [.string s] := rfl
theorem flat_of {v : Value} (h : flat0 v = true) (hn : ∀ x, v ≠ .tuple x) (ha : ∀ x, v ≠ .agg x) : flat2 v = true := by
  cases v <;> first | exact absurd rfl (hn _) | exact absurd rfl (ha _) | exact h
/-- ifB, way by way. -/
theorem ifB_intro {b : Bool} {P Q : Prop} (h1 : b = true → P) (h2 : b = false → Q) : ifB b P Q := ifB_iff.2 ⟨h1, h2⟩
theorem ifB_true {P Q : Prop} : ifB true P Q = P := rfl
theorem ifB_false {P Q : Prop} : ifB false P Q = Q := rfl
/-- The loop by an invariant. -/
theorem Lp.intro {F : (List Value → M → Nat → Prop) → List Value → M → Nat → Prop} {vs : List Value} {m : M} {lo : Nat} {γ : Type} (μ : γ → Nat) (I : γ → List Value → M → Nat → Prop) (g0 : γ) (h0 : I g0 vs m lo)
    (hs : ∀ g vs m lo, I g vs m lo → F (fun vs m lo => ∃ g', μ g' < μ g ∧ I g' vs m lo) vs m lo) : Lp F vs m lo := ⟨γ, μ, I, ⟨g0, h0⟩, hs⟩
end
section
variable {m m' m1 : M} {b c : Nat} {o : Ob}
theorem M.get_of_lt (h : b < m.n) : m.get b = (m.st.get b).getD .dead := by
  unfold M.get
  have : Nat.blt b m.n = true := by rw [Nat.blt_eq]; exact h
  rw [this]; rfl
theorem M.get_of_ge (h : m.n ≤ b) : m.get b = .dead := by
  unfold M.get
  have : Nat.blt b m.n = false := by
    cases hc : Nat.blt b m.n with
    | false => rfl
    | true => rw [Nat.blt_eq] at hc; omega
  rw [this]; rfl
theorem M.get_push_new : (m.push o).get m.n = o := by
  rw [M.get_of_lt (by rw [M.push_n]; omega)]
  show ((m.st.set m.n o).get m.n).getD .dead = o
  rw [Tr.get_set, if_pos rfl]; rfl
theorem M.get_push_lt (h : b < m.n) : (m.push o).get b = m.get b := by
  rw [M.get_of_lt (by rw [M.push_n]; omega), M.get_of_lt h]
  show ((m.st.set m.n o).get b).getD .dead = _
  rw [Tr.get_set, if_neg (by omega)]
theorem M.get_set_same (h : b < m.n) : (m.set b o).get b = o := by
  rw [M.get_of_lt (m := m.set b o) h]
  show ((m.st.set b o).get b).getD .dead = _
  rw [Tr.get_set, if_pos rfl]; rfl
theorem M.get_set_ne (h : c ≠ b) : (m.set b o).get c = m.get c := by
  by_cases hc : c < m.n
  · rw [M.get_of_lt hc, M.get_of_lt (m := m.set b o) hc]
    show ((m.st.set b o).get c).getD .dead = _
    rw [Tr.get_set, if_neg h]
  · rw [M.get_of_ge (m := m) (by omega), M.get_of_ge (m := m.set b o) (by show m.n ≤ c; omega)]
theorem M.lt_of_get {cs : List Value} {e : TypeId} {g : Option Nat} (h : m.get b = .cells cs e g) : b < m.n := by
  by_cases hc : b < m.n
  · exact hc
  · rw [M.get_of_ge (by omega)] at h; cases h
theorem M.lt_of_map {es : List MapEntry} {g : Nat} (h : m.get b = .map es g) : b < m.n := by
  by_cases hc : b < m.n
  · exact hc
  · rw [M.get_of_ge (by omega)] at h; cases h

/-- A new block. -/
theorem onM_push {P : M → Prop} (h : ∀ m1, m1.n = m.n + 1 → m1.get m.n = o → (∀ b, b < m.n → m1.get b = m.get b) → P m1) : onM (m.push o) P :=
  h _ rfl M.get_push_new fun _ hb => M.get_push_lt hb

/-- m' has all that m has. -/
structure Ext (m m' : M) : Prop where
  n : m.n ≤ m'.n
  get : ∀ b, b < m.n → m'.get b = m.get b
theorem Ext.refl : Ext m m := ⟨Nat.le_refl _, fun _ _ => rfl⟩
theorem Ext.trans (h : Ext m m1) (h' : Ext m1 m') : Ext m m' := ⟨Nat.le_trans h.n h'.n, fun b hb => by rw [h'.get b (Nat.lt_of_lt_of_le hb h.n), h.get b hb]⟩
theorem Ext.push (h : Ext m m1) : Ext m (m1.push o) := ⟨Nat.le_trans h.n (Nat.le_succ _), fun b hb => by rw [M.get_push_lt (Nat.lt_of_lt_of_le hb h.n), h.get b hb]⟩
theorem Ext.set (h : Ext m m1) (hb : m.n ≤ b) : Ext m (m1.set b o) := ⟨h.n, fun c hc => by rw [M.get_set_ne (by omega), h.get c hc]⟩
theorem Ext.wl (h : Ext m m1) {l : Nat} : Ext m (m1.wl l) := ⟨h.n, h.get⟩
theorem Ext.of_wl {l : Nat} (h : Ext m (m1.wl l)) : Ext m m1 := ⟨h.n, h.get⟩
theorem Ext.cells {cs : List Value} {e : TypeId} {g : Option Nat} (h : Ext m m1) (hb : m.get b = .cells cs e g) : m1.get b = .cells cs e g := by rw [h.get b (M.lt_of_get hb), hb]

theorem cellAt_of {cs : List Value} {e : TypeId} {g : Option Nat} {o : Nat} (h : m.get b = .cells cs e g) : cellAt m ⟨b, o, none⟩ = cs[o]? := by
  unfold cellAt; simp only [h]; rfl
theorem loadCells_of {cs : List Value} {e : TypeId} {g : Option Nat} {o n : Nat} (h : m.get b = .cells cs e g) (hl : o + n ≤ cs.length) : loadCells m ⟨b, o, none⟩ n = some ((cs.drop o).take n) := by
  unfold loadCells
  simp only [h]
  have : Nat.ble (o + n) cs.length = true := Nat.ble_eq_true_of_le hl
  rw [this]; rfl
theorem storeCells_of {cs vs : List Value} {e : TypeId} {g : Option Nat} {o : Nat} (h : m.get b = .cells cs e g) (hl : o + vs.length ≤ cs.length) (h1 : vs.all one = true) :
    storeCells m ⟨b, o, none⟩ vs = some (m.set b (.cells (cs.take o ++ (vs ++ cs.drop (o + vs.length))) e g)) := by
  unfold storeCells
  simp only [h]
  have : Nat.ble (o + vs.length) cs.length = true := Nat.ble_eq_true_of_le hl
  rw [this, h1]; rfl
end

/-- How data of a type lie in a row: the element type's number, how many cells, whether a value of it is an aggregate; the types of the rows that belong to it. -/
class Rep (α : Type) where
  ty : TypeId
  sz : Nat
  agg : Bool
  tys : List TypeId
  rep : M → α → List Value → Prop
  pos : 0 < sz
  one : agg = false → sz = 1
  len : ∀ {m x cs}, rep m x cs → cs.length = sz
  ones : ∀ {m x cs}, rep m x cs → cs.all D.one = true
  keep : ∀ {m m' x cs}, rep m x cs → (∀ b c t g, m.get b = .cells c t g → t ∈ tys → m'.get b = .cells c t g) → rep m' x cs
namespace Rep
/-- The value that such cells make. -/
def val (α : Type) [Rep α] (cs : List Value) : Value := bif agg α then .agg cs.toArray else cs.headD undef
theorem cells_val {α : Type} [Rep α] {m : M} {x : α} {cs : List Value} (h : rep m x cs) : D.cells (val α cs) = cs := by
  unfold val
  cases ha : agg α with
  | true => simp only [cond_true, D.cells]
  | false =>
    have h1 := len h
    rw [one ha] at h1
    obtain ⟨v, rfl⟩ : ∃ v, cs = [v] := by
      match cs, h1 with
      | [v], _ => exact ⟨v, rfl⟩
    have h2 := ones h
    simp only [cond_false, List.headD_cons]
    cases v <;> first | rfl | simp [D.one] at h2
theorem keepE {α : Type} [Rep α] {m m' : M} {x : α} {cs : List Value} (h : rep m x cs) (he : Ext m m') : rep m' x cs := keep h fun _ _ _ _ hb _ => he.cells hb
end Rep

/-- A slice value that holds a list. -/
def Sl {α : Type} [Rep α] (m : M) (l : List α) (v : Value) : Prop :=
  (v = .slice none 0 0 ∧ l = []) ∨ ∃ b o c bc g, v = .slice (some ⟨b, o, none⟩) l.length c ∧ m.get b = .cells bc (Rep.ty α) g ∧ o + l.length * Rep.sz α ≤ bc.length ∧
    ∀ i x, l[i]? = some x → Rep.rep m x ((bc.drop (o + i * Rep.sz α)).take (Rep.sz α))
theorem Sl.keep {α : Type} [Rep α] {m m' : M} {l : List α} {v : Value} (h : Sl m l v) (hk : ∀ b c t g, m.get b = .cells c t g → t ∈ Rep.ty α :: Rep.tys α → m'.get b = .cells c t g) : Sl m' l v := by
  rcases h with h | ⟨b, o, c, bc, g, h1, h2, h3, h4⟩
  · exact .inl h
  · exact .inr ⟨b, o, c, bc, g, h1, hk _ _ _ _ h2 List.mem_cons_self, h3, fun i x hi => Rep.keep (h4 i x hi) fun b c t g hb ht => hk b c t g hb (List.mem_cons_of_mem _ ht)⟩
theorem Sl.keepE {α : Type} [Rep α] {m m' : M} {l : List α} {v : Value} (h : Sl m l v) (he : Ext m m') : Sl m' l v := h.keep fun _ _ _ _ hb _ => he.cells hb
theorem Sl.form {α : Type} [Rep α] {m : M} {l : List α} {v : Value} (h : Sl m l v) : ∃ a c, v = .slice a l.length c := by
  rcases h with ⟨rfl, rfl⟩ | ⟨b, o, c, bc, g, rfl, _⟩
  · exact ⟨_, _, rfl⟩
  · exact ⟨_, _, rfl⟩
theorem Sl.one {α : Type} [Rep α] {m : M} {l : List α} {v : Value} (h : Sl m l v) : one v = true := by
  obtain ⟨a, c, rfl⟩ := h.form; rfl
theorem Sl.nil {α : Type} [Rep α] {m : M} : Sl m ([] : List α) (.slice none 0 0) := .inl ⟨rfl, rfl⟩
theorem Sl.cells {α : Type} [Rep α] {m : M} {l : List α} {v : Value} (h : Sl m l v) : D.cells v = [v] := by
  obtain ⟨a, c, rfl⟩ := h.form; rfl

/-- The type numbers T (of slices) and t (of their elements) are those of α. -/
def SlT (E : Env) (T t : TypeId) (α : Type) [Rep α] : Prop :=
  ∃ ti te, E.ty.get T = some ti ∧ (∃ e, ti.d = .slice e) ∧ ti.es = Rep.sz α ∧ E.ty.get t = some te ∧ te.d.agg = Rep.agg α ∧ te.size = Rep.sz α
section
variable {E : Env} {m : M} {T t : TypeId} {α : Type} [Rep α] {l : List α} {v : Value}
theorem Sl.len (h : Sl m l v) (hT : SlT E T t α) : builtin? E m .len [T] [v] = some (.int .i64 l.length, m) := by
  obtain ⟨ti, te, h1, ⟨e, h2⟩, _⟩ := hT
  obtain ⟨a, c, rfl⟩ := h.form
  simp only [builtin?, len?, h1, h2, Option.map_some]
/-- The address of an element, and what lies there. -/
theorem Sl.index (h : Sl m l v) (hT : SlT E T t α) {k : IntKind} {i : Nat} {x : α} (hi : l[i]? = some x) :
    ∃ p cs, indexAddr? E T v (.int k i) = some p ∧ load? E m t p = some (Rep.val α cs) ∧ Rep.rep m x cs := by
  obtain ⟨ti, te, h1, ⟨e, h2⟩, h3, h4, h5, h6⟩ := hT
  have hlt := (List.getElem?_eq_some_iff.1 hi).1
  rcases h with ⟨_, rfl⟩ | ⟨b, o, c, bc, g, rfl, hb, hlen, hel⟩
  · simp at hi
  · have hr := hel i x hi
    have hpos := Rep.pos (α := α)
    refine ⟨.pointer (some ⟨b, o + i * Rep.sz α, none⟩), _, ?_, ?_, hr⟩
    · have hc : 0 ≤ (i : Int) ∧ (i : Int) < (l.length : Int) ∧ 0 < ti.es := ⟨by omega, by omega, by omega⟩
      simp only [indexAddr?, h1, h2]
      rw [if_pos hc, addr_add rfl, h3]
      rfl
    · have hle : o + i * Rep.sz α + Rep.sz α ≤ bc.length := by
        have : (i + 1) * Rep.sz α ≤ l.length * Rep.sz α := Nat.mul_le_mul_right _ hlt
        rw [Nat.add_mul, Nat.one_mul] at this
        omega
      simp only [load?, loadVar, h4]
      unfold Rep.val
      cases ha : Rep.agg α with
      | true =>
        rw [h5, ha, h6]
        simp only [cond_true]
        rw [loadCells_of hb hle]; rfl
      | false =>
        rw [h5, ha]
        simp only [cond_false]
        rw [cellAt_of hb]
        have h1' := Rep.len hr
        have hs := Rep.one ha
        rw [hs] at h1' ⊢
        simp only [hs] at hle
        rw [List.headD_eq_head?_getD, List.head?_take, List.head?_drop, if_neg (by omega)]
        have hlt2 : o + i * 1 < bc.length := by omega
        rw [List.getElem?_eq_getElem hlt2]
        rfl
end
/-- A store into a row. -/
theorem store_of {E : Env} {m : M} {t : TypeId} {ti : TI} {b o : Nat} {cs : List Value} {e : TypeId} {g : Option Nat} {x : Value} (ht : E.ty.get t = some ti) (h : m.get b = .cells cs e g) (hs : (cells x).length = ti.size) (hl : o + (cells x).length ≤ cs.length) (h1 : (cells x).all one = true) :
    store? E m t (.pointer (some ⟨b, o, none⟩)) x = some (m.set b (.cells (cs.take o ++ (cells x ++ cs.drop (o + (cells x).length))) e g), b) := by
  have : Nat.beq (cells x).length ti.size = true := by rw [hs]; exact Nat.beq_refl _
  simp only [store?, storeVar, ht, this, cond_true, storeCells_of h hl h1]
theorem on2_store {E : Env} {m : M} {t : TypeId} {ti : TI} {b o : Nat} {cs : List Value} {e : TypeId} {g : Option Nat} {x : Value} {P : M → Nat → Prop} (ht : E.ty.get t = some ti) (h : m.get b = .cells cs e g) (hs : (cells x).length = ti.size) (hl : o + (cells x).length ≤ cs.length) (h1 : (cells x).all one = true)
    (hP : ∀ m1, m1.n = m.n → m1.get b = .cells (cs.take o ++ (cells x ++ cs.drop (o + (cells x).length))) e g → (∀ c, c ≠ b → m1.get c = m.get c) → P m1 b) : on2 (store? E m t (.pointer (some ⟨b, o, none⟩)) x) P := by
  rw [store_of ht h hs hl h1, on2_some]
  exact hP _ rfl (M.get_set_same (M.lt_of_get h)) fun c hc => M.get_set_ne hc
/-- The address of an element, and the row it lies in. -/
theorem Sl.indexA {E : Env} {m : M} {T t : TypeId} {α : Type} [Rep α] {l : List α} {v : Value} (h : Sl m l v) (hT : SlT E T t α) {k : IntKind} {i : Nat} {x : α} (hi : l[i]? = some x) :
    ∃ b o bc g cs, indexAddr? E T v (.int k i) = some (.pointer (some ⟨b, o, none⟩)) ∧ m.get b = .cells bc (Rep.ty α) g ∧ Rep.rep m x cs ∧ o + Rep.sz α ≤ bc.length ∧ ∀ j, j < Rep.sz α → bc[o + j]? = cs[j]? := by
  obtain ⟨ti, te, h1, ⟨e, h2⟩, h3, h4, h5, h6⟩ := hT
  have hlt := (List.getElem?_eq_some_iff.1 hi).1
  rcases h with ⟨_, rfl⟩ | ⟨b, o, c, bc, g, rfl, hb, hlen, hel⟩
  · simp at hi
  · have hr := hel i x hi
    have hpos := Rep.pos (α := α)
    refine ⟨b, o + i * Rep.sz α, bc, g, _, ?_, hb, hr, ?_, fun j hj => ?_⟩
    · have hc : 0 ≤ (i : Int) ∧ (i : Int) < (l.length : Int) ∧ 0 < ti.es := ⟨by omega, by omega, by omega⟩
      simp only [indexAddr?, h1, h2]
      rw [if_pos hc, addr_add rfl, h3]
      rfl
    · have : (i + 1) * Rep.sz α ≤ l.length * Rep.sz α := Nat.mul_le_mul_right _ hlt
      rw [Nat.add_mul, Nat.one_mul] at this
      omega
    · rw [List.getElem?_take_of_lt hj, List.getElem?_drop]
/-- A store over the whole of a row. -/
theorem on2_storeV {E : Env} {m : M} {t : TypeId} {ti : TI} {b : Nat} {cs : List Value} {e : TypeId} {g : Option Nat} {x : Value} {P : M → Nat → Prop} (ht : E.ty.get t = some ti) (h : m.get b = .cells cs e g) (hs : (cells x).length = ti.size) (hl : (cells x).length = cs.length) (h1 : (cells x).all one = true)
    (hP : ∀ m1, m1.n = m.n → m1.get b = .cells (cells x) e g → (∀ c, c ≠ b → m1.get c = m.get c) → P m1 b) : on2 (store? E m t (.pointer (some ⟨b, 0, none⟩)) x) P := by
  refine on2_store ht h hs (by omega) h1 fun m1 hn hg hk => hP m1 hn ?_ hk
  rw [hg, List.take_zero, List.nil_append, List.drop_eq_nil_of_le (by omega), List.append_nil]
end Go.D

/- The program logic over D, its seventh part: slices that the call itself has grown; append. -/
namespace Go.D
open Go

/-- All that lies below n1 is as it was. -/
structure Fr' (n1 : Nat) (m m1 : M) : Prop where
  n : m.n ≤ m1.n
  get : ∀ c, c < n1 → m1.get c = m.get c
theorem Fr'.refl {n1 : Nat} {m : M} : Fr' n1 m m := ⟨Nat.le_refl _, fun _ _ => rfl⟩
theorem Fr'.trans {n1 : Nat} {m m1 m2 : M} (h : Fr' n1 m m1) (h' : Fr' n1 m1 m2) : Fr' n1 m m2 := ⟨Nat.le_trans h.n h'.n, fun c hc => by rw [h'.get c hc, h.get c hc]⟩
theorem Fr'.ext {m m1 : M} (h : Fr' m.n m m1) : Ext m m1 := ⟨h.n, h.get⟩
theorem Ext.fr {m m1 : M} (h : Ext m m1) {n1 : Nat} (hn : n1 ≤ m.n) : Fr' n1 m m1 := ⟨h.n, fun c hc => h.get c (by omega)⟩
theorem Fr'.mono {n1 n2 : Nat} {m m1 : M} (h : Fr' n1 m m1) (hn : n2 ≤ n1) : Fr' n2 m m1 := ⟨h.n, fun c hc => h.get c (by omega)⟩

/-- The i-th piece of k cells. -/
def chunk (cs : List Value) (k i : Nat) : List Value := (cs.drop (i * k)).take k
theorem chunk_append_left {a b : List Value} {k n i : Nat} (ha : a.length = n * k) (hi : i < n) : chunk (a ++ b) k i = chunk a k i := by
  unfold chunk
  have : (i + 1) * k ≤ n * k := Nat.mul_le_mul_right _ hi
  rw [Nat.add_mul, Nat.one_mul] at this
  rw [List.drop_append_of_le_length (by omega), List.take_append_of_le_length (by rw [List.length_drop]; omega)]
theorem chunk_append_right {a b : List Value} {k n i : Nat} (ha : a.length = n * k) (hi : n ≤ i) : chunk (a ++ b) k i = chunk b k (i - n) := by
  unfold chunk
  have : n * k ≤ i * k := Nat.mul_le_mul_right _ hi
  rw [List.drop_append, ha, List.drop_eq_nil_of_le (by omega), List.nil_append, Nat.sub_mul]
theorem chunk_sub {bc : List Value} {o k n i : Nat} (hi : i < n) : chunk ((bc.drop o).take (n * k)) k i = (bc.drop (o + i * k)).take k := by
  unfold chunk
  have : (i + 1) * k ≤ n * k := Nat.mul_le_mul_right _ hi
  rw [Nat.add_mul, Nat.one_mul] at this
  rw [List.drop_take, List.drop_drop, List.take_take]
  congr 1
  omega
theorem all_chunks {p : Value → Bool} {k : Nat} : ∀ (n : Nat) (cs : List Value), cs.length = n * k → (∀ i, i < n → (chunk cs k i).all p = true) → cs.all p = true
  | 0, cs, hl, _ => by
    have : cs = [] := List.eq_nil_of_length_eq_zero (by simpa using hl)
    rw [this]; rfl
  | n + 1, cs, hl, h => by
    rw [Nat.add_mul, Nat.one_mul] at hl
    have h0 := h 0 (by omega)
    simp only [chunk, Nat.zero_mul, List.drop_zero] at h0
    have hd := all_chunks (k := k) n (cs.drop k) (by rw [List.length_drop]; omega) fun i hi => by
      have := h (i + 1) (by omega)
      simp only [chunk, Nat.add_mul, Nat.one_mul] at this
      simp only [chunk, List.drop_drop]
      rw [Nat.add_comm k]
      exact this
    rw [← List.take_append_drop k cs, List.all_append, h0, hd]; rfl

/-- A slice of the call's own, in a row at n1 or above, just as long as it must be. -/
def Ow {α : Type} [Rep α] (n1 : Nat) (m : M) (l : List α) (v : Value) : Prop :=
  (v = .slice none 0 0 ∧ l = []) ∨ ∃ b cs, v = .slice (some ⟨b, 0, none⟩) l.length l.length ∧ 0 < l.length ∧ n1 ≤ b ∧ m.get b = .cells cs (Rep.ty α) (some (Rep.sz α)) ∧ cs.length = l.length * Rep.sz α ∧
    ∀ i x, l[i]? = some x → Rep.rep m x (chunk cs (Rep.sz α) i)
theorem Ow.nil {α : Type} [Rep α] {n1 : Nat} {m : M} : Ow n1 m ([] : List α) (.slice none 0 0) := .inl ⟨rfl, rfl⟩
theorem Ow.sl {α : Type} [Rep α] {n1 : Nat} {m : M} {l : List α} {v : Value} (h : Ow n1 m l v) : Sl m l v := by
  rcases h with h | ⟨b, cs, h1, h2, h3, h4, h5, h6⟩
  · exact .inl h
  · refine .inr ⟨b, 0, _, cs, _, h1, h4, by omega, fun i x hi => ?_⟩
    rw [Nat.zero_add]
    exact h6 i x hi
theorem Ow.keep {α : Type} [Rep α] {n1 : Nat} {m m' : M} {l : List α} {v : Value} (h : Ow n1 m l v) (hk : ∀ b c t g, m.get b = .cells c t g → t ∈ Rep.ty α :: Rep.tys α → m'.get b = .cells c t g) : Ow n1 m' l v := by
  rcases h with h | ⟨b, cs, h1, h2, h3, h4, h5, h6⟩
  · exact .inl h
  · exact .inr ⟨b, cs, h1, h2, h3, hk _ _ _ _ h4 List.mem_cons_self, h5, fun i x hi => Rep.keep (h6 i x hi) fun b c t g hb ht => hk b c t g hb (List.mem_cons_of_mem _ ht)⟩
theorem Ow.keepE {α : Type} [Rep α] {n1 : Nat} {m m' : M} {l : List α} {v : Value} (h : Ow n1 m l v) (he : Ext m m') : Ow n1 m' l v := h.keep fun _ _ _ _ hb _ => he.cells hb
theorem Ow.mono {α : Type} [Rep α] {n1 n2 : Nat} {m : M} {l : List α} {v : Value} (h : Ow n1 m l v) (hn : n2 ≤ n1) : Ow n2 m l v := by
  rcases h with h | ⟨b, cs, h1, h2, h3, h4⟩
  · exact .inl h
  · exact .inr ⟨b, cs, h1, h2, by omega, h4⟩
theorem Ow.flat {α : Type} [Rep α] {n1 : Nat} {m : M} {l : List α} {v : Value} (h : Ow n1 m l v) (hl : l ≠ []) : flat2 v = false := by
  rcases h with ⟨_, rfl⟩ | ⟨b, cs, rfl, _⟩
  · exact absurd rfl hl
  · rfl

/-- The type number T is that of the slices of α, for append. -/
def ApT (E : Env) (T : TypeId) (α : Type) [Rep α] : Prop :=
  ∃ ti ei, E.ty.get T = some ti ∧ ti.d = .slice (Rep.ty α) ∧ ti.es = Rep.sz α ∧ E.ty.get (Rep.ty α) = some ei ∧ ei.bytes ≤ 65536 ∧ zeroLen ei.zero (Rep.sz α) = true
section
variable {E : Env} {α : Type} [Rep α] {n1 : Nat} {m : M} {l ys : List α} {v y : Value} {T : TypeId}
theorem Sl.first (h : Sl m ys y) : ∃ news, length? y = some ys.length ∧ first? m (Rep.sz α) ys.length y = some news ∧ news.length = ys.length * Rep.sz α ∧ news.all D.one = true ∧ ∀ i x, ys[i]? = some x → Rep.rep m x (chunk news (Rep.sz α) i) := by
  rcases h with ⟨rfl, rfl⟩ | ⟨b, o, c, bc, g, rfl, hb, hlen, hel⟩
  · exact ⟨[], rfl, rfl, by simp, rfl, fun i x hi => by simp at hi⟩
  · have hl : ((bc.drop o).take (ys.length * Rep.sz α)).length = ys.length * Rep.sz α := by rw [List.length_take, List.length_drop]; omega
    have hch : ∀ i x, ys[i]? = some x → Rep.rep m x (chunk ((bc.drop o).take (ys.length * Rep.sz α)) (Rep.sz α) i) := fun i x hi => by
      rw [chunk_sub (List.getElem?_eq_some_iff.1 hi).1]; exact hel i x hi
    refine ⟨_, rfl, ?_, hl, ?_, hch⟩
    · unfold first?
      cases hn : Nat.beq ys.length 0 with
      | true =>
        have := Nat.eq_of_beq_eq_true hn
        simp [this]
      | false => exact loadCells_of hb hlen
    · exact all_chunks ys.length _ hl fun i hi => Rep.ones (hch i _ (List.getElem?_eq_getElem hi))
/-- append to a slice of the call's own. -/
theorem Ow.append (hT : ApT E T α) (hty : Rep.ty α ∉ Rep.tys α) (h : Ow n1 m l v) (hy : Sl m ys y) (hn : n1 ≤ m.n) (hs : l.length + ys.length ≤ 268435456) :
    ∃ v' m1, builtin? E (m.wl m.n) .append [T, T] [v, y] = some (v', m1) ∧ Ow n1 m1 (l ++ ys) v' ∧ Fr' n1 m m1 ∧ n1 ≤ m1.low ∧ m1.n ≤ m.n + 1 := by
  obtain ⟨ti, ei, t1, t2, t3, t4, t5, t6⟩ := hT
  obtain ⟨news, e1, e2, e3, e4, e5⟩ := hy.first
  have hpos := Rep.pos (α := α)
  have hc : (Nat.beq ti.es 0 || Nat.blt 65536 ei.bytes || !news.all D.one || Nat.blt 268435456 (l.length + ys.length) || !Nat.beq news.length (ys.length * ti.es) || !zeroLen ei.zero ti.es) = false := by
    have c1 : Nat.beq ti.es 0 = false := by
      cases hb : Nat.beq ti.es 0 with
      | false => rfl
      | true => have := Nat.eq_of_beq_eq_true hb; omega
    have c2 : Nat.blt 65536 ei.bytes = false := by
      cases hb : Nat.blt 65536 ei.bytes with
      | false => rfl
      | true => rw [Nat.blt_eq] at hb; omega
    have c3 : Nat.blt 268435456 (l.length + ys.length) = false := by
      cases hb : Nat.blt 268435456 (l.length + ys.length) with
      | false => rfl
      | true => rw [Nat.blt_eq] at hb; omega
    have c4 : Nat.beq news.length (ys.length * ti.es) = true := by rw [e3, t3]; exact Nat.beq_refl _
    rw [c1, c2, c3, c4, e4, t3, t6]; rfl
  have hfirst : first? (m.wl m.n) ti.es ys.length y = some news := by rw [first?_wl, t3]; exact e2
  rcases h with ⟨rfl, rfl⟩ | ⟨b, cs, rfl, h2, h3, h4, h5, h6⟩
  · -- nothing there yet
    cases hys : ys with
    | nil =>
      subst hys
      refine ⟨.slice none 0 0, m.wl m.n, ?_, .inl ⟨rfl, rfl⟩, ⟨Nat.le_refl _, fun _ _ => rfl⟩, hn, by show m.n ≤ _; omega⟩
      simp only [builtin?, append?, t1, e1, t2, t4, hfirst]
      simp only [List.length_nil] at hc ⊢
      rw [hc]
      rfl
    | cons y0 ys' =>
      rw [← hys]
      have hylen : 0 < ys.length := by rw [hys]; simp
      have hble : Nat.ble (0 + ys.length) 0 = false := by
        cases hb : Nat.ble (0 + ys.length) 0 with
        | false => rfl
        | true => have := Nat.le_of_ble_eq_true hb; omega
      refine ⟨.slice (some ⟨m.n, 0, none⟩) ys.length ys.length, (m.wl m.n).push (.cells news (Rep.ty α) (some (Rep.sz α))), ?_, ?_, ⟨by show m.n ≤ m.n + 1; omega, fun c hc => by rw [M.get_push_lt (by show c < m.n; omega)]; rfl⟩, hn, by show m.n + 1 ≤ _; omega⟩
      · simp only [builtin?, append?, t1, e1, t2, t4, hfirst]
        simp only [List.length_nil] at hc
        rw [hc, hble]
        simp only [cond_false, grow?]
        have : (Nat.beq 0 0 && Nat.beq 0 0) = true := rfl
        rw [this, t3]
        simp only [cond_true, Nat.zero_add]
        rfl
      · refine .inr ⟨m.n, news, by simp, by simpa using hylen, hn, M.get_push_new (m := m.wl m.n), by simpa using e3, fun i x hi => ?_⟩
        have := e5 i x (by simpa using hi)
        exact Rep.keepE this ⟨by show m.n ≤ m.n + 1; omega, fun c hc => by rw [M.get_push_lt (m := m.wl m.n) hc]; rfl⟩
  · -- there is a row
    have hbn := M.lt_of_get h4
    cases hys : ys with
    | nil =>
      subst hys
      refine ⟨.slice (some ⟨b, 0, none⟩) l.length l.length, m.wl m.n, ?_, ?_, ⟨Nat.le_refl _, fun _ _ => rfl⟩, hn, by show m.n ≤ _; omega⟩
      · simp only [builtin?, append?, t1, e1, t2, t4, hfirst]
        simp only [List.length_nil, Nat.add_zero] at hc ⊢
        rw [hc]
        have : Nat.ble l.length l.length = true := Nat.ble_eq_true_of_le (Nat.le_refl _)
        rw [this]
        rfl
      · rw [List.append_nil]
        exact .inr ⟨b, cs, rfl, h2, h3, h4, h5, fun i x hi => Rep.keep (m := m) (h6 i x hi) fun _ _ _ _ hb _ => hb⟩
    | cons y0 ys' =>
      rw [← hys]
      have hylen : 0 < ys.length := by rw [hys]; simp
      have hble : Nat.ble (l.length + ys.length) l.length = false := by
        cases hb : Nat.ble (l.length + ys.length) l.length with
        | false => rfl
        | true => have := Nat.le_of_ble_eq_true hb; omega
      have hold : (bif Nat.beq l.length 0 then some [] else loadCells (m.wl m.n) ⟨b, 0, none⟩ (l.length * Rep.sz α)) = some cs := by
        cases hb : Nat.beq l.length 0 with
        | true => have := Nat.eq_of_beq_eq_true hb; omega
        | false =>
          simp only [cond_false, loadCells_wl]
          rw [loadCells_of h4 (by omega), List.drop_zero, List.take_of_length_le (by omega)]
      have g1 : ((some (Rep.sz α) : Option Nat).isNone || ((some (Rep.sz α) : Option Nat) == some (Rep.sz α) && Nat.blt (0 + l.length * Rep.sz α) cs.length)) = false := by
        have : Nat.blt (0 + l.length * Rep.sz α) cs.length = false := by
          cases hb : Nat.blt (0 + l.length * Rep.sz α) cs.length with
          | false => rfl
          | true => rw [Nat.blt_eq] at hb; omega
        rw [this]; simp
      have g2 : ((some (Rep.sz α) : Option Nat) == some (Rep.sz α) && Nat.beq 0 0 && (none : Option Nat).isNone && Nat.beq (l.length * Rep.sz α) cs.length && Nat.beq l.length l.length && Nat.beq (Rep.ty α) (Rep.ty α)) = true := by
        rw [h5]
        simp
      refine ⟨.slice (some ⟨m.n, 0, none⟩) (l.length + ys.length) (l.length + ys.length), ((m.wl m.n).set b .dead).push (.cells (cs ++ news) (Rep.ty α) (some (Rep.sz α))), ?_, ?_, ⟨by show m.n ≤ m.n + 1; omega, fun c hc => ?_⟩, ?_, by show m.n + 1 ≤ _; omega⟩
      · simp only [builtin?, append?, t1, e1, t2, t4, hfirst]
        rw [hc, hble]
        simp only [cond_false, grow?, t3]
        have hg : (m.wl m.n).get b = .cells cs (Rep.ty α) (some (Rep.sz α)) := h4
        simp only [hg, hold, g1, cond_false]
        rw [g2]
        rfl
      · have hget : ∀ c, c < m.n → c ≠ b → (((m.wl m.n).set b .dead).push (.cells (cs ++ news) (Rep.ty α) (some (Rep.sz α)))).get c = m.get c := fun c hc hne => by
          rw [M.get_push_lt (by show c < m.n; exact hc), M.get_set_ne hne]; rfl
        have hrep : ∀ x c, Rep.rep m x c → Rep.rep (α := α) (((m.wl m.n).set b .dead).push (.cells (cs ++ news) (Rep.ty α) (some (Rep.sz α)))) x c := fun x c hx => by
          refine Rep.keep hx fun b' c' t g hb ht => ?_
          rw [hget b' (M.lt_of_get hb) (fun e => by subst e; rw [h4] at hb; cases hb; exact hty ht), hb]
        refine .inr ⟨m.n, cs ++ news, by simp, by simp; omega, hn, M.get_push_new (m := (m.wl m.n).set b .dead), by simp [h5, e3, Nat.add_mul], fun i x hi => ?_⟩
        by_cases hlt : i < l.length
        · rw [chunk_append_left h5 hlt]
          rw [List.getElem?_append_left hlt] at hi
          exact hrep _ _ (h6 i x hi)
        · rw [chunk_append_right h5 (by omega)]
          rw [List.getElem?_append_right (by omega)] at hi
          exact hrep _ _ (e5 _ x hi)
      · rw [M.get_push_lt (by show c < m.n; omega), M.get_set_ne (by omega)]; rfl
      · show n1 ≤ min m.n b
        omega
end
end Go.D

/- The program logic over D, its eighth part: parts of slices; slices.Delete's steps; copies. -/
namespace Go.D
open Go

section
variable {E : Env} {m : M} {T : TypeId} {ti : TI} {e : TypeId} {b n : Nat} {cs : List Value} {te : TypeId} {k : Nat}
theorem bound_ok {i y : Nat} (h : i ≤ y) : bound? (.int .i64 i) y = some i := by
  unfold bound?
  have : (0 : Int) ≤ i ∧ (i : Int) ≤ y := ⟨by omega, by omega⟩
  simp only [this, and_self, if_true, Int.toNat_natCast]
/-- s[:i] of a row of one's own. -/
theorem slice_to (t1 : E.ty.get T = some ti) (t2 : ti.d = .slice e) (t3 : ti.es = k) (hk : 0 < k) (h : m.get b = .cells cs te (some k)) (hn : 0 < n) {i c : Nat} (hc : i ≤ n) (hcn : c ≤ n) :
    slice? E m T (.slice (some ⟨b, 0, none⟩) c n) none (some (.int .i64 i)) none = some (.slice (some ⟨b, 0, none⟩) i n) := by
  have b1 : bounds? c n none (some (.int .i64 i)) none = some (0, i, n) := by unfold bounds?; simp only [bound_ok hc]
  have e1 : Nat.beq ti.es 0 = false := by
    cases hb : Nat.beq ti.es 0 with
    | false => rfl
    | true => have := Nat.eq_of_beq_eq_true hb; omega
  have e2 : Nat.ble c n = true := Nat.ble_eq_true_of_le hcn
  have e3 : Nat.beq k ti.es = true := by rw [t3]; exact Nat.beq_refl _
  have e4 : Nat.beq n 0 = false := by
    cases hb : Nat.beq n 0 with
    | false => rfl
    | true => have := Nat.eq_of_beq_eq_true hb; omega
  simp only [slice?, t1, t2, b1, h, e1, e2, e3, e4, Bool.not_true, Bool.or_false, cond_false, cond_true, Bool.false_and]
  simp only [Nat.zero_mul, Addr.add, if_true, Nat.sub_zero]
/-- s[j:] of a row of one's own. -/
theorem slice_from (t1 : E.ty.get T = some ti) (t2 : ti.d = .slice e) (t3 : ti.es = k) (hk : 0 < k) (h : m.get b = .cells cs te (some k)) (hl : cs.length = n * k) {j : Nat} (hc : j ≤ n) :
    slice? E m T (.slice (some ⟨b, 0, none⟩) n n) (some (.int .i64 j)) none none = some (.slice (some ⟨b, j * k, none⟩) (n - j) (n - j)) := by
  have b1 : bounds? n n (some (.int .i64 j)) none none = some (j, n, n) := by unfold bounds?; simp only [bound_ok hc]
  have e1 : Nat.beq ti.es 0 = false := by
    cases hb : Nat.beq ti.es 0 with
    | false => rfl
    | true => have := Nat.eq_of_beq_eq_true hb; omega
  have e2 : Nat.ble n n = true := Nat.ble_eq_true_of_le (Nat.le_refl _)
  have e3 : Nat.beq k ti.es = true := by rw [t3]; exact Nat.beq_refl _
  have e4 : Nat.beq (0 + n * ti.es) cs.length = true := by rw [hl, t3, Nat.zero_add]; exact Nat.beq_refl _
  simp only [slice?, t1, t2, b1, h, e1, e2, e3, e4, Bool.not_true, Bool.or_false, cond_false, cond_true, Option.isNone_none, Bool.and_self, Bool.and_false]
  rw [t3, addr_add rfl, Nat.zero_add]
/-- s[i:j:n] of a row of one's own. -/
theorem slice_full (t1 : E.ty.get T = some ti) (t2 : ti.d = .slice e) (t3 : ti.es = k) (hk : 0 < k) (h : m.get b = .cells cs te (some k)) {i j : Nat} (hi : i ≤ j) (hc : j ≤ n) :
    ∃ w, slice? E m T (.slice (some ⟨b, 0, none⟩) n n) (some (.int .i64 i)) (some (.int .i64 j)) (some (.int .i64 n)) = some w := by
  have b1 : bounds? n n (some (.int .i64 i)) (some (.int .i64 j)) (some (.int .i64 n)) = some (i, j, n) := by unfold bounds?; simp only [bound_ok hc, bound_ok hi, bound_ok (Nat.le_refl n)]
  have e1 : Nat.beq ti.es 0 = false := by
    cases hb : Nat.beq ti.es 0 with
    | false => rfl
    | true => have := Nat.eq_of_beq_eq_true hb; omega
  have e2 : Nat.ble n n = true := Nat.ble_eq_true_of_le (Nat.le_refl _)
  have e3 : Nat.beq k ti.es = true := by rw [t3]; exact Nat.beq_refl _
  simp only [slice?, t1, t2, b1, h, e1, e2, e3, Bool.not_true, Bool.or_false, cond_false, cond_true]
  exact ⟨_, rfl⟩
/-- s[c:n] of a slice with room. -/
theorem slice_tail (t1 : E.ty.get T = some ti) (t2 : ti.d = .slice e) (t3 : ti.es = k) (hk : 0 < k) (h : m.get b = .cells cs te (some k)) (hl : cs.length = n * k) {c : Nat} (hc : c ≤ n) :
    slice? E m T (.slice (some ⟨b, 0, none⟩) c n) (some (.int .i64 c)) (some (.int .i64 n)) none = some (.slice (some ⟨b, c * k, none⟩) (n - c) (n - c)) := by
  have b1 : bounds? c n (some (.int .i64 c)) (some (.int .i64 n)) none = some (c, n, n) := by unfold bounds?; simp only [bound_ok hc, bound_ok (Nat.le_refl n)]
  have e1 : Nat.beq ti.es 0 = false := by
    cases hb : Nat.beq ti.es 0 with
    | false => rfl
    | true => have := Nat.eq_of_beq_eq_true hb; omega
  have e2 : Nat.ble c n = true := Nat.ble_eq_true_of_le hc
  have e3 : Nat.beq k ti.es = true := by rw [t3]; exact Nat.beq_refl _
  have e4 : Nat.beq (0 + n * ti.es) cs.length = true := by rw [hl, t3, Nat.zero_add]; exact Nat.beq_refl _
  simp only [slice?, t1, t2, b1, h, e1, e2, e3, e4, Bool.not_true, Bool.or_false, cond_false, cond_true, Option.isNone_none, Bool.and_self, Bool.and_false]
  rw [t3, addr_add rfl, Nat.zero_add]
end
section
variable {E : Env} {α : Type} [Rep α] {n1 : Nat} {m : M} {T : TypeId}
/-- append where there is room: s[:i] and what follows j. -/
theorem append_room (hT : ApT E T α) {b n i j : Nat} {cs : List Value} {te : TypeId} (h : m.get b = .cells cs te (some (Rep.sz α))) (hl : cs.length = n * Rep.sz α) (hone : cs.all one = true) (hi : i ≤ j) (hj : j ≤ n) (hs : n ≤ 1000000) :
    ∃ m1, builtin? E (m.wl m.n) .append [T, T] [.slice (some ⟨b, 0, none⟩) i n, .slice (some ⟨b, j * Rep.sz α, none⟩) (n - j) (n - j)] = some (.slice (some ⟨b, 0, none⟩) (i + (n - j)) n, m1) ∧
      m1.n = m.n ∧ (m1.low = m.n ∨ m1.low = b) ∧ (∀ c, c ≠ b → m1.get c = m.get c) ∧ m1.get b = .cells (cs.take (i * Rep.sz α) ++ (cs.drop (j * Rep.sz α) ++ cs.drop (i * Rep.sz α + (n - j) * Rep.sz α))) te (some (Rep.sz α)) := by
  obtain ⟨ti, ei, t1, t2, t3, t4, t5, t6⟩ := hT
  have hpos := Rep.pos (α := α)
  have hbn := M.lt_of_get h
  have hmul : j * Rep.sz α ≤ n * Rep.sz α := Nat.mul_le_mul_right _ hj
  have hsub : (n - j) * Rep.sz α = n * Rep.sz α - j * Rep.sz α := Nat.sub_mul _ _ _
  have hnews : (bif Nat.beq (n - j) 0 then some [] else loadCells (m.wl m.n) ⟨b, j * Rep.sz α, none⟩ ((n - j) * ti.es)) = some (cs.drop (j * Rep.sz α)) := by
    cases hb : Nat.beq (n - j) 0 with
    | true =>
      have := Nat.eq_of_beq_eq_true hb
      rw [List.drop_eq_nil_of_le (by rw [hl]; rw [this] at hsub; omega)]; rfl
    | false =>
      simp only [cond_false, loadCells_wl, t3]
      rw [loadCells_of h (by omega), List.take_of_length_le (by rw [List.length_drop]; omega)]
  have hfirst : first? (m.wl m.n) ti.es (n - j) (.slice (some ⟨b, j * Rep.sz α, none⟩) (n - j) (n - j)) = some (cs.drop (j * Rep.sz α)) := hnews
  have hnl : (cs.drop (j * Rep.sz α)).length = (n - j) * Rep.sz α := by rw [List.length_drop]; omega
  have hno : (cs.drop (j * Rep.sz α)).all one = true := by
    rw [List.all_eq_true] at hone ⊢
    intro x hx; exact hone x (List.mem_of_mem_drop hx)
  have hc : (Nat.beq ti.es 0 || Nat.blt 65536 ei.bytes || !(cs.drop (j * Rep.sz α)).all one || Nat.blt 268435456 (i + (n - j)) || !Nat.beq (cs.drop (j * Rep.sz α)).length ((n - j) * ti.es) || !zeroLen ei.zero ti.es) = false := by
    have c1 : Nat.beq ti.es 0 = false := by
      cases hb : Nat.beq ti.es 0 with
      | false => rfl
      | true => have := Nat.eq_of_beq_eq_true hb; omega
    have c2 : Nat.blt 65536 ei.bytes = false := by
      cases hb : Nat.blt 65536 ei.bytes with
      | false => rfl
      | true => rw [Nat.blt_eq] at hb; omega
    have c3 : Nat.blt 268435456 (i + (n - j)) = false := by
      cases hb : Nat.blt 268435456 (i + (n - j)) with
      | false => rfl
      | true => rw [Nat.blt_eq] at hb; omega
    have c4 : Nat.beq (cs.drop (j * Rep.sz α)).length ((n - j) * ti.es) = true := by rw [hnl, t3]; exact Nat.beq_refl _
    rw [c1, c2, c3, c4, hno, t3, t6]; rfl
  have hble : Nat.ble (i + (n - j)) n = true := Nat.ble_eq_true_of_le (by omega)
  cases hz : Nat.beq (n - j) 0 with
  | true =>
    have hz' := Nat.eq_of_beq_eq_true hz
    refine ⟨m.wl m.n, ?_, rfl, .inl rfl, fun _ _ => rfl, ?_⟩
    · simp only [builtin?, append?, t1, t2, t4, length?, hfirst, hc, hble, hz, cond_true, cond_false, Option.map_some]
    · show m.get b = _
      rw [h, hz', Nat.zero_mul, Nat.add_zero, List.drop_eq_nil_of_le (by rw [hz'] at hsub; omega), List.nil_append, List.take_append_drop]
  | false =>
    have hz' : 0 < n - j := by
      rcases Nat.eq_zero_or_pos (n - j) with h0 | h0
      · rw [h0] at hz; cases hz
      · exact h0
    have hst : storeCells (m.wl m.n) (Addr.add ⟨b, 0, none⟩ (i * ti.es)) (cs.drop (j * Rep.sz α)) = some ((m.wl m.n).set b (.cells (cs.take (i * Rep.sz α) ++ (cs.drop (j * Rep.sz α) ++ cs.drop (i * Rep.sz α + (n - j) * Rep.sz α))) te (some (Rep.sz α)))) := by
      have hmul2 : i * Rep.sz α ≤ j * Rep.sz α := Nat.mul_le_mul_right _ hi
      rw [t3, addr_add rfl, Nat.zero_add, storeCells_of (m := m.wl m.n) h (by omega) hno, hnl]
    refine ⟨(m.wl m.n).set b (.cells (cs.take (i * Rep.sz α) ++ (cs.drop (j * Rep.sz α) ++ cs.drop (i * Rep.sz α + (n - j) * Rep.sz α))) te (some (Rep.sz α))), ?_, rfl, .inr (show min m.n b = b by omega), fun c hc => M.get_set_ne (m := m.wl m.n) hc, M.get_set_same (m := m.wl m.n) hbn⟩
    simp only [builtin?, append?, t1, t2, t4, length?, hfirst, hc, hble, hz, cond_true, cond_false, hst, Option.map_some]
/-- clear of a part of a row of one's own. -/
theorem clear_part (hT : ApT E T α) {b o n : Nat} {cs z : List Value} {te : TypeId} {g : Option Nat} (h : m.get b = .cells cs te g) (hz : ∃ v, zero? E (Rep.ty α) = some v ∧ cells v = z) (hzl : z.length = Rep.sz α) (hz1 : z.all one = true) (hn : 0 < n) (hl : o + n * Rep.sz α ≤ cs.length) :
    ∃ m1, builtin? E (m.wl m.n) .clear [T] [.slice (some ⟨b, o, none⟩) n n] = some (.tuple #[], m1) ∧ m1.n = m.n ∧ m1.low = b ∧ (∀ c, c ≠ b → m1.get c = m.get c) ∧
      m1.get b = .cells (cs.take o ++ (zeros z n ++ cs.drop (o + n * Rep.sz α))) te g := by
  obtain ⟨ti, ei, t1, t2, t3, t4, t5, t6⟩ := hT
  obtain ⟨v, hv, rfl⟩ := hz
  have hbn := M.lt_of_get h
  have hzn : ∀ k, (zeros (cells v) k).length = k * Rep.sz α ∧ (zeros (cells v) k).all one = true := by
    intro k
    induction k with
    | zero => simp [zeros]
    | succ k ih => simp only [zeros, List.length_append, List.all_append, hzl, hz1, ih, Nat.add_mul, Nat.one_mul, Bool.and_self, and_true]; omega
  have hb : Nat.beq n 0 = false := by
    cases hq : Nat.beq n 0 with
    | false => rfl
    | true => have := Nat.eq_of_beq_eq_true hq; omega
  have hst := storeCells_of (m := m.wl m.n) (o := o) h (vs := zeros (cells v) n) (by rw [(hzn n).1]; exact hl) (hzn n).2
  rw [(hzn n).1] at hst
  refine ⟨(m.wl m.n).set b (.cells (cs.take o ++ (zeros (cells v) n ++ cs.drop (o + n * Rep.sz α))) te g), ?_, rfl, show min m.n b = b by omega, fun c hc => M.get_set_ne (m := m.wl m.n) hc, M.get_set_same (m := m.wl m.n) hbn⟩
  simp only [builtin?, clear?, t1, t2, hb, cond_false, hv, hst, Option.map_some]
/-- append to an empty slice of one's own: a copy. -/
theorem append_copy (hT : ApT E T α) {ys : List α} {y : Value} {b : Nat} {te : TypeId} (h : m.get b = .cells [] te none) (hy : Sl m ys y) (hne : ys ≠ []) (hs : ys.length ≤ 1000000) :
    ∃ v' m1, builtin? E (m.wl m.n) .append [T, T] [.slice (some ⟨b, 0, none⟩) 0 0, y] = some (v', m1) ∧ Ow m.n m1 ys v' ∧ Ext m m1 ∧ m1.low = m.n := by
  obtain ⟨ti, ei, t1, t2, t3, t4, t5, t6⟩ := hT
  obtain ⟨news, e1, e2, e3, e4, e5⟩ := hy.first
  have hpos := Rep.pos (α := α)
  have hylen : 0 < ys.length := List.length_pos_iff.2 hne
  have hc : (Nat.beq ti.es 0 || Nat.blt 65536 ei.bytes || !news.all D.one || Nat.blt 268435456 (0 + ys.length) || !Nat.beq news.length (ys.length * ti.es) || !zeroLen ei.zero ti.es) = false := by
    have c1 : Nat.beq ti.es 0 = false := by
      cases hb : Nat.beq ti.es 0 with
      | false => rfl
      | true => have := Nat.eq_of_beq_eq_true hb; omega
    have c2 : Nat.blt 65536 ei.bytes = false := by
      cases hb : Nat.blt 65536 ei.bytes with
      | false => rfl
      | true => rw [Nat.blt_eq] at hb; omega
    have c3 : Nat.blt 268435456 (0 + ys.length) = false := by
      cases hb : Nat.blt 268435456 (0 + ys.length) with
      | false => rfl
      | true => rw [Nat.blt_eq] at hb; omega
    have c4 : Nat.beq news.length (ys.length * ti.es) = true := by rw [e3, t3]; exact Nat.beq_refl _
    rw [c1, c2, c3, c4, e4, t3, t6]; rfl
  have hfirst : first? (m.wl m.n) ti.es ys.length y = some news := by rw [first?_wl, t3]; exact e2
  have hble : Nat.ble (0 + ys.length) 0 = false := by
    cases hb : Nat.ble (0 + ys.length) 0 with
    | false => rfl
    | true => have := Nat.le_of_ble_eq_true hb; omega
  have hg : (m.wl m.n).get b = .cells [] te none := h
  refine ⟨.slice (some ⟨m.n, 0, none⟩) ys.length ys.length, (m.wl m.n).push (.cells news (Rep.ty α) (some (Rep.sz α))), ?_, ?_, ⟨Nat.le_succ _, fun c hc => by rw [M.get_push_lt (m := m.wl m.n) hc]; rfl⟩, rfl⟩
  · simp only [builtin?, append?, t1, e1, t2, t4, hfirst, hc, hble, cond_false, grow?, hg]
    have e0 : (bif Nat.beq 0 0 then some [] else loadCells (m.wl m.n) ⟨b, 0, none⟩ (0 * ti.es)) = some ([] : List Value) := rfl
    have e1 : ((none : Option Nat).isNone || ((none : Option Nat) == some ti.es && Nat.blt (0 + 0 * ti.es) ([] : List Value).length)) = true := rfl
    simp only [e0, e1, cond_true, Nat.zero_add, List.nil_append, t3]
    rfl
  · exact .inr ⟨m.n, news, rfl, hylen, Nat.le_refl _, M.get_push_new (m := m.wl m.n), e3, fun i x hi => Rep.keepE (e5 i x hi) ⟨Nat.le_succ _, fun c hc => by rw [M.get_push_lt (m := m.wl m.n) hc]; rfl⟩⟩
end
end Go.D

/- The program logic over D, its ninth part: a formula in which ways that part meet again ('vcJ'). -/
namespace Go.D
open Go

noncomputable section
/-- The temporaries that an operand, an operation, a statement reads. -/
def readsO (xs : List Operand) : List Nat := xs.filterMap fun | .tmp t => some t | _ => none
def reads : Code → List Nat
  | .region _ ops _ => ops.toList.flatMap fun o => readsO o.op.operands.toList
  | .seq a b => reads a ++ reads b
  | .cond c x y => readsO [c] ++ (reads x ++ reads y)
  | .block _ c | .loop c | .scope c => reads c
  | .rangeFunc f _ a b => readsO [f] ++ (reads a ++ reads b)
  | _ => []
/-- Do ways part in it and meet behind it? -/
def parts : Code → Bool
  | .region _ ops _ => ops.toList.any fun o => o.guard.isSome
  | _ => false
def dedup : List Nat → List Nat → List Nat
  | [], acc => acc
  | t :: ts, acc => bif acc.contains t then dedup ts acc else dedup ts (acc ++ [t])
def liveOf (a : Code) (rd : List Nat) : List Nat := (dedup (assigned a) []).filter rd.contains
/-- Ways meet. -/
def jn (G : (List Value → M → Nat → Prop) → Prop) (k : List Value → M → Nat → Prop) : Prop := G k
variable (E : Env) (X : CallFn)
def vcJ : Code → List Nat → St → (Ex → St → Prop) → Prop
  | .skip, _, s, Q => Q .normal s
  | .label _, _, s, Q => Q .normal s
  | .region _ ops d, _, s, Q => vops E X d ops ops.toList 0 s (Q .normal)
  | .seq a b, rd, s, Q =>
    bif parts a then
      jn (fun R => vcJ a (reads b ++ rd) s fun e s' => e.onN (onS (valsOf s'.K (liveOf a (reads b ++ rd))) fun vs => R vs s'.m s'.lo) (Q e s'))
        (fun vs m lo => bindL (liveOf a (reads b ++ rd)) vs (forget s.K (assigned a)) fun K => vcJ b rd ⟨K, m, lo⟩ Q)
    else vcJ a (reads b ++ rd) s fun e s => e.onN (vcJ b rd s Q) (Q e s)
  | .cond c x y, rd, s, Q => onS (evK s.K c) fun v => ifV v (vcJ x rd s Q) (vcJ y rd s Q)
  | .block id c, rd, s, Q => vcJ c rd s fun e s => Q (e.catch id) s
  | .exit id, _, s, Q => Q (.exit id) s
  | .ret, _, s, Q => Q .ret s
  | .loop c, rd, s, Q =>
    onS (valsOf s.K (carried s.K (assigned c) [])) fun vs => Lp (fun P vs m lo => bindL (carried s.K (assigned c) []) vs (forget s.K (assigned c)) fun K => vcJ c (carried s.K (assigned c) [] ++ rd) ⟨K, m, lo⟩ fun e s' =>
      e.onN (onS (valsOf s'.K (carried s.K (assigned c) [])) fun vs => P vs s'.m s'.lo) (Q e s')) vs s.m s.lo
  | c, _, s, Q => V E X c s Q
end
section
variable {E : Env} {X : CallFn}
theorem jn_of {G : (List Value → M → Nat → Prop) → Prop} {k : List Value → M → Nat → Prop} (P : List Value → M → Nat → Prop) (hG : ∀ R : List Value → M → Nat → Prop, (∀ vs m lo, P vs m lo → R vs m lo) → G R) (hk : ∀ vs m lo, P vs m lo → k vs m lo) : jn G k := hG k hk
/-- What a statement leaves known, besides. -/
theorem vcJ_sound : ∀ (c : Code) (rd : List Nat) (s : St) (Q : Ex → St → Prop), vcJ E X c rd s Q → V E X c s Q
  | .skip, _, s, Q, h => fun T hk hlo => ⟨_, s, T, h, hk, Nat.le_refl _, hlo, 0, fun n _ => rfl⟩
  | .label _, _, s, Q, h => fun T hk hlo => ⟨_, s, T, h, hk, Nat.le_refl _, hlo, 0, fun n _ => rfl⟩
  | .exit id, _, s, Q, h => fun T hk hlo => ⟨_, s, T, h, hk, Nat.le_refl _, hlo, 0, fun n _ => rfl⟩
  | .ret, _, s, Q, h => fun T hk hlo => ⟨_, s, T, h, hk, Nat.le_refl _, hlo, 0, fun n _ => rfl⟩
  | .region id ops d, _, s, Q, h => fun T hk hlo => by
    obtain ⟨s', T', hP, hk', hn, hlo', n0, hr⟩ := vops_sound ops.toList 0 s _ h T hk hlo
    exact ⟨_, s', T', hP, hk', hn, hlo', n0, fun n hn => by simp only [exec?, hr n hn, Option.map_some]⟩
  | .seq a b, rd, s, Q, h => by
    unfold vcJ at h
    cases hp : parts a with
    | false =>
      rw [hp, cond_false] at h
      exact V.seq ((vcJ_sound a _ s _ h).mono fun e s' hq => by
        cases e with
        | normal => exact vcJ_sound b rd s' Q hq
        | exit id => exact hq
        | ret => exact hq)
    | true =>
      rw [hp, cond_true] at h
      have ha := vcJ_sound a _ s _ h
      intro T hk hlo
      obtain ⟨e, s1, T1, h1, hk1, hn1, hlo1, n1, hr1⟩ := ha T hk hlo
      cases e with
      | normal =>
        obtain ⟨vs, hvs, h1⟩ := onS_iff.1 h1
        have hkf : Kn (forget s.K (assigned a)) T1 := by
          intro t k ht
          have := exec?_other a _ _ _ (hr1 n1 (Nat.le_refl _)) (forget_get _ _ ht).1
          dsimp only at this
          rw [this]
          exact hk t k (forget_get _ _ ht).2
        obtain ⟨K', hk', hvc⟩ := bindL_elim _ _ _ _ hkf (valsOf_TV hk1 _ _ hvs) h1
        obtain ⟨e, s2, T2, h2, hk2, hn2, hlo2, n2, hr2⟩ := vcJ_sound b rd _ Q hvc T1 hk' hlo1
        exact ⟨e, s2, T2, h2, hk2, Nat.le_trans hn1 hn2, hlo2, max n1 n2, fun n hn => by simp only [exec?, hr1 n (by omega), hr2 n (by omega)]⟩
      | exit id => exact ⟨_, s1, T1, h1, hk1, hn1, hlo1, n1, fun n hn => by simp only [exec?, hr1 n hn]⟩
      | ret => exact ⟨_, s1, T1, h1, hk1, hn1, hlo1, n1, fun n hn => by simp only [exec?, hr1 n hn]⟩
  | .cond c x y, rd, s, Q, h => fun T hk hlo => by
    obtain ⟨_, hb, h⟩ := onS_iff.1 h
    obtain ⟨b, rfl, h⟩ := ifV_iff.1 h
    cases b with
    | true =>
      obtain ⟨e, s', T', hP, hk', hn, hlo', n0, hr⟩ := vcJ_sound x rd s Q h T hk hlo
      exact ⟨e, s', T', hP, hk', hn, hlo', n0, fun n hn => by simp only [exec?, evK_sound hk hb, hr n hn, cond_true]⟩
    | false =>
      obtain ⟨e, s', T', hP, hk', hn, hlo', n0, hr⟩ := vcJ_sound y rd s Q h T hk hlo
      exact ⟨e, s', T', hP, hk', hn, hlo', n0, fun n hn => by simp only [exec?, evK_sound hk hb, hr n hn, cond_false]⟩
  | .block id c, rd, s, Q, h => fun T hk hlo => by
    obtain ⟨e, s', T', hP, hk', hn, hlo', n0, hr⟩ := vcJ_sound c rd s _ h T hk hlo
    refine ⟨_, s', T', hP, hk', hn, hlo', n0, fun n hn => ?_⟩
    have e1 := hr n hn
    cases e with
    | normal => simp only [exec?, e1, Ex.catch]
    | ret => simp only [exec?, e1, Ex.catch]
    | exit id' => simp only [exec?, e1, Ex.catch]; cases Nat.beq id' id <;> rfl
  | .loop c, rd, s, Q, h => by
    unfold vcJ at h
    obtain ⟨vs0, hv0, γ, μ, I, ⟨g0, hg0⟩, hI⟩ := onS_iff.1 h
    refine V.loopG μ (fun g T m lo => ∃ vs, I g vs m lo ∧ TV T (carried s.K (assigned c) []) vs ∧ Kn (forget s.K (assigned c)) T) g0 (fun T hk => ⟨vs0, hg0, valsOf_TV hk _ _ hv0, fun t k ht => hk t k (forget_get _ _ ht).2⟩) ?_
    rintro g T m lo ⟨vs, hIv, htv, hkf⟩ hlo
    obtain ⟨K', hk', hvc⟩ := bindL_elim _ _ _ _ hkf htv (hI g vs m lo hIv)
    obtain ⟨e, s', T', hQ, hk2, hn, hlo', n0, hr⟩ := vcJ_sound c _ _ _ hvc T hk' hlo
    refine ⟨e, s', T', ?_, hk2, hn, hlo', n0, hr⟩
    cases e with
    | normal =>
      obtain ⟨vs', hvs', g', hlt, hI'⟩ := onS_iff.1 hQ
      refine ⟨g', hlt, vs', hI', valsOf_TV hk2 _ _ hvs', ?_⟩
      intro t k ht
      have := exec?_other c _ _ _ (hr n0 (Nat.le_refl _)) (forget_get _ _ ht).1
      dsimp only at this
      rw [this]
      exact hkf t k ht
    | exit id => exact hQ
    | ret => exact hQ
  | .rangeFunc f ps a b, _, s, Q, h => h
  | .scope c, _, s, Q, h => h
  | .goto l, _, s, Q, h => h
  | .refuse y, _, s, Q, h => h
def resTs (rs : List ResultVar) : List Nat := rs.map fun | .tmp t => t | .cell a _ => a
/-- The formula of a function, with ways that meet. -/
def vcFJ (E : Env) (X : CallFn) (fn : Func) (args : List Value) (m : M) (R : List Value → M → Nat → Prop) : Prop :=
  match fn.body with
  | some body => vcJ E X body (resTs fn.results.toList) ⟨enterK args 0, m, m.n⟩ (post E fn.results.toList R)
  | none => False
theorem Cl.bodyJ {f : Nat} {fn : Func} {args : List Value} {m : M} {R : List Value → M → Nat → Prop} (hX : Xno X f) (hf : E.fn.get f = some fn) (hl : Nat.ble args.length fn.ntmps = true)
    (h : vcFJ E X fn args m R) :
    ∃ vs m' lo, R vs m' lo ∧ m.n ≤ m'.n ∧ ∃ n0, ∀ n, n0 ≤ n → ∀ l, l ≤ m.n →
      call? E X n (.func f) args (m.wl l) = some (bif flat2 (mkres vs) && Nat.ble m.n lo then (mkres vs, m.wl l) else (mkres vs, m'.wl (min l lo))) := by
  unfold vcFJ at h
  split at h
  · rename_i body hb
    obtain ⟨e, s', T', hpost, hk', hn, hlo', n0, hr⟩ := vcJ_sound _ _ _ _ h (enter args 0) (enterK_kn _ _) (Nat.le_refl _)
    have hend : (∀ id, e ≠ .exit id) ∧ resK E s'.K s'.m fn.results.toList fun vs => R vs s'.m s'.lo := by
      cases e with
      | exit id => exact hpost.elim
      | normal => exact ⟨fun _ h => (by cases h), hpost⟩
      | ret => exact ⟨fun _ h => (by cases h), hpost⟩
    obtain ⟨hne, hres⟩ := hend
    obtain ⟨vs, hR, hres⟩ := resK_sound hk' hres
    refine ⟨vs, s'.m, s'.lo, hR, hn, n0 + 1, fun n hn' l hl' => ?_⟩
    obtain ⟨n, rfl⟩ : ∃ k, n = k + 1 := ⟨n - 1, by omega⟩
    have e1' : exec? E (call? E X n) n body { T := enter args 0, m := { m.wl l with low := (m.wl l).n } } = some (e, ⟨T', s'.m.wl s'.lo⟩) := hr n (by omega)
    have hr2 := result?_of (fn := fn) (hres s'.lo)
    have hX' : X (.func f) args (m.wl l) = none := hX _ _
    have fin : (bif flat2 (mkres vs) && Nat.ble (m.wl l).n (s'.m.wl s'.lo).low then some (mkres vs, m.wl l) else some (mkres vs, { s'.m.wl s'.lo with low := min (m.wl l).low (s'.m.wl s'.lo).low })) =
        some (bif flat2 (mkres vs) && Nat.ble m.n s'.lo then (mkres vs, m.wl l) else (mkres vs, s'.m.wl (min l s'.lo))) := by
      cases hc : (flat2 (mkres vs) && Nat.ble m.n s'.lo) with
      | true =>
        have : (flat2 (mkres vs) && Nat.ble (m.wl l).n (s'.m.wl s'.lo).low) = true := hc
        rw [this]; rfl
      | false =>
        have : (flat2 (mkres vs) && Nat.ble (m.wl l).n (s'.m.wl s'.lo).low) = false := hc
        rw [this]; rfl
    cases e with
    | exit id => exact (hne id rfl).elim
    | normal =>
      simp only [call?, hX', hf, hb, hl, cond_true, e1', hr2]
      exact fin
    | ret =>
      simp only [call?, hX', hf, hb, hl, cond_true, e1', hr2]
      exact fin
  · exact h.elim
theorem Cl.flatJ {f : Nat} {fn : Func} {args : List Value} {m : M} {v : Value} (hX : Xno X f) (hf : E.fn.get f = some fn) (hl : Nat.ble args.length fn.ntmps = true) (hv : flat2 v = true)
    (h : vcFJ E X fn args m fun vs m' lo => mkres vs = v ∧ m.n ≤ lo) : Cl E X (.func f) args m m.n v m := by
  obtain ⟨vs, s, lo, ⟨rfl, hlo⟩, _, hr⟩ := Cl.bodyJ hX hf hl h
  exact .of_flat hv hlo hr
theorem Cl.genJ {f : Nat} {fn : Func} {args : List Value} {m : M} {R : Value → M → Nat → Prop} (hX : Xno X f) (hf : E.fn.get f = some fn) (hl : Nat.ble args.length fn.ntmps = true)
    (h : vcFJ E X fn args m fun vs m' lo => (flat2 (mkres vs) = true ∧ m.n ≤ lo ∧ R (mkres vs) m m.n) ∨ ((flat2 (mkres vs) = false ∨ lo < m.n) ∧ R (mkres vs) m' (min m.n lo))) :
    ∃ v m' b, Cl E X (.func f) args m b v m' ∧ R v m' b := by
  obtain ⟨vs, s, lo, h, hn, hr⟩ := Cl.bodyJ hX hf hl h
  rcases h with ⟨hv, hlo, hR⟩ | ⟨hv, hR⟩
  · exact ⟨_, _, _, .of_flat hv hlo hr, hR⟩
  · exact ⟨_, _, _, .of_body hn hv hr, hR⟩
end
end Go.D
