/- '==' of values. Operations on values alone. Operations on values alone: arithmetic, comparisons, conversions, fields, elements. Operations that make memory: variables, literals, make. Slices: literals, make, slice expressions, len, min, max. Slice expressions, len, cap, min, max, extract. append, copy, clear. -/
import Derived.Test.YtjecgmfildhpiaaGreatDoorG0J
import Derived.ChangeKeysEq
import Derived.Laws.Append
import Derived.Laws.AppendOwn
/- '==' of values. -/
namespace Go.D
open Go

section
variable {E : Env} {P : Program} {w : World}

theorem eqCells_length : ∀ {ks : List Kd} {xs ys : List Value} {b : Bool}, eqCells ks xs ys = some b → xs.length = ks.length ∧ ys.length = ks.length
  | [], [], [], _, _ => ⟨rfl, rfl⟩
  | [], [], _ :: _, _, h => by simp [eqCells] at h
  | [], _ :: _, _, _, h => by simp [eqCells] at h
  | _ :: _, [], _, _, h => by simp [eqCells] at h
  | _ :: _, _ :: _, [], _, h => by simp [eqCells] at h
  | k :: ks, a :: x, c :: y, b, h => by
    unfold eqCells at h
    split at h
    · rename_i h1
      obtain ⟨e1, e2⟩ := eqCells_length h1
      simp [e1, e2]
    · cases h
theorem eqCells_append : ∀ {k1 k2 : List Kd} {xs ys : List Value} {b : Bool}, eqCells (k1 ++ k2) xs ys = some b →
    ∃ b1 b2, eqCells k1 (xs.take k1.length) (ys.take k1.length) = some b1 ∧ eqCells k2 (xs.drop k1.length) (ys.drop k1.length) = some b2 ∧ b = (b1 && b2)
  | [], _, _, _, b, h => ⟨true, b, by simp [eqCells], by simpa using h, by simp⟩
  | k :: k1, k2, [], _, _, h => by simp [eqCells] at h
  | k :: k1, k2, _ :: _, [], _, h => by simp [eqCells] at h
  | k :: k1, k2, a :: x, c :: y, b, h => by
    simp only [List.cons_append, eqCells] at h
    split at h
    · rename_i b0 r h0 h1
      obtain ⟨c1, c2, e1, e2, e3⟩ := eqCells_append h1
      simp only [Option.some.injEq] at h
      exact ⟨b0 && c1, c2, by simp [eqCells, h0, e1], by simpa using e2, by rw [← h, e3, Bool.and_assoc]⟩
    · cases h

/-- A value of type t from its cells. -/
def valOf (u : TypeDesc) (cs : List Value) : Value :=
  match u with
  | .struct _ | .array _ _ => .agg cs.toArray
  | _ => cs.headD undef

/-- A type that is no aggregate has one cell. -/
def OneIf : TypeDesc → Nat → Prop
  | .struct _, _ => True
  | .array _ _, _ => True
  | _, n => n = 1
theorem copies_length (ks : List Kd) : ∀ n : Nat, (copies ks n).length = n * ks.length
  | 0 => by simp [copies]
  | n + 1 => by unfold copies; rw [List.length_append, copies_length ks n, Nat.add_mul]; omega
theorem run_part {t : TypeId} {i : TypeInfo} {u : TypeDesc} (hi : P.info? t = some i) (hu : P.underlying t = some u) (cs : List Value) (off : Nat) (h : off + i.size ≤ cs.length)
    (h1 : OneIf u i.size) : (Go.part t cs.toArray off).run P w = .ok (valOf u ((cs.drop off).take i.size)) w := by
  have hext : cs.toArray.extract off (off + i.size) = ((cs.drop off).take i.size).toArray := by
    apply Array.ext'
    rw [Array.toList_extract, List.extract_eq_take_drop]
    congr 1
    omega
  have hag := mkTD_agg (P := P) u w t hu
  unfold Go.part
  rw [Sem.run_bind, hag, Result.andThen_ok]
  have basic : (mkTD P u).agg = false → i.size = 1 → valOf u ((cs.drop off).take i.size) = cs[off]?.getD undef →
      (if (mkTD P u).agg = true then do let n ← sizeOf t; pure (Value.agg (cs.toArray.extract off (off + n))) else match cs.toArray[off]? with | some v => pure v | none => stuck "part: no such cell" : Sem Value).run P w = .ok (valOf u ((cs.drop off).take i.size)) w := by
    intro ha hs hv
    have hlt : off < cs.length := by omega
    rw [hv, ha]
    simp [List.getElem?_eq_getElem hlt]
  have head : i.size = 1 → ((cs.drop off).take i.size).headD undef = cs[off]?.getD undef := by
    intro hs
    have hlt : off < cs.length := by omega
    rw [hs, List.drop_eq_getElem_cons hlt, List.getElem?_eq_getElem hlt]
    rfl
  cases u with
  | struct fs =>
    have : (mkTD P (.struct fs)).agg = true := rfl
    simp only [this, if_true, Sem.run_bind, run_sizeOf hi, Result.andThen_ok, Sem.run_pure, hext, valOf]
  | array n e =>
    have : (mkTD P (.array n e)).agg = true := rfl
    simp only [this, if_true, Sem.run_bind, run_sizeOf hi, Result.andThen_ok, Sem.run_pure, hext, valOf]
  | _ => exact basic rfl h1 (head h1)

theorem eqK_run {d : Nat} {t : TypeId} {k : Kd} {u : TypeDesc} (hu : P.underlying t = some u) (hk : (u = .bool ∧ k = .b) ∨ ((∃ q, u = .int q) ∧ k = .i) ∨ (u = .string ∧ k = .s)) {x y : Value} {b : Bool}
    (h : eqK k x y = some b) : (Op.equalIn (d + 1) t x y).run P w = .ok b w := by
  rcases hk with ⟨rfl, rfl⟩ | ⟨⟨q, rfl⟩, rfl⟩ | ⟨rfl, rfl⟩
  · cases x <;> cases y <;> simp [eqK] at h
    subst h
    simp [Op.equalIn, run_underlying hu]
  · cases x <;> cases y <;> simp [eqK] at h
    obtain ⟨rfl, rfl⟩ := h
    simp [Op.equalIn, run_underlying hu]
  · cases x <;> cases y <;> simp [eqK] at h
    subst h
    simp [Op.equalIn, run_underlying hu]

/-- 'kinds' have the length of the cells. -/
theorem sized_some {t : TypeId} {r : Option (List Kd)} {ks : List Kd} (h : sized P t r = some ks) : ∃ i, P.info? t = some i ∧ r = some ks ∧ ks.length = i.size := by
  unfold sized at h
  split at h
  · rename_i ks' i h1
    split at h
    · cases h; exact ⟨i, h1, rfl, by assumption⟩
    · cases h
  · cases h

theorem fields_run (d : Nat) (xs ys : List Value)
    (ih : ∀ (t : TypeId) (ks : List Kd) (u : TypeDesc) (x y : List Value) (b : Bool), cmpIn P d t = some ks → P.underlying t = some u → eqCells ks x y = some b → ∀ K, d ≤ K → (Op.equalIn K t (valOf u x) (valOf u y)).run P w = .ok b w)
    (K : Nat) (hK : d ≤ K) : ∀ (fs : List Field) (off : Nat) (ks : List Kd) (b : Bool), kinds (cmpIn P d) fs off = some ks → eqCells ks (xs.drop off) (ys.drop off) = some b →
      off + ks.length = xs.length → off + ks.length = ys.length → (Op.eqFields K xs.toArray ys.toArray fs).run P w = .ok b w
  | [], off, ks, b, h, he, _, _ => by
    simp only [kinds, Option.some.injEq] at h
    subst h
    have := (eqCells_length he)
    have e1 : xs.drop off = [] := List.eq_nil_of_length_eq_zero (by simpa using this.1)
    have e2 : ys.drop off = [] := List.eq_nil_of_length_eq_zero (by simpa using this.2)
    rw [e1, e2] at he
    simp only [eqCells, Option.some.injEq] at he
    subst he
    simp [Op.eqFields]
  | f :: fs, off, ks, b, h, he, hx, hy => by
    unfold kinds at h
    by_cases hn : f.name = "_"
    · rw [if_pos hn] at h; cases h
    · rw [if_neg hn] at h
      by_cases ho : f.offset = off
      · rw [if_pos ho] at h
        split at h
        · rename_i k1 hk1
          split at h
          · rename_i r hr
            cases h
            obtain ⟨b1, b2, e1, e2, rfl⟩ := eqCells_append he
            cases d with
            | zero => simp [cmpIn] at hk1
            | succ d =>
              have hk1' := hk1
              unfold cmpIn at hk1
              obtain ⟨i, hi, hr0, hlen⟩ := sized_some hk1
              cases hu : P.underlying f.type with
              | none => rw [hu] at hr0; simp at hr0
              | some u =>
                simp only [List.length_append] at hx hy
                have h1 : OneIf u i.size := by
                  rw [hu] at hr0
                  cases u <;> simp at hr0 <;> first | trivial | (subst hr0; exact hlen.symm)
                have p1 := run_part (w := w) hi hu xs f.offset (by omega) h1
                have p2 := run_part (w := w) hi hu ys f.offset (by omega) h1
                have q := ih f.type k1 u _ _ b1 hk1' hu (by rw [hlen] at e1; exact e1) K hK
                simp only [List.drop_drop] at e2
                unfold Op.eqFields
                rw [if_pos hn]
                simp only [Sem.run_bind, p1, p2, Result.andThen_ok]
                rw [ho, q]
                have rest := fields_run (d + 1) xs ys ih K hK fs (off + k1.length) r b2 hr e2 (by omega) (by omega)
                cases b1
                · simp
                · simp [rest]
          · cases h
        · cases h
      · rw [if_neg ho] at h; cases h

theorem items_run (d : Nat) (xs ys : List Value) (e : TypeId) (i : TypeInfo) (hi : P.info? e = some i) (u : TypeDesc) (hu : P.underlying e = some u) (k1 : List Kd) (hk1 : cmpIn P d e = some k1) (hl : k1.length = i.size)
    (h1 : OneIf u i.size)
    (ih : ∀ (t : TypeId) (ks : List Kd) (u : TypeDesc) (x y : List Value) (b : Bool), cmpIn P d t = some ks → P.underlying t = some u → eqCells ks x y = some b → ∀ K, d ≤ K → (Op.equalIn K t (valOf u x) (valOf u y)).run P w = .ok b w)
    (K : Nat) (hK : d ≤ K) : ∀ (n j : Nat) (b : Bool), eqCells (copies k1 n) (xs.drop (j * i.size)) (ys.drop (j * i.size)) = some b →
      (j + n) * i.size = xs.length → (j + n) * i.size = ys.length → (Op.eqItems K e i.size xs.toArray ys.toArray (List.range' j n)).run P w = .ok b w
  | 0, j, b, he, hx, hy => by
    simp only [Nat.add_zero] at hx hy
    rw [hx, List.drop_length, ← hx, hy, List.drop_length] at he
    simp only [copies, eqCells, Option.some.injEq] at he
    subst he
    simp [Op.eqItems]
  | n + 1, j, b, he, hx, hy => by
    unfold copies at he
    obtain ⟨b1, b2, e1, e2, rfl⟩ := eqCells_append he
    have hmul : (j + (n + 1)) * i.size = j * i.size + i.size + n * i.size := by
      rw [Nat.add_mul, Nat.add_mul, Nat.one_mul]; omega
    have p1 := run_part (w := w) hi hu xs (j * i.size) (by omega) h1
    have p2 := run_part (w := w) hi hu ys (j * i.size) (by omega) h1
    have q := ih e k1 u _ _ b1 hk1 hu (by rw [hl] at e1; exact e1) K hK
    rw [List.drop_drop, List.drop_drop, hl] at e2
    have hj : j * i.size + i.size = (j + 1) * i.size := by rw [Nat.add_mul, Nat.one_mul]
    rw [hj] at e2
    have rest := items_run d xs ys e i hi u hu k1 hk1 hl h1 ih K hK n (j + 1) b2 e2 (by rw [← hx]; congr 1; omega) (by rw [← hy]; congr 1; omega)
    rw [List.range'_succ]
    unfold Op.eqItems
    simp only [Sem.run_bind, p1, p2, Result.andThen_ok, q]
    cases b1
    · simp
    · simp [rest]

theorem cmp_run : ∀ (d : Nat) (t : TypeId) (ks : List Kd) (u : TypeDesc) (xs ys : List Value) (b : Bool), cmpIn P d t = some ks → P.underlying t = some u → eqCells ks xs ys = some b →
    ∀ K, d ≤ K → (Op.equalIn K t (valOf u xs) (valOf u ys)).run P w = .ok b w
  | 0, _, _, _, _, _, _, h, _, _, _, _ => by simp [cmpIn] at h
  | d + 1, t, ks, u, xs, ys, b, h, hu, he, K, hK => by
    obtain ⟨K, rfl⟩ : ∃ K', K = K' + 1 := ⟨K - 1, by omega⟩
    unfold cmpIn at h
    obtain ⟨i, hi, hr, hlen⟩ := sized_some h
    rw [hu] at hr
    have one : ∀ k, ks = [k] → ∃ x y, xs = [x] ∧ ys = [y] ∧ eqK k x y = some b := by
      intro k hk
      subst hk
      have := eqCells_length he
      match xs, ys, this, he with
      | [x], [y], _, he =>
        refine ⟨x, y, rfl, rfl, ?_⟩
        simp only [eqCells] at he
        split at he
        · rename_i c r h1 h2
          simp only [Option.some.injEq] at h2 he
          subst h2; subst he
          simpa using h1
        · cases he
    cases u with
    | bool =>
      simp only [Option.some.injEq] at hr
      obtain ⟨x, y, rfl, rfl, hk⟩ := one _ hr.symm
      exact eqK_run hu (.inl ⟨rfl, rfl⟩) hk
    | int q =>
      simp only [Option.some.injEq] at hr
      obtain ⟨x, y, rfl, rfl, hk⟩ := one _ hr.symm
      exact eqK_run hu (.inr (.inl ⟨⟨q, rfl⟩, rfl⟩)) hk
    | string =>
      simp only [Option.some.injEq] at hr
      obtain ⟨x, y, rfl, rfl, hk⟩ := one _ hr.symm
      exact eqK_run hu (.inr (.inr ⟨rfl, rfl⟩)) hk
    | struct fs =>
      simp only at hr
      by_cases hst : P.stoodInHeld t = true
      · rw [if_pos hst] at hr; cases hr
      · rw [if_neg hst] at hr
        have hfo : P.fieldsOf t = fs := by unfold Program.fieldsOf; rw [hu]
        have hln := eqCells_length he
        have := run_equalIn_struct (P := P) w K t xs.toArray ys.toArray (by rw [hfo]; exact hu) (by simpa using hst)
        rw [hfo] at this
        show (Op.equalIn (K + 1) t (.agg xs.toArray) (.agg ys.toArray)).run P w = _
        rw [this]
        exact fields_run d xs ys (fun t ks u x y b => cmp_run d t ks u x y b) K (by omega) fs.toList 0 ks b hr (by simpa using he) (by omega) (by omega)
    | array n e =>
      simp only at hr
      split at hr
      · rename_i k1 hk1
        by_cases hn : n * k1.length ≤ 64
        · rw [if_pos hn] at hr
          cases hr
          have hln := eqCells_length he
          cases d with
          | zero => simp [cmpIn] at hk1
          | succ d =>
            have hk1' := hk1
            unfold cmpIn at hk1
            obtain ⟨ie, hie, hr0, hlen1⟩ := sized_some hk1
            cases hue : P.underlying e with
            | none => rw [hue] at hr0; simp at hr0
            | some ue =>
              have h1 : OneIf ue ie.size := by
                rw [hue] at hr0
                cases ue <;> simp at hr0 <;> first | trivial | (subst hr0; exact hlen1.symm)
              have hcl : (copies k1 n).length = n * ie.size := by rw [← hlen1]; exact copies_length k1 n
              have hco : P.cellsOf e = ie.size := by unfold Program.cellsOf; rw [hie]; rfl
              have := run_equalIn_array (P := P) w K xs.toArray ys.toArray hu hie
              rw [hco] at this
              show (Op.equalIn (K + 1) t (.agg xs.toArray) (.agg ys.toArray)).run P w = _
              rw [this, List.range_eq_range']
              exact items_run (d + 1) xs ys e ie hie ue hue k1 hk1' hlen1 h1 (fun t ks u x y b => cmp_run (d + 1) t ks u x y b) K (by omega) n 0 b (by simpa using he) (by simp; omega) (by simp; omega)
        · rw [if_neg hn] at hr; cases hr
      · cases hr
    | _ => simp at hr
end
end Go.D

/- Operations on values alone. -/
namespace Go.D
open Go

section
variable {E : Env} {P : Program} {σ : Sg} {m m' : M} {w : World}

theorem VRel.int {k : IntKind} {n : Int} {v' : Value} (h : VRel σ (.int k n) v') : v' = .int k n := h.eq_of_flat0 rfl
theorem VRel.bool {b : Bool} {v' : Value} (h : VRel σ (.bool b) v') : v' = .bool b := h.eq_of_flat0 rfl
theorem VRel.string {s : ByteArray} {v' : Value} (h : VRel σ (.string s) v') : v' = .string s := h.eq_of_flat0 rfl
theorem VRel.ptr_inv {a : Addr} {v' : Value} (h : VRel σ (.pointer (some a)) v') : ∃ i, σ a.block = some i ∧ a.spot = none ∧ v' = .pointer (some ⟨i.blk, a.off, none⟩) := by
  cases h with
  | flat _ h => simp [flat0] at h
  | ptr _ i h hs => exact ⟨i, h, hs, rfl⟩
theorem VRel.slice_inv {a : Addr} {n c : Nat} {v' : Value} (h : VRel σ (.slice (some a) n c) v') : ∃ (i : BI) (a' : Addr) (c' : Nat), σ a.block = some i ∧ v' = .slice (some a') n c' ∧
    ((a.spot = none ∧ a' = ⟨i.blk, a.off, none⟩ ∧ ((i.gr = none ∧ c' = c) ∨ ∃ k sz N, i.gr = some (k, sz, N) ∧ (c' = c ∨ (c ≤ c' ∧ a.off + c * k = sz ∧ a.off + c' * k = N)))) ∨ (n = 0 ∧ c = 0 ∧ ∃ k sz N, i.gr = some (k, sz, N) ∧ a.off = sz)) := by
  cases h with
  | flat _ h => simp [flat0] at h
  | slice _ i _ _ h hs hg => exact ⟨i, _, _, h, rfl, .inl ⟨hs, rfl, .inl ⟨hg, rfl⟩⟩⟩
  | sliceG _ i _ _ c' k sz N h hs hg hc => exact ⟨i, _, _, h, rfl, .inl ⟨hs, rfl, .inr ⟨k, sz, N, hg, hc⟩⟩⟩
  | empty _ a' i c' k sz N h hg ho => exact ⟨i, a', c', h, rfl, .inr ⟨rfl, rfl, k, sz, N, hg, ho⟩⟩
theorem VRel.slice_nil {n c : Nat} {v' : Value} (h : VRel σ (.slice none n c) v') : n = 0 ∧ c = 0 ∧ v' = .slice none 0 0 := by
  cases h with
  | flat _ h =>
    unfold flat0 at h
    split at h <;> simp_all
theorem VRel.map_inv {r : Nat} {v' : Value} (h : VRel σ (.map (some r)) v') : ∃ i, σ r = some i ∧ v' = .map (some i.blk) := by
  cases h with
  | flat _ h => simp [flat0] at h
  | map _ i h => exact ⟨i, h, rfl⟩
theorem VRel.slice_any {b : Option Addr} {n c : Nat} {v' : Value} (h : VRel σ (.slice b n c) v') : ∃ b' c', v' = .slice b' n c' ∧ b'.isNone = b.isNone := by
  cases b with
  | none => obtain ⟨rfl, rfl, rfl⟩ := h.slice_nil; exact ⟨_, _, rfl, rfl⟩
  | some a => obtain ⟨_, a', c', _, rfl, _⟩ := h.slice_inv; exact ⟨_, _, rfl, rfl⟩
theorem VRel.map_any {b : Option Nat} {v' : Value} (h : VRel σ (.map b) v') : ∃ b', v' = .map b' ∧ b'.isNone = b.isNone := by
  cases b with
  | none => exact ⟨_, h.eq_of_flat0 rfl, rfl⟩
  | some r =>
    cases h with
    | flat _ h => simp [flat0] at h
    | map _ i h => exact ⟨_, rfl, rfl⟩
theorem VRel.ptr_any {b : Option Addr} {v' : Value} (h : VRel σ (.pointer b) v') : ∃ b', v' = .pointer b' ∧ b'.isNone = b.isNone := by
  cases b with
  | none => exact ⟨_, h.eq_of_flat0 rfl, rfl⟩
  | some r => obtain ⟨_, _, _, rfl⟩ := h.ptr_inv; exact ⟨_, rfl, rfl⟩
theorem VRel.map_nil {v' : Value} (h : VRel σ (.map none) v') : v' = .map none := h.eq_of_flat0 rfl
theorem VRel.agg_inv {a : Array Value} {v' : Value} (h : VRel σ (.agg a) v') : ∃ a' : Array Value, v' = .agg a' ∧ LRel σ a.toList a'.toList := by
  cases h with
  | flat _ h => simp [flat0] at h
  | agg _ a' ha h1 => exact ⟨a', rfl, by simpa using ha, fun j u u' x y => h1 j u u' (by simpa using x) (by simpa using y)⟩
theorem VRel.tuple_inv {a : Array Value} {v' : Value} (h : VRel σ (.tuple a) v') : ∃ a' : Array Value, v' = .tuple a' ∧ LRel σ a.toList a'.toList := by
  cases h with
  | flat _ h => simp [flat0] at h
  | tuple _ a' ha h1 => exact ⟨a', rfl, by simpa using ha, fun j u u' x y => h1 j u u' (by simpa using x) (by simpa using y)⟩
theorem VRel.func_inv {f : FuncId} {a b : Array Value} {v' : Value} (h : VRel σ (.func (.func f) a b) v') : ∃ a' b' : Array Value, v' = .func (.func f) a' b' ∧ LRel σ a.toList a'.toList ∧ LRel σ b.toList b'.toList := by
  cases h with
  | flat _ h =>
    simp [flat0] at h
    obtain ⟨rfl, rfl⟩ := h
    exact ⟨_, _, rfl, LRel.nil, LRel.nil⟩
  | func _ _ _ a' b' ha hb h1 h2 =>
    exact ⟨a', b', rfl, ⟨by simpa using ha, fun j u u' x y => h1 j u u' (by simpa using x) (by simpa using y)⟩, ⟨by simpa using hb, fun j u u' x y => h2 j u u' (by simpa using x) (by simpa using y)⟩⟩

theorem eqK_flat {k : Kd} {x y x' y' : Value} {b : Bool} (h : eqK k x y = some b) (hx : VRel σ x x') (hy : VRel σ y y') : x' = x ∧ y' = y := by
  unfold eqK at h
  split at h
  · exact ⟨hx.bool, hy.bool⟩
  · exact ⟨hx.int, hy.int⟩
  · exact ⟨hx.string, hy.string⟩
  · cases h
theorem eqCells_flat : ∀ {ks : List Kd} {x y x' y' : List Value} {b : Bool}, eqCells ks x y = some b → LRel σ x x' → LRel σ y y' → x' = x ∧ y' = y
  | [], [], [], _, _, _, _, hx, hy => ⟨hx.nil_eq, hy.nil_eq⟩
  | [], [], _ :: _, _, _, _, h, _, _ => by simp [eqCells] at h
  | [], _ :: _, _, _, _, _, h, _, _ => by simp [eqCells] at h
  | _ :: _, [], _, _, _, _, h, _, _ => by simp [eqCells] at h
  | _ :: _, _ :: _, [], _, _, _, h, _, _ => by simp [eqCells] at h
  | k :: ks, a :: x, c :: y, x', y', b, h, hx, hy => by
    obtain ⟨a', x1, rfl, ha, hx1⟩ := hx.cases
    obtain ⟨c', y1, rfl, hc, hy1⟩ := hy.cases
    unfold eqCells at h
    split at h
    · rename_i h1 h2
      obtain ⟨q1, q2⟩ := eqK_flat h1 ha hc
      obtain ⟨q3, q4⟩ := eqCells_flat h2 hx1 hy1
      rw [q1, q2, q3, q4]
      exact ⟨rfl, rfl⟩
    · cases h

theorem eqIn_sound (hE : E.OK P) {t : TypeId} {x y x' y' : Value} {b : Bool} (h : eq? E t x y = some b) (hx : VRel σ x x') (hy : VRel σ y y') {d : Nat} (hd : 12 ≤ d + 1) :
    (Op.equalIn (d + 1) t x' y').run P w = .ok b w := by
  unfold eq? at h
  split at h
  · cases h
  · rename_i ti hti
    obtain ⟨inf, u, f⟩ := hE.tif hti
    rw [f.d] at h
    have aggs : ∀ (xs ys : Array Value) (ks : List Kd), x = .agg xs → y = .agg ys → ti.cmp = some ks → eqCells ks xs.toList ys.toList = some b → (∀ cs, valOf u cs = .agg cs.toArray) →
        (Op.equalIn (d + 1) t x' y').run P w = .ok b w := by
      intro xs ys ks e1 e2 hks he hv
      subst e1; subst e2
      obtain ⟨a', rfl, ha⟩ := hx.agg_inv
      obtain ⟨c', rfl, hc⟩ := hy.agg_inv
      obtain ⟨q1, q2⟩ := eqCells_flat he ha hc
      have hcm : cmpIn P 12 t = some ks := by
        rw [f.cmp] at hks
        unfold cmpOf at hks
        split at hks
        · split at hks
          · cases hks
          · exact hks
        · split at hks
          · cases hks
          · exact hks
        · cases hks
      have := cmp_run (w := w) 12 t ks u _ _ b hcm f.und he (d + 1) hd
      rw [hv, hv] at this
      rw [← q1, ← q2] at this
      simpa using this
    split at h
    · rename_i hd
      cases h
      rw [hx.bool, hy.bool]
      simp [Op.equalIn, run_underlying (f.und.trans (by rw [mkTD_bool hd]))]
    · rename_i hd
      split at h
      · rename_i hk; subst hk
        cases h
        rw [hx.int, hy.int]
        simp [Op.equalIn, run_underlying (f.und.trans (by rw [mkTD_int hd]))]
      · cases h
    · rename_i hd
      cases h
      rw [hx.string, hy.string]
      simp [Op.equalIn, run_underlying (f.und.trans (by rw [mkTD_str hd]))]
    · rename_i hd
      obtain ⟨gs, rfl, _⟩ := mkTD_struct hd
      split at h
      · rename_i ks hks
        exact aggs _ _ ks rfl rfl hks h (fun _ => rfl)
      · cases h
    · rename_i hd
      obtain rfl := mkTD_array hd
      split at h
      · rename_i ks hks
        exact aggs _ _ ks rfl rfl hks h (fun _ => rfl)
      · cases h
    · rename_i hd
      cases h
      obtain ⟨rfl, rfl, rfl⟩ := hx.slice_nil
      have hu := f.und.trans (by rw [mkTD_slice hd])
      obtain ⟨b', c', rfl, hb⟩ := hy.slice_any
      rw [← hb]
      simp [Op.equalIn, run_underlying hu]
    · rename_i hd
      cases h
      obtain ⟨rfl, rfl, rfl⟩ := hy.slice_nil
      obtain ⟨_, a', c', _, rfl, _⟩ := hx.slice_inv
      have hu := f.und.trans (by rw [mkTD_slice hd])
      simp [Op.equalIn, run_underlying hu]
    · rename_i hd
      cases h
      rw [hx.map_nil]
      have hu := f.und.trans (by rw [mkTD_map hd])
      obtain ⟨b', rfl, hb⟩ := hy.map_any
      rw [← hb]
      simp [Op.equalIn, run_underlying hu]
    · rename_i hd
      cases h
      rw [hy.map_nil]
      obtain ⟨_, _, rfl⟩ := hx.map_inv
      have hu := f.und.trans (by rw [mkTD_map hd])
      simp [Op.equalIn, run_underlying hu]
    · rename_i hd
      cases h
      obtain ⟨a, c, e, rfl⟩ := mkTD_func hd
      rw [hx.eq_of_flat0 rfl, hy.eq_of_flat0 rfl]
      simp [Op.equalIn, run_underlying f.und]
    · rename_i hd
      cases h
      obtain ⟨a, c, e, rfl⟩ := mkTD_func hd
      rw [hx.eq_of_flat0 rfl]
      cases hy <;> simp [Op.equalIn, run_underlying f.und]
    · rename_i hd
      cases h
      obtain ⟨a, c, e, rfl⟩ := mkTD_func hd
      rw [hy.eq_of_flat0 rfl]
      cases hx <;> simp [Op.equalIn, run_underlying f.und]
    · rename_i hd
      cases h
      have hu := f.und.trans (by rw [mkTD_ptr hd])
      rw [hx.eq_of_flat0 rfl]
      obtain ⟨b', rfl, hb⟩ := hy.ptr_any
      rw [← hb]
      simp [Op.equalIn, run_underlying hu]
    · rename_i hd
      cases h
      have hu := f.und.trans (by rw [mkTD_ptr hd])
      rw [hy.eq_of_flat0 rfl]
      obtain ⟨_, _, _, rfl⟩ := hx.ptr_inv
      simp [Op.equalIn, run_underlying hu]
    · rename_i hd
      cases h
      obtain ⟨ms, rfl, _⟩ := mkTD_iface hd
      rw [hx.eq_of_flat0 rfl, hy.eq_of_flat0 rfl]
      simp [Op.equalIn, run_underlying f.und]
    · cases h
theorem equal_sound (hE : E.OK P) {t : TypeId} {x y x' y' : Value} {b : Bool} (h : eq? E t x y = some b) (hx : VRel σ x x') (hy : VRel σ y y') : (Op.equal t x' y').run P w = .ok b w :=
  eqIn_sound hE h hx hy (d := 9999) (by omega)
/-- The guard ahead of '=='. -/
theorem guard_sound (hE : E.OK P) {t : TypeId} {x y x' y' : Value} {b : Bool} (h : eq? E t x y = some b) (hx : VRel σ x x') (hy : VRel σ y y') (op : BinOp) (xo yo : Operand) : (eqGuard op t xo yo x' y').run P w = .ok () w := by
  unfold eq? at h
  split at h
  · cases h
  · rename_i ti hti
    obtain ⟨inf, u, f⟩ := hE.tif hti
    have calm : ∀ ks, ti.cmp = some ks → P.eqGuardType P.depth t = false := by
      intro ks hks
      rw [f.cmp] at hks
      unfold cmpOf at hks
      split at hks
      · split at hks
        · cases hks
        · rename_i hg; simpa using hg
      · split at hks
        · cases hks
        · rename_i hg; simpa using hg
      · cases hks
    split at h
    · rw [hx.bool]; rw [eqGuard_at_bool]; rfl
    · rw [hx.int]; rw [eqGuard_at_int]; rfl
    · rw [hx.string]; rw [eqGuard_at_string]; rfl
    · split at h
      · rename_i ks hks
        obtain ⟨a', rfl, ha⟩ := hx.agg_inv
        obtain ⟨c', rfl, hc⟩ := hy.agg_inv
        exact run_eqGuard_agg w op t xo yo a' c' (calm ks hks)
      · cases h
    · split at h
      · rename_i ks hks
        obtain ⟨a', rfl, ha⟩ := hx.agg_inv
        obtain ⟨c', rfl, hc⟩ := hy.agg_inv
        exact run_eqGuard_agg w op t xo yo a' c' (calm ks hks)
      · cases h
    · obtain ⟨rfl, rfl, rfl⟩ := hx.slice_nil
      rw [eqGuard_at_slice]; rfl
    · obtain ⟨_, a', c', _, rfl, _⟩ := hx.slice_inv
      rw [eqGuard_at_slice]; rfl
    · rw [hx.map_nil, eqGuard_at_map]; rfl
    · obtain ⟨_, _, rfl⟩ := hx.map_inv
      rw [eqGuard_at_map]; rfl
    · rw [hx.eq_of_flat0 rfl, eqGuard_at_nilFunc]; rfl
    · rw [hx.eq_of_flat0 rfl, eqGuard_at_nilFunc]; rfl
    · cases hx <;> (rw [eqGuard_at_func]; rfl)
    · rw [hx.eq_of_flat0 rfl]
      obtain ⟨b', rfl, _⟩ := hy.ptr_any
      unfold eqGuard; split <;> rfl
    · obtain ⟨_, _, _, rfl⟩ := hx.ptr_inv
      unfold eqGuard; split <;> rfl
    · rename_i hd
      rw [f.d] at hd
      obtain ⟨ms, rfl, he⟩ := mkTD_iface hd
      rw [hx.eq_of_flat0 rfl, hy.eq_of_flat0 rfl]
      have hg : (Op.eqGuardIn (9999 + 1) t .nilIface .nilIface).run P w = .ok false w := by
        unfold Op.eqGuardIn
        rw [Sem.run_bind, run_underlying f.und]
        show Sem.run P (pure !ms.isEmpty) w = _
        rw [he]; rfl
      have hg : (Op.eqGuardIn Op.maxDepth t .nilIface .nilIface).run P w = .ok false w := hg
      generalize hG : Op.eqGuardIn Op.maxDepth t .nilIface .nilIface = G at hg
      have key : (do if ← G then unsupported (.noEntry "binop/eql: two nil values of an interface type with methods, neither of them the literal nil") : Sem Unit).run P w = .ok () w := by
        rw [Sem.run_bind, hg]; rfl
      unfold eqGuard
      rw [hG]
      cases op <;> try rfl
      all_goals (cases xo <;> cases yo <;> first | rfl | exact key)
    · cases h
end
end Go.D

/- Operations on values alone: arithmetic, comparisons, conversions, fields, elements. -/
namespace Go.D
open Go

section
variable {E : Env} {P : Program} {σ : Sg} {m m' : M} {w : World}

def headOK : Value → Bool
  | .int _ _ | .float _ _ | .complex _ _ _ | .string _ => false
  | _ => true
theorem VRel.headOK {x x' : Value} (h : VRel σ x x') : headOK x' = headOK x := by
  cases h <;> rfl
theorem eq?_head {t : TypeId} {x y : Value} {b : Bool} (h : eq? E t x y = some b) (hi : ∀ k a k' b, x = .int k a → y = .int k' b → False) (hs : ∀ a b, x = .string a → y = .string b → False) : headOK x = true := by
  unfold eq? at h
  cases hti : E.ty.get t with
  | none => rw [hti] at h; simp at h
  | some ti =>
    rw [hti] at h
    obtain ⟨d, _, _, _, _, _⟩ := ti
    cases x with
    | int k a => cases d <;> cases y <;> first | (simp at h; done) | exact (hi _ _ _ _ rfl rfl).elim
    | string a => cases d <;> cases y <;> first | (simp at h; done) | exact (hs _ _ rfl rfl).elim
    | float k a => cases d <;> simp at h
    | complex k a b => cases d <;> simp at h
    | _ => rfl
theorem binOp_eql_head {t : TypeId} {x y : Value} (h : headOK x = true) : binOp .eql t x y = (do pure (.bool (← Op.equal t x y))) := by
  cases x <;> simp [headOK] at h <;> cases y <;> rfl
theorem binOp_neq_head {t : TypeId} {x y : Value} (h : headOK x = true) : binOp .neq t x y = (do pure (.bool (!(← Op.equal t x y)))) := by
  cases x <;> simp [headOK] at h <;> cases y <;> rfl

theorem binInt_run {op : BinOp} {t : TypeId} {k : IntKind} {a b : Int} {v : Value} (h : binInt op k a b = some v) : (binOp op t (.int k a) (.int k b)).run P w = .ok v w ∧ flat0 v = true := by
  unfold binInt at h
  cases op <;> simp only [Option.some.injEq, reduceCtorEq] at h
  case quo =>
    split at h
    · cases h
    · cases h
      rename_i hb
      exact ⟨by simp [binOp, Op.intDiv, hb], rfl⟩
  case rem =>
    split at h
    · cases h
    · cases h
      rename_i hb
      exact ⟨by simp [binOp, Op.intDiv, hb], rfl⟩
  all_goals
    subst h
    exact ⟨by simp [binOp, Op.intArith, Op.intBits, Op.intCmp], rfl⟩
theorem binStr_run {op : BinOp} {t : TypeId} {a b : ByteArray} {v : Value} (h : binStr op a b = some v) : (binOp op t (.string a) (.string b)).run P w = .ok v w ∧ flat0 v = true := by
  unfold binStr at h
  cases op <;> simp only [Option.some.injEq, reduceCtorEq] at h
  case add =>
    split at h
    · cases h
    · cases h
      rename_i hb
      exact ⟨by simp only [binOp, Op.stringOp, if_neg hb]; rfl, rfl⟩
  all_goals
    subst h
    exact ⟨by simp [binOp, Op.stringOp], rfl⟩

theorem bin_sound (hE : E.OK P) {op : BinOp} {t : TypeId} {x y x' y' v : Value} (h : bin? E op t x y = some v) (hx : VRel σ x x') (hy : VRel σ y y') (xo yo : Operand) :
    (eqGuard op t xo yo x' y' >>= fun _ => binOp op t x' y').run P w = .ok v w ∧ flat0 v = true := by
  unfold bin? at h
  split at h
  · rw [hx.int, hy.int]
    split at h
    · cases h
    · cases h
      rename_i hb
      exact ⟨by rw [eqGuard_shl]; simp [binOp, Op.shift, hb], rfl⟩
  · rw [hx.int, hy.int]
    split at h
    · cases h
    · cases h
      rename_i hb
      exact ⟨by rw [eqGuard_shr]; simp [binOp, Op.shift, hb], rfl⟩
  · rw [hx.int, hy.int]
    split at h
    · rename_i hk; subst hk
      obtain ⟨h1, h2⟩ := binInt_run (P := P) (w := w) (t := t) h
      exact ⟨by rw [eqGuard_at_int]; simpa using h1, h2⟩
    · cases h
  · rw [hx.string, hy.string]
    obtain ⟨h1, h2⟩ := binStr_run (P := P) (w := w) (t := t) h
    exact ⟨by rw [eqGuard_at_string]; simpa using h1, h2⟩
  · rename_i hi hs
    cases hq : eq? E t x y with
    | none => rw [hq] at h; simp at h
    | some b =>
      rw [hq] at h
      simp only [Option.map_some, Option.some.injEq] at h
      subst h
      have hh := eq?_head hq (fun k a k' b e1 e2 => hi _ _ _ _ e1 e2) (fun a b e1 e2 => hs _ _ e1 e2)
      have hg := guard_sound (w := w) hE hq hx hy .eql xo yo
      have he := equal_sound (w := w) hE hq hx hy
      refine ⟨?_, rfl⟩
      rw [binOp_eql_head (by rw [hx.headOK]; exact hh), Sem.run_bind, hg, Result.andThen_ok, Sem.run_bind, he]
      rfl
  · rename_i hi hs
    cases hq : eq? E t x y with
    | none => rw [hq] at h; simp at h
    | some b =>
      rw [hq] at h
      simp only [Option.map_some, Option.some.injEq] at h
      subst h
      have hh := eq?_head hq (fun k a k' b e1 e2 => hi _ _ _ _ e1 e2) (fun a b e1 e2 => hs _ _ e1 e2)
      have hg := guard_sound (w := w) hE hq hx hy .neq xo yo
      have he := equal_sound (w := w) hE hq hx hy
      refine ⟨?_, rfl⟩
      rw [binOp_neq_head (by rw [hx.headOK]; exact hh), Sem.run_bind, hg, Result.andThen_ok, Sem.run_bind, he]
      rfl
  · cases h

theorem un_sound {op : UnOp} {x x' v : Value} (h : un? op x = some v) (hx : VRel σ x x') : (Op.unary op x').run P w = .ok v w ∧ flat0 v = true := by
  unfold un? at h
  split at h
  · cases h; rw [hx.int]; exact ⟨by simp [Op.unary, Op.intArith], rfl⟩
  · cases h; rw [hx.bool]; exact ⟨by simp [Op.unary], rfl⟩
  · cases h
theorem conv_sound (hE : E.OK P) {s d : TypeId} {x x' v : Value} (h : conv? E s d x = some v) (hx : VRel σ x x') : (convert s d x').run P w = .ok v w ∧ flat0 v = true := by
  unfold conv? at h
  split at h
  · rename_i si ti k n hs ht
    obtain ⟨_, us, fs⟩ := hE.tif hs
    obtain ⟨_, ut, ft⟩ := hE.tif ht
    split at h
    · rename_i hd
      cases h
      rw [ft.d] at hd
      rw [hx.int]
      have hu := ft.und.trans (by rw [mkTD_int hd])
      refine ⟨?_, rfl⟩
      simp [convert, run_underlying fs.und, run_underlying hu, Conv.intToInt]
    · cases h
  · rename_i si ti b hs ht
    obtain ⟨_, us, fs⟩ := hE.tif hs
    obtain ⟨_, ut, ft⟩ := hE.tif ht
    split at h
    · rename_i hd
      cases h
      rw [ft.d] at hd
      rw [hx.string]
      have hu := ft.und.trans (by rw [mkTD_str hd])
      refine ⟨?_, rfl⟩
      simp [convert, run_underlying fs.und, run_underlying hu]
    · cases h
  · cases h

/-- A part of an aggregate. -/
theorem part_sound (hE : E.OK P) {t : TypeId} {cs cs' : List Value} {off : Nat} {v : Value} (h : part E t cs off = some v) (hc : LRel σ cs cs') :
    ∃ v', (Go.part t cs'.toArray off).run P w = .ok v' w ∧ VRel σ v v' := by
  unfold part at h
  split at h
  · rename_i ti hti
    obtain ⟨i, u, f⟩ := hE.tif hti
    have hag := mkTD_agg (P := P) u w t f.und
    rw [← f.d] at hag
    unfold Go.part
    rw [Sem.run_bind, hag, Result.andThen_ok]
    cases ha : ti.d.agg with
    | true =>
      rw [ha] at h
      simp only [cond_true] at h
      cases hb : Nat.ble (off + ti.size) cs.length with
      | false => rw [hb] at h; simp at h
      | true =>
        rw [hb] at h
        simp only [cond_true, Option.some.injEq] at h
        subst h
        refine ⟨.agg ((cs'.drop off).take ti.size).toArray, ?_, ((hc.drop off).take ti.size).agg⟩
        have hext : cs'.toArray.extract off (off + i.size) = ((cs'.drop off).take ti.size).toArray := by
          apply Array.ext'
          rw [Array.toList_extract, List.extract_eq_take_drop, f.size]
          congr 1
          omega
        simp only [if_true, Sem.run_bind, run_sizeOf f.info, Result.andThen_ok, Sem.run_pure, hext]
    | false =>
      rw [ha] at h
      simp only [cond_false] at h
      obtain ⟨u', hu, hr⟩ := hc.get h
      exact ⟨u', by simp [hu], hr⟩
  · cases h
theorem field_sound (hE : E.OK P) {t : TypeId} {x x' v : Value} {n : Nat} (h : field? E t x n = some v) (hx : VRel σ x x') : ∃ v', (Instr.field t x' n).run P w = .ok v' w ∧ VRel σ v v' := by
  unfold field? at h
  split at h
  · rename_i ti cs hti
    obtain ⟨i, u, f⟩ := hE.tif hti
    split at h
    · rename_i fs hd
      rw [f.d] at hd
      obtain ⟨gs, rfl, rfl⟩ := mkTD_struct hd
      split at h
      · rename_i fd hfd
        simp only [List.getElem?_map, Option.map_eq_some_iff] at hfd
        obtain ⟨g, hg, rfl⟩ := hfd
        obtain ⟨cs', rfl, hc⟩ := hx.agg_inv
        obtain ⟨v', h1, h2⟩ := part_sound (w := w) hE h hc
        refine ⟨v', ?_, h2⟩
        have hg' : gs[n]? = some g := by simpa using hg
        simp only [Instr.field, Sem.run_bind, run_underlying f.und, Result.andThen_ok, hg', asAgg, Sem.run_pure]
        simpa [mkFd] using h1
      · cases h
    · cases h
  · cases h
theorem fieldAddr_sound (hE : E.OK P) {t : TypeId} {x x' v : Value} {n : Nat} (h : fieldAddr? E t x n = some v) (hx : VRel σ x x') : ∃ v', (Instr.fieldAt t x' n).run P w = .ok v' w ∧ VRel σ v v' := by
  unfold fieldAddr? at h
  split at h
  · rename_i ti a hti
    obtain ⟨i, u, f⟩ := hE.tif hti
    split at h
    · rename_i fs hd
      rw [f.d] at hd
      obtain ⟨gs, rfl, rfl⟩ := mkTD_struct hd
      split at h
      · rename_i fd hfd
        simp only [List.getElem?_map, Option.map_eq_some_iff] at hfd
        obtain ⟨g, hg, rfl⟩ := hfd
        obtain ⟨bi, hb, hsp, rfl⟩ := hx.ptr_inv
        cases hz : Nat.beq (mkFd P g).size 0 with
        | true => rw [hz] at h; simp at h
        | false =>
          rw [hz] at h
          simp only [cond_false, Option.some.injEq] at h
          subst h
          have hne := Nat.ne_of_beq_eq_false hz
          cases hi : P.info? g.type with
          | none => simp [mkFd, hi] at hne
          | some gi =>
            have hgs : gi.size ≠ 0 := by simpa [mkFd, hi] using hne
            have hg' : gs[n]? = some g := by simpa using hg
            obtain ⟨bl, o, sp⟩ := a
            simp only at hsp hb
            subst hsp
            refine ⟨.pointer (some ⟨bi.blk, o + g.offset, none⟩), ?_, ?_⟩
            · simp only [Instr.fieldAt, Sem.run_bind, run_underlying f.und, Result.andThen_ok, hg', Instr.sureAddr, Sem.run_pure, fieldPlace, run_sizeOf hi, if_neg hgs, add_off]
            · have : ((mkFd P g).off) = g.offset := rfl
              rw [this, add_off]
              exact .ptr ⟨bl, o + g.offset, none⟩ bi hb rfl
      · cases h
    · cases h
  · cases h
/-- An element type's cells. -/
theorem es_pos {u : TypeDesc} {e : Nat} (hu : esOf P u = 0 → False) (he : u = .slice e ∨ ∃ n, u = .array n e) : ∃ ei, P.info? e = some ei ∧ esOf P u = ei.size := by
  rcases he with rfl | ⟨n, rfl⟩
  · cases hi : P.info? e with
    | none => simp [esOf, hi] at hu
    | some ei => exact ⟨ei, rfl, by simp [esOf, hi]⟩
  · cases hi : P.info? e with
    | none => simp [esOf, hi] at hu
    | some ei => exact ⟨ei, rfl, by simp [esOf, hi]⟩
theorem indexAddr_sound (hE : E.OK P) {t : TypeId} {x x' y y' v : Value} (h : indexAddr? E t x y = some v) (hx : VRel σ x x') (hy : VRel σ y y') : ∃ v', (Instr.indexAt t x' y').run P w = .ok v' w ∧ VRel σ v v' := by
  unfold indexAddr? at h
  split at h
  · cases h
  · rename_i ti hti
    obtain ⟨i, u, f⟩ := hE.tif hti
    split at h
    · rename_i e a n c k j hd
      rw [f.d] at hd
      obtain rfl := mkTD_slice hd
      split at h
      · rename_i hc
        cases h
        obtain ⟨ei, hei, hes⟩ := es_pos (P := P) (u := .slice e) (by rw [← f.es]; omega) (.inl rfl)
        rw [hy.int]
        obtain ⟨bi, a', c', hb, rfl, hcase⟩ := hx.slice_inv
        rcases hcase with ⟨hsp, rfl, _⟩ | ⟨rfl, rfl, _⟩
        · obtain ⟨bl, o, sp⟩ := a
          simp only at hsp hb
          subst hsp
          refine ⟨.pointer (some ⟨bi.blk, o + j.toNat * ei.size, none⟩), ?_, ?_⟩
          · have h2 : 0 ≤ j ∧ j < (n : Int) := ⟨hc.1, hc.2.1⟩
            simp only [Instr.indexAt, Sem.run_bind, asIntOf, Sem.run_pure, Result.andThen_ok, run_underlying f.und, if_pos h2, run_sizeOf hei, add_off]
          · rw [f.es, hes, add_off]
            exact .ptr ⟨bl, o + j.toNat * ei.size, none⟩ bi hb rfl
        · exfalso
          have := hc.2.1
          have := hc.1
          simp at *
          omega
      · cases h
    · rename_i n e a k j hd
      rw [f.d] at hd
      obtain rfl := mkTD_array hd
      split at h
      · rename_i hc
        cases h
        obtain ⟨ei, hei, hes⟩ := es_pos (P := P) (u := .array n e) (by rw [← f.es]; omega) (.inr ⟨n, rfl⟩)
        rw [hy.int]
        obtain ⟨bi, hb, hsp, rfl⟩ := hx.ptr_inv
        obtain ⟨bl, o, sp⟩ := a
        simp only at hsp hb
        subst hsp
        refine ⟨.pointer (some ⟨bi.blk, o + j.toNat * ei.size, none⟩), ?_, ?_⟩
        · have h2 : 0 ≤ j ∧ j < (n : Int) := ⟨hc.1, hc.2.1⟩
          simp only [Instr.indexAt, Sem.run_bind, asIntOf, Sem.run_pure, Result.andThen_ok, run_underlying f.und, Instr.sureAddr, if_pos h2, run_sizeOf hei, add_off]
        · rw [f.es, hes, add_off]
          exact .ptr ⟨bl, o + j.toNat * ei.size, none⟩ bi hb rfl
      · cases h
    · cases h
theorem index_sound (hE : E.OK P) {t : TypeId} {x x' y y' v : Value} (h : index? E t x y = some v) (hx : VRel σ x x') (hy : VRel σ y y') : ∃ v', (Instr.index t x' y').run P w = .ok v' w ∧ VRel σ v v' := by
  unfold index? at h
  split at h
  · cases h
  · rename_i ti hti
    obtain ⟨i, u, f⟩ := hE.tif hti
    split at h
    · rename_i n e cs k j hd
      rw [f.d] at hd
      obtain rfl := mkTD_array hd
      split at h
      · rename_i hc
        rw [hy.int]
        obtain ⟨cs', rfl, hcs⟩ := hx.agg_inv
        obtain ⟨v', h1, h2⟩ := part_sound (w := w) hE h hcs
        refine ⟨v', ?_, h2⟩
        have hp := h
        unfold part at hp
        split at hp
        · rename_i ei hei
          obtain ⟨ie, ue, fe⟩ := hE.tif hei
          have hes : ti.es = ie.size := by rw [f.es]; simp [esOf, fe.info]
          have h3 : (0 : Int) ≤ j ∧ j < (n : Int) := hc
          simp only [Instr.index, Sem.run_bind, asIntOf, Sem.run_pure, Result.andThen_ok, run_underlying f.und, if_pos h3, run_sizeOf fe.info]
          rw [← hes]
          simpa using h1
        · cases hp
      · cases h
    · rename_i s k j hd
      rw [f.d] at hd
      obtain rfl := mkTD_str hd
      split at h
      · rename_i hc
        simp only [Option.map_eq_some_iff] at h
        obtain ⟨b, hb, rfl⟩ := h
        rw [hy.int, hx.string]
        refine ⟨.int .u8 b.toNat, ?_, .flat _ rfl⟩
        simp only [Instr.index, Sem.run_bind, asIntOf, Sem.run_pure, Result.andThen_ok, run_underlying f.und, if_pos hc, hb]
      · cases h
    · cases h
end
end Go.D

/- Operations that make memory: variables, literals, make. -/
namespace Go.D
open Go

/-- An operation on memory, on both sides. -/
def Res (P : Program) (σ : Sg) (m : M) (w : World) (s : Sem Value) (v : Value) (m' : M) : Prop :=
  ∃ σ' w' v', s.run P w = .ok v' w' ∧ VRel σ' v v' ∧ Ev P σ m w σ' m' w'

section
variable {E : Env} {P : Program} {σ : Sg} {m m' : M} {w : World}

theorem Res.pure (hs : Sim P σ m w) {s : Sem Value} {v v' : Value} (h : s.run P w = .ok v' w) (hv : VRel σ v v') : Res P σ m w s v m := ⟨σ, w, v', h, hv, Ev.refl hs⟩

def grOf (len size : Nat) : Option Nat → Option (Nat × Nat × Nat)
  | none => none
  | some k => some (k, len, size)
/-- A new row. -/
theorem new_row (hs : Sim P σ m w) {c : List Value} {c' : Array Value} {e : TypeId} {g : Option Nat} (hl : c.length ≤ c'.size) (h : LRel σ c (c'.toList.take c.length))
    (hg : GrOK ⟨w.heap.size, grOf c.length c'.size g⟩ c.length c'.size g) :
    Ev P σ m w (σ.add m.n ⟨w.heap.size, grOf c.length c'.size g⟩) (m.push (.cells c e g)) (w.alloc (.cells c' e)) := by
  refine Ev.new_block hs ⟨c', ?_, hl, h.mono (Sg.le_add hs.next_none), hg⟩
  exact heap_alloc_new w _
theorem new_exact (hs : Sim P σ m w) {c : List Value} {c' : Array Value} {e : TypeId} (h : LRel σ c c'.toList) :
    Ev P σ m w (σ.add m.n ⟨w.heap.size, none⟩) (m.push (.cells c e none)) (w.alloc (.cells c' e)) := by
  have hl : c.length = c'.size := by simpa using h.1
  refine new_row (g := none) hs (by omega) ?_ ⟨rfl, hl.symm⟩
  rw [List.take_of_length_le (by simp; omega)]
  exact h

theorem box_sound (hs : Sim P σ m w) {t : TypeId} {v v' : Value} (hv : VRel σ v v') : Res P σ m w (Instr.box t v') (newVar m t v).1 (newVar m t v).2 := by
  refine ⟨_, _, .pointer (some ⟨w.heap.size, 0, none⟩), ?_, ?_, new_exact hs hv.cells (e := t)⟩
  · simp [Instr.box, Go.newVar, newRow]
  · exact .ptr ⟨m.n, 0, none⟩ _ (Sg.add_same _ _) rfl
theorem alloc_sound (hE : E.OK P) (hs : Sim P σ m w) {t : TypeId} {z : Value} (hz : zero? E t = some z) : Res P σ m w (Instr.alloc t true (.tuple #[])) (newVar m t z).1 (newVar m t z).2 := by
  unfold zero? at hz
  cases ht : E.ty.get t with
  | none => rw [ht] at hz; simp at hz
  | some ti =>
    rw [ht] at hz
    simp only [Option.bind_some] at hz
    obtain ⟨i, u, f⟩ := hE.tif ht
    have hr := run_zeroValue (w := w) f.info (by rw [← f.zero]; exact hz)
    refine ⟨_, _, .pointer (some ⟨w.heap.size, 0, none⟩), ?_, ?_, new_exact hs (VRel.of_flat2 (hE.flat ht hz)).cells (e := t)⟩
    · simp [Instr.alloc, hr, Go.newVar, newRow]
    · exact .ptr ⟨m.n, 0, none⟩ _ (Sg.add_same _ _) rfl

theorem foldl_splice (off : Nat) : ∀ (l : List Value) (k : Nat) (cs : Array Value), off + k + l.length ≤ cs.size →
    (l.zipIdx k).foldl (fun cs p => cs.setIfInBounds (off + p.2) p.1) cs = (cs.toList.take (off + k) ++ (l ++ cs.toList.drop (off + k + l.length))).toArray
  | [], k, cs, _ => by simp
  | v :: l, k, cs, h => by
    simp only [List.length_cons] at h
    simp only [List.zipIdx_cons, List.foldl_cons]
    rw [foldl_splice off l (k + 1) (cs.setIfInBounds (off + k) v) (by simp; omega)]
    have e := list_seg_step cs.toList (off + k) v l (by simp; omega)
    simp only [Array.toList_setIfInBounds, List.length_cons]
    have e1 : off + (k + 1) = off + k + 1 := by omega
    rw [e1]
    simp only [List.append_assoc] at e
    rw [e]
theorem fill_sound {place place' : Nat → Option (Nat × Nat)} (hp : ∀ i o, place i = some o → place' i = some o) {T : Operand → Value} {A : Operand → Value} :
    ∀ (ps : List (Nat × Operand)) (cs : List Value) (cs' : Array Value) (out : List Value), (∀ p ∈ ps, VRel σ (T p.2) (A p.2)) → LRel σ cs cs'.toList →
      fill place cs (ps.map fun p => (p.1, T p.2)) = some out → ∃ out' : Array Value, Instr.fill place' cs' (ps.map fun p => (p.1, A p.2)) = some out' ∧ LRel σ out out'.toList
  | [], cs, cs', out, _, hc, h => by
    simp only [List.map_nil, fill, Option.some.injEq] at h
    subst h
    exact ⟨cs', rfl, hc⟩
  | p :: ps, cs, cs', out, hv, hc, h => by
    simp only [List.map_cons, fill] at h
    split at h
    · cases h
    · rename_i off size ho
      have hx := hv p List.mem_cons_self
      have hxc := hx.cells
      cases hb : (Nat.beq (cells (T p.2)).length size && Nat.ble (off + size) cs.length) with
      | false => rw [hb] at h; simp at h
      | true =>
        rw [hb] at h
        simp only [cond_true] at h
        simp only [Bool.and_eq_true] at hb
        have h1 := Nat.eq_of_beq_eq_true hb.1
        have h2 := Nat.le_of_ble_eq_true hb.2
        have hl1 := hxc.1
        have hl2 := hc.1
        simp only [Array.length_toList] at hl1 hl2
        have hsp := foldl_splice off (A p.2).cells.toList 0 cs' (by simp; omega)
        simp only [Nat.add_zero] at hsp
        have hfold : ((A p.2).cells.zipIdx.foldl (fun cs (x : Value × Nat) => cs.setIfInBounds (off + x.2) x.1) cs') = (cs'.toList.take off ++ ((A p.2).cells.toList ++ cs'.toList.drop (off + (A p.2).cells.toList.length))).toArray := by
          rw [← hsp, ← Array.foldl_toList]
          simp
        have hrel : LRel σ (cs.take off ++ (cells (T p.2) ++ cs.drop (off + size))) (cs'.toList.take off ++ ((A p.2).cells.toList ++ cs'.toList.drop (off + (A p.2).cells.toList.length))) := by
          have : (A p.2).cells.toList.length = size := by simp; omega
          rw [this]
          exact (hc.take off).append (hxc.append (hc.drop _))
        obtain ⟨out', e1, e2⟩ := fill_sound hp ps _ (cs'.toList.take off ++ ((A p.2).cells.toList ++ cs'.toList.drop (off + (A p.2).cells.toList.length))).toArray out (fun q hq => hv q (List.mem_cons_of_mem _ hq)) (by simpa using hrel) h
        refine ⟨out', ?_, e2⟩
        simp only [List.map_cons, Instr.fill, hp _ _ ho]
        rw [if_neg (by simp; omega)]
        rw [← e1]
        congr 1
theorem build_sound (hE : E.OK P) {T A : Operand → Value} {t : TypeId} {ps : Array (Nat × Operand)} {v : Value} (hv : ∀ p ∈ ps.toList, VRel σ (T p.2) (A p.2))
    (h : build? E t (ps.toList.map fun p => (p.1, T p.2)) = some v) : ∃ v', (Instr.build t (ps.map fun p => (p.1, A p.2))).run P w = .ok v' w ∧ VRel σ v v' := by
  unfold build? at h
  split at h
  · cases h
  · rename_i ti hti
    obtain ⟨i, u, f⟩ := hE.tif hti
    split at h
    · rename_i z fs hz hd
      have hflat := hE.flat hti hz
      have hd' := hd
      rw [f.d] at hd
      obtain ⟨gs, rfl, rfl⟩ := mkTD_struct hd
      simp only [Option.map_eq_some_iff] at h
      obtain ⟨cs, hcs, rfl⟩ := h
      have hr := run_zeroValue (w := w) f.info (by rw [← f.zero]; exact hz)
      have hplaces : (gs.mapM (m := Sem) fun f => do pure (f.offset, ← sizeOf f.type)).run P w = .ok (gs.map fun g => (g.offset, (mkFd P g).size)) w := by
        have key : ∀ (l : List Field), (∀ g ∈ l, ∃ gi, P.info? g.type = some gi) → (l.mapM (m := Sem) fun f => do pure (f.offset, ← sizeOf f.type)).run P w = .ok (l.map fun g => (g.offset, (mkFd P g).size)) w := by
          intro l
          induction l with
          | nil => intro _; rfl
          | cons g l ih =>
            intro hl
            obtain ⟨gi, hgi⟩ := hl g List.mem_cons_self
            have h2 := ih (fun g hg => hl g (List.mem_cons_of_mem _ hg))
            rw [List.mapM_cons]
            simp only [Sem.run_bind, run_sizeOf hgi, Result.andThen_ok, Sem.run_pure, h2, List.map_cons]
            simp [mkFd, hgi]
        have := key gs.toList (fun g hg => by
          obtain ⟨fi, h1, _⟩ := hE.fld hti hd' (List.mem_map_of_mem (f := mkFd P) hg)
          obtain ⟨gi, gu, gf⟩ := hE.tif h1
          exact ⟨gi, gf.info⟩)
        rw [Array.mapM_eq_mapM_toList, Sem.run_map, this]
        simp only [Result.andThen_ok]
        congr 1
        apply Array.ext'
        simp
      obtain ⟨out', e1, e2⟩ := fill_sound (σ := σ) (place' := ((gs.map fun g => (g.offset, (mkFd P g).size))[·]?)) (by
        intro j o ho
        simp only [List.getElem?_map, Option.map_map, Option.map_eq_some_iff] at ho
        obtain ⟨g, hg, rfl⟩ := ho
        have : gs[j]? = some g := by simpa using hg
        simp [this, mkFd]) ps.toList (cells z) z.cells cs hv (VRel.of_flat2 hflat).cells hcs
      refine ⟨.agg out', ?_, ?_⟩
      · simp only [Instr.build, Sem.run_bind, hr, Result.andThen_ok, run_underlying f.und, hplaces]
        have : (ps.map fun p => (p.1, A p.2)).toList = ps.toList.map fun p => (p.1, A p.2) := by simp
        rw [this, e1]
        rfl
      · have := e2.agg; simpa using this
    · rename_i z n e hz hd
      have hflat := hE.flat hti hz
      rw [f.d] at hd
      obtain rfl := mkTD_array hd
      cases hb : Nat.beq ti.es 0 with
      | true => rw [hb] at h; simp at h
      | false =>
        rw [hb] at h
        have hne := Nat.ne_of_beq_eq_false hb
        simp only [cond_false, Option.map_eq_some_iff] at h
        obtain ⟨cs, hcs, rfl⟩ := h
        have hr := run_zeroValue (w := w) f.info (by rw [← f.zero]; exact hz)
        obtain ⟨ei, hei, hes⟩ := es_pos (P := P) (u := .array n e) (by rw [← f.es]; exact hne) (.inr ⟨n, rfl⟩)
        obtain ⟨out', e1, e2⟩ := fill_sound (σ := σ) (place' := fun j => some (j * ei.size, ei.size)) (by
          intro j o ho
          rw [f.es, hes] at ho
          exact ho) ps.toList (cells z) z.cells cs hv (VRel.of_flat2 hflat).cells hcs
        refine ⟨.agg out', ?_, ?_⟩
        · simp only [Instr.build, Sem.run_bind, hr, Result.andThen_ok, run_underlying f.und, run_sizeOf hei]
          have : (ps.map fun p => (p.1, A p.2)).toList = ps.toList.map fun p => (p.1, A p.2) := by simp
          rw [this, e1]
          rfl
        · have := e2.agg; simpa using this
    · cases h
end
end Go.D

/- Slices: literals, make, slice expressions, len, min, max. -/
namespace Go.D
open Go

section
variable {E : Env} {P : Program} {σ : Sg} {m m' : M} {w : World}

theorem zeros_length (z : List Value) : ∀ n : Nat, (zeros z n).length = n * z.length
  | 0 => by simp [zeros]
  | n + 1 => by unfold zeros; rw [List.length_append, zeros_length z n, Nat.add_mul]; omega
theorem zeros_get (z : List Value) : ∀ (n i : Nat), i < n * z.length → (zeros z n)[i]? = z[i % z.length]?
  | 0, i, h => by simp at h
  | n + 1, i, h => by
    unfold zeros
    by_cases hi : i < z.length
    · rw [List.getElem?_append_left hi, Nat.mod_eq_of_lt hi]
    · rw [List.getElem?_append_right (by omega), zeros_get z n _ (by rw [Nat.add_mul] at h; omega)]
      congr 1
      rw [← Nat.mod_eq_sub_mod (by omega)]
theorem zeros_rel {z z' : List Value} (h : LRel σ z z') : ∀ n : Nat, LRel σ (zeros z n) (zeros z' n)
  | 0 => LRel.nil
  | n + 1 => h.append (zeros_rel h n)
/-- The zeros as the model makes them. -/
theorem range_zeros (z : Array Value) (n : Nat) : ((Array.range (n * z.size)).map fun i => z[i % z.size]!) = (zeros z.toList n).toArray := by
  apply Array.ext'
  apply List.ext_getElem?
  intro i
  simp only [Array.toList_map, List.getElem?_map, Array.toList_range]
  by_cases hi : i < n * z.size
  · rw [List.getElem?_range hi, zeros_get z.toList n i (by simpa using hi)]
    have hz : 0 < z.size := by
      rcases Nat.eq_zero_or_pos z.size with h | h
      · rw [h] at hi; simp at hi
      · exact h
    have hm : i % z.size < z.size := Nat.mod_lt _ hz
    simp [hm]
  · rw [List.getElem?_eq_none (by simp; omega), List.getElem?_eq_none (by rw [zeros_length]; simpa using hi)]
    rfl

theorem range_zero' : Array.range 0 = #[] := rfl

theorem buildSlice_sound (hE : E.OK P) (hs : Sim P σ m w) {T A : Operand → Value} {t : TypeId} {n : Nat} {ps : Array (Nat × Operand)} {v : Value} (hv : ∀ p ∈ ps.toList, VRel σ (T p.2) (A p.2))
    (h : buildSlice? E m t n (ps.toList.map fun p => (p.1, T p.2)) = some (v, m')) : Res P σ m w (Instr.buildSlice t n (ps.map fun p => (p.1, A p.2))) v m' := by
  unfold buildSlice? at h
  split at h
  · cases h
  · rename_i ti hti
    obtain ⟨i, u, f⟩ := hE.tif hti
    split at h
    · rename_i e hd
      rw [f.d] at hd
      obtain rfl := mkTD_slice hd
      split at h
      · cases h
      · rename_i z hz
        unfold zero? at hz
        cases he : E.ty.get e with
        | none => rw [he] at hz; simp at hz
        | some ei =>
          rw [he] at hz
          simp only [Option.bind_some] at hz
          obtain ⟨ie, ue, fe⟩ := hE.tif he
          have hes : ti.es = ie.size := by rw [f.es]; simp [esOf, fe.info]
          cases hb : (Nat.beq (cells z).length ti.es && Nat.ble (n * ti.es) 1048576) with
          | false => rw [hb] at h; simp at h
          | true =>
            rw [hb] at h
            simp only [cond_true, Option.map_eq_some_iff, Prod.mk.injEq] at h
            obtain ⟨cs, hcs, rfl, rfl⟩ := h
            simp only [Bool.and_eq_true] at hb
            have h1 := Nat.eq_of_beq_eq_true hb.1
            have h2 := Nat.le_of_ble_eq_true hb.2
            have hzr := (VRel.of_flat2 (σ := σ) (hE.flat he hz)).cells
            have hzl : z.cells.size = ie.size := by have := hzr.1; simp at this; omega
            have hr := run_zeroValue (w := w) fe.info (by rw [← fe.zero]; exact hz)
            obtain ⟨out', e1, e2⟩ := fill_sound (σ := σ) (place' := fun j => some (j * ie.size, ie.size)) (by
              intro j o ho
              rw [hes] at ho
              exact ho) ps.toList (zeros (cells z) n) (zeros z.cells.toList n).toArray cs hv (by simpa using zeros_rel hzr n) hcs
            refine ⟨_, _, .slice (some ⟨w.heap.size, 0, none⟩) n n, ?_, ?_, new_exact hs e2 (e := e)⟩
            · have hfill : Instr.fill (fun i => some (i * ie.size, ie.size)) ((Array.range (n * ie.size)).map (z.cells[· % z.cells.size]!)) (ps.map fun p => (p.1, A p.2)).toList = some out' := by
                have := range_zeros z.cells n
                rw [hzl] at this ⊢
                rw [this, Array.toList_map]
                exact e1
              by_cases h0 : n * ie.size = 0
              · have hz0 : (zeros z.cells.toList n).toArray = #[] := by
                  apply Array.ext'
                  exact List.eq_nil_of_length_eq_zero (by rw [zeros_length]; simp only [Array.length_toList]; rw [hzl]; exact h0)
                have hfill' : Instr.fill (fun i => some (i * ie.size, ie.size)) ((Array.range (n * ie.size)).map ((#[] : Array Value)[· % (#[] : Array Value).size]!)) (ps.map fun p => (p.1, A p.2)).toList = some out' := by
                  rw [← hfill, h0]
                  simp [range_zero']
                simp only [Instr.buildSlice, Sem.run_bind, run_underlying f.und, Result.andThen_ok, run_sizeOf fe.info, Sem.run_ite]
                rw [if_neg (by rw [hes] at h2; omega)]
                simp only [Sem.run_pure, Result.andThen_ok, h0, if_true]
                rw [h0] at hfill'
                rw [hfill']
                simp [newRow]
              · simp only [Instr.buildSlice, Sem.run_bind, run_underlying f.und, Result.andThen_ok, run_sizeOf fe.info, Sem.run_ite]
                rw [if_neg (by rw [hes] at h2; omega)]
                simp only [Sem.run_pure, Result.andThen_ok, h0, if_false, hr]
                rw [hfill]
                simp [newRow]
            · exact .slice ⟨m.n, 0, none⟩ _ n n (Sg.add_same _ _) rfl rfl
    · cases h

theorem makeSlice_sound (hE : E.OK P) (hs : Sim P σ m w) {t : TypeId} {l l' c c' v : Value} (hl : VRel σ l l') (hc : VRel σ c c') (h : makeSlice? E m t l c = some (v, m')) :
    Res P σ m w (Instr.makeSlice t l' c') v m' := by
  unfold makeSlice? at h
  split at h
  · cases h
  · rename_i ti hti
    obtain ⟨i, u, f⟩ := hE.tif hti
    split at h
    · rename_i e k l k' c hd
      rw [f.d] at hd
      obtain rfl := mkTD_slice hd
      split at h
      · cases h
      · rename_i ei he
        obtain ⟨ie, ue, fe⟩ := hE.tif he
        split at h
        · cases h
        · rename_i z hz
          split at h
          · rename_i hcond
            obtain ⟨h1, h2, h3, h4, h5⟩ := hcond
            cases h
            rw [hl.int, hc.int]
            have hzr := (VRel.of_flat2 (σ := σ) (hE.flat he hz)).cells
            have hzl : z.cells.size = ie.size := by have := hzr.1; have := fe.size; simp at *; omega
            have hr := run_zeroValue (w := w) fe.info (by rw [← fe.zero]; exact hz)
            have hb : (ie.bytes : Int) * c ≤ 68719476736 := by
              have : (ie.bytes : Int) ≤ 65536 := by have := fe.bytes; omega
              calc (ie.bytes : Int) * c ≤ 65536 * 1048576 := Int.mul_le_mul this h3 (by omega) (by omega)
                _ = 68719476736 := by decide
            have hw1 : IntKind.i64.wrap l = l := by rw [IntKind.wrap_i64]; omega
            have hw2 : IntKind.i64.wrap c = c := by rw [IntKind.wrap_i64]; omega
            refine ⟨_, _, .slice (some ⟨w.heap.size, 0, none⟩) l.toNat c.toNat, ?_, ?_, new_exact hs (c' := (zeros z.cells.toList c.toNat).toArray) (by simpa using zeros_rel hzr c.toNat) (e := e)⟩
            · have hrz := range_zeros z.cells c.toNat
              rw [hzl] at hrz
              simp only [Instr.makeSlice, Sem.run_bind, run_underlying f.und, Result.andThen_ok, asInt, asIntOf, Sem.run_pure, run_typeInfo fe.info, hw1, hw2, Sem.run_ite]
              have ht : ¬ ((decide (c < 0) || decide ((ie.bytes : Int) * c > 2 ^ 48)) = true ∨ l < 0 ∨ l > c) := by
                simp only [Bool.or_eq_true, decide_eq_true_eq]
                omega
              rw [if_neg (by simpa [or_assoc] using ht)]
              simp only [Result.andThen_ok, run_askRoom, run_sizeOf fe.info]
              by_cases h0 : c.toNat * ie.size = 0
              · have hz0 : (zeros z.cells.toList c.toNat).toArray = #[] := by
                  apply Array.ext'
                  exact List.eq_nil_of_length_eq_zero (by rw [zeros_length]; simp only [Array.length_toList]; rw [hzl]; exact h0)
                rw [hz0]
                simp [h0, newRow, range_zero']
              · simp only [if_neg h0, hr, Result.andThen_ok]
                rw [hzl, hrz]
                simp [newRow]
            · exact .slice ⟨m.n, 0, none⟩ _ _ _ (Sg.add_same _ _) rfl rfl
          · cases h
    · cases h

end
end Go.D

/- Slice expressions, len, cap, min, max, extract. -/
namespace Go.D
open Go

section
variable {E : Env} {P : Program} {σ : Sg} {m m' : M} {w : World}

theorem bound_sound {x x' : Value} {y n : Nat} (h : bound? x y = some n) (hx : VRel σ x x') (y' : Nat) (hy : y ≤ y') (c : BoundsCode) : (Instr.sliceBound x' y' c).run P w = .ok n w ∧ n ≤ y := by
  unfold bound? at h
  split at h
  · rename_i k i
    split at h
    · rename_i hc
      cases h
      rw [hx.int]
      refine ⟨?_, by omega⟩
      have h2 : 0 ≤ i ∧ i ≤ (y' : Int) := by omega
      simp only [Instr.sliceBound, Sem.run_bind, asIntOf, Sem.run_pure, Result.andThen_ok, if_pos h2]
    · cases h
  · cases h

/-- A bound that may be left out. -/
def ORel (σ : Sg) (x x' : Option Value) : Prop := match x, x' with
  | none, none => True
  | some v, some v' => VRel σ v v'
  | _, _ => False

theorem bounds_sound {len cap : Nat} {lo hi mx lo' hi' mx' : Option Value} {l h k : Nat} (e : bounds? len cap lo hi mx = some (l, h, k)) (h1 : ORel σ lo lo') (h2 : ORel σ hi hi') (h3 : ORel σ mx mx')
    (hlc : len ≤ cap) (b : Bool) (cap' : Nat) (hc : cap ≤ cap') :
    (Instr.sliceBounds b len cap' lo' hi' mx').run P w = .ok (l, h, if mx.isNone then cap' else k) w ∧ l ≤ h ∧ h ≤ k ∧ k ≤ cap ∧ (mx = none → k = cap) := by
  unfold bounds? at e
  split at e
  · cases e
  · rename_i m hm
    split at e
    · cases e
    · rename_i h' hh
      split at e
      · cases e
      · rename_i l' hl
        cases e
        cases mx with
        | some vm =>
          cases mx' with
          | none => exact h3.elim
          | some vm' =>
            obtain ⟨r1, r2⟩ := bound_sound (P := P) (w := w) hm h3 cap' hc (if b then .slice3Acap else .slice3Alen)
            cases hi with
            | none => simp at hh
            | some vh =>
              cases hi' with
              | none => exact h2.elim
              | some vh' =>
                simp only at hh
                obtain ⟨s1, s2⟩ := bound_sound (P := P) (w := w) hh h2 k (Nat.le_refl _) .slice3B
                cases lo with
                | none =>
                  cases lo' with
                  | some _ => exact h1.elim
                  | none =>
                    simp only [Option.some.injEq] at hl
                    subst hl
                    refine ⟨?_, by omega, s2, r2, by simp⟩
                    simp only [Instr.sliceBounds, Sem.run_bind, r1, s1, Sem.run_pure, Result.andThen_ok]
                    rfl
                | some vl =>
                  cases lo' with
                  | none => exact h1.elim
                  | some vl' =>
                    simp only at hl
                    obtain ⟨t1, t2⟩ := bound_sound (P := P) (w := w) hl h1 h (Nat.le_refl _) .slice3C
                    refine ⟨?_, t2, s2, r2, by simp⟩
                    simp [Instr.sliceBounds, Sem.run_bind, r1, s1, t1]
        | none =>
          cases mx' with
          | some _ => exact h3.elim
          | none =>
            simp only [Option.some.injEq] at hm
            subst hm
            have hhk : (match hi' with | some v => Instr.sliceBound v cap' (if b then .sliceAcap else .sliceAlen) | none => pure len : Sem Nat).run P w = .ok h w ∧ h ≤ cap := by
              cases hi with
              | none =>
                cases hi' with
                | some _ => exact h2.elim
                | none => simp only [Option.some.injEq] at hh; subst hh; exact ⟨rfl, hlc⟩
              | some vh =>
                cases hi' with
                | none => exact h2.elim
                | some vh' => exact bound_sound (P := P) (w := w) hh h2 cap' hc _
            have hll : (match lo' with | some v => Instr.sliceBound v h .sliceB | none => pure 0 : Sem Nat).run P w = .ok l w ∧ l ≤ h := by
              cases lo with
              | none =>
                cases lo' with
                | some _ => exact h1.elim
                | none => simp only [Option.some.injEq] at hl; subst hl; exact ⟨rfl, by omega⟩
              | some vl =>
                cases lo' with
                | none => exact h1.elim
                | some vl' => exact bound_sound (P := P) (w := w) hl h1 h (Nat.le_refl _) _
            refine ⟨?_, hll.2, hhk.2, Nat.le_refl _, fun _ => rfl⟩
            have e1 := hhk.1
            have e2 := hll.1
            simp only [Instr.sliceBounds, Sem.run_bind, Sem.run_pure, Result.andThen_ok]
            cases hi' <;> cases lo' <;> simp_all

theorem addr_add {a : Addr} (hs : a.spot = none) (n : Nat) : a.add n = ⟨a.block, a.off + n, none⟩ := by
  obtain ⟨b, o, s⟩ := a
  simp only at hs
  subst hs
  rw [add_off]
theorem addr_add_block (a : Addr) (n : Nat) : (a.add n).block = a.block ∧ (a.add n).off = a.off + n := by
  unfold Addr.add
  split <;> simp_all

theorem run_slice_slice {t e : TypeId} {ei : TypeInfo} {a : Option Addr} {n c l h k : Nat} {lo hi mx : Option Value} (hu : P.underlying t = some (.slice e)) (he : P.info? e = some ei)
    (hb : (Instr.sliceBounds true n c lo hi mx).run P w = .ok (l, h, k) w) : (Instr.sliceAt t (.slice a n c) lo hi mx).run P w = .ok (.slice (if k = l then a else a.map (·.add (l * ei.size))) (h - l) (k - l)) w := by
  simp only [Instr.sliceAt, Instr.slice, Sem.run_bind, run_underlying hu, Result.andThen_ok, hb, run_sizeOf he, Sem.run_pure]

theorem slice_sound (hE : E.OK P) (hs : Sim P σ m w) {t : TypeId} {x x' v : Value} {lo hi mx lo' hi' mx' : Option Value} (h : slice? E m t x lo hi mx = some v) (hx : VRel σ x x') (h1 : ORel σ lo lo') (h2 : ORel σ hi hi') (h3 : ORel σ mx mx') :
    ∃ v', (Instr.sliceAt t x' lo' hi' mx').run P w = .ok v' w ∧ VRel σ v v' := by
  unfold slice? at h
  split at h
  · cases h
  · rename_i ti hti
    obtain ⟨i, u, f⟩ := hE.tif hti
    split at h
    · rename_i s hd
      rw [f.d] at hd
      obtain rfl := mkTD_str hd
      rw [hx.string]
      split at h
      · rename_i l hh _ hb
        cases h
        cases mx' with
        | some _ => exact h3.elim
        | none =>
          obtain ⟨r, _⟩ := bounds_sound (P := P) (w := w) hb h1 h2 (mx' := none) trivial (Nat.le_refl _) false s.size (Nat.le_refl _)
          refine ⟨.string (s.extract l hh), ?_, .flat _ rfl⟩
          simp [Instr.sliceAt, Instr.slice, run_underlying f.und, r]
      · cases h
    · rename_i e hd
      rw [f.d] at hd
      obtain rfl := mkTD_slice hd
      rw [hx.eq_of_flat0 rfl]
      split at h
      · rename_i p hb
        obtain ⟨l, hh, k⟩ := p
        cases hz : Nat.beq ti.es 0 with
        | true => rw [hz] at h; simp at h
        | false =>
          rw [hz] at h
          simp only [cond_false, Option.some.injEq] at h
          subst h
          obtain ⟨ei, hei, hes⟩ := es_pos (P := P) (u := .slice e) (by rw [← f.es]; exact Nat.ne_of_beq_eq_false hz) (.inl rfl)
          obtain ⟨r, q1, q2, q3, _⟩ := bounds_sound (P := P) (w := w) hb h1 h2 h3 (Nat.le_refl _) true 0 (Nat.le_refl _)
          obtain rfl : k = 0 := by omega
          obtain rfl : hh = 0 := by omega
          obtain rfl : l = 0 := by omega
          have r' : (Instr.sliceBounds true 0 0 lo' hi' mx').run P w = .ok (0, 0, 0) w := by simpa using r
          refine ⟨.slice none 0 0, ?_, .flat _ rfl⟩
          rw [run_slice_slice f.und hei r']
          rfl
      · cases h
    · rename_i e a n c hd
      rw [f.d] at hd
      obtain rfl := mkTD_slice hd
      split at h
      · rename_i l hh k cs te g hb hg
        cases hz : (Nat.beq ti.es 0 || !(Nat.ble n c)) with
        | true => rw [hz] at h; simp at h
        | false =>
          rw [hz] at h
          simp only [Bool.or_eq_false_iff, Bool.not_eq_false'] at hz
          have hnc := Nat.le_of_ble_eq_true hz.2
          have hes0 := Nat.ne_of_beq_eq_false hz.1
          obtain ⟨ei, hei, hes⟩ := es_pos (P := P) (u := .slice e) (by rw [← f.es]; exact hes0) (.inl rfl)
          have hsz : ti.es = ei.size := by rw [f.es, hes]
          simp only [cond_false] at h
          obtain ⟨bi, a', c', hbi, rfl, hcase⟩ := hx.slice_inv
          obtain ⟨row, hrow, hlen, _, hgr⟩ := hs.cells hbi hg
          cases g with
          | none =>
            obtain ⟨hgn, hsz'⟩ := hgr
            simp only [Option.some.injEq] at h
            subst h
            rcases hcase with ⟨hsp, rfl, hh2⟩ | ⟨_, _, k0, sz, N, hk0, _⟩
            · rcases hh2 with ⟨_, rfl⟩ | ⟨k0, sz, N, hk0, _⟩
              · obtain ⟨r, q1, q2, q3, q4⟩ := bounds_sound (P := P) (w := w) hb h1 h2 h3 hnc true c' (Nat.le_refl _)
                have r' : (Instr.sliceBounds true n c' lo' hi' mx').run P w = .ok (l, hh, k) w := by
                  rw [r]; cases mx with
                  | none => simp [q4 rfl]
                  | some _ => simp
                refine ⟨_, run_slice_slice f.und hei r', ?_⟩
                by_cases hkl : k = l
                · subst hkl
                  simp only [Nat.beq_refl, cond_true, if_true]
                  exact .slice a bi _ _ hbi hsp hgn
                · have : Nat.beq k l = false := by
                    cases hq : Nat.beq k l with
                    | true => exact absurd (Nat.eq_of_beq_eq_true hq) hkl
                    | false => rfl
                  rw [this, if_neg hkl]
                  simp only [cond_false, Option.map_some, add_off, addr_add hsp]
                  rw [hsz]
                  exact .slice ⟨a.block, a.off + l * ei.size, none⟩ bi _ _ hbi rfl hgn
              · rw [hgn] at hk0; cases hk0
            · rw [hgn] at hk0; cases hk0
          | some k0 =>
            obtain ⟨hgn, hk0, hpos⟩ := hgr
            dsimp only at h
            cases hq : Nat.beq k0 ti.es with
            | false => rw [hq] at h; simp at h
            | true =>
              rw [hq] at h
              have hke := Nat.eq_of_beq_eq_true hq
              simp only [cond_true, Option.some.injEq] at h
              subst h
              -- what D gives, at a tail that is empty at the known end, and elsewhere
              have hD : ∀ A : Addr, (if k = l ∧ ¬ (mx = none ∧ a.off + c * ti.es = cs.length) then a else a.add (l * ti.es)) = A →
                  (bif Nat.beq k l && !(mx.isNone && Nat.beq (a.off + c * ti.es) cs.length) then a else a.add (l * ti.es)) = A := by
                rintro A rfl
                by_cases c1 : k = l
                · by_cases c2 : mx = none
                  · by_cases c3 : a.off + c * ti.es = cs.length
                    · simp [c1, c2, c3]
                    · have : Nat.beq (a.off + c * ti.es) cs.length = false := by
                        cases hq2 : Nat.beq (a.off + c * ti.es) cs.length with
                        | true => exact absurd (Nat.eq_of_beq_eq_true hq2) c3
                        | false => rfl
                      simp [c1, c2, c3, this]
                  · cases mx with
                    | none => exact absurd rfl c2
                    | some _ => simp [c1]
                · have : Nat.beq k l = false := by
                    cases hq2 : Nat.beq k l with
                    | true => exact absurd (Nat.eq_of_beq_eq_true hq2) c1
                    | false => rfl
                  simp [c1, this]
              rw [hD _ rfl]
              rcases hcase with ⟨hsp, rfl, hh2⟩ | ⟨rfl, rfl, k1, sz, N, hk1, hoff⟩
              · rcases hh2 with ⟨hgn', _⟩ | ⟨k1, sz, N, hk1, hcc⟩
                · rw [hgn] at hgn'; cases hgn'
                · rw [hgn] at hk1
                  simp only [Option.some.injEq, Prod.mk.injEq] at hk1
                  obtain ⟨rfl, rfl, rfl⟩ := hk1
                  have hcc' : c ≤ c' := by
                    rcases hcc with rfl | ⟨e0, e1, e2⟩
                    · exact Nat.le_refl _
                    · exact e0
                  obtain ⟨r, q1, q2, q3, q4⟩ := bounds_sound (P := P) (w := w) hb h1 h2 h3 hnc true c' hcc'
                  refine ⟨_, run_slice_slice f.und hei r, ?_⟩
                  have hmx : mx = none ∨ ∃ y, mx = some y := by cases mx <;> simp
                  rcases hmx with rfl | ⟨y, rfl⟩
                  · obtain rfl := q4 rfl
                    simp only [Option.isNone_none, if_true, true_and]
                    by_cases hend : a.off + k * ti.es = cs.length
                    · rw [if_neg (by simp [hend])]
                      by_cases hkl : k = l
                      · subst hkl
                        obtain rfl : hh = k := by omega
                        simp only [Nat.sub_self]
                        obtain ⟨b1, b2⟩ := addr_add_block a (hh * ti.es)
                        by_cases hc2 : c' = hh
                        · rw [if_pos hc2]
                          exact .empty _ _ bi _ k0 _ _ (by rw [b1]; exact hbi) hgn (by rw [b2]; exact hend)
                        · rw [if_neg hc2]
                          exact .empty _ _ bi _ k0 _ _ (by rw [b1]; exact hbi) hgn (by rw [b2]; exact hend)
                      · rw [if_neg (by omega), addr_add hsp, ← hsz]
                        simp only [Option.map_some, add_off]
                        refine .sliceG ⟨a.block, a.off + l * ti.es, none⟩ bi _ _ _ k0 _ _ hbi rfl hgn ?_
                        rcases hcc with rfl | ⟨e0, e1, e2⟩
                        · exact .inl rfl
                        · refine .inr ⟨by omega, ?_, ?_⟩
                          · dsimp only
                            rw [← hke, Nat.sub_mul, Nat.add_assoc, Nat.add_sub_cancel' (Nat.mul_le_mul_right _ (by omega))]
                            exact e1
                          · dsimp only
                            rw [← hke, Nat.sub_mul, Nat.add_assoc, Nat.add_sub_cancel' (Nat.mul_le_mul_right _ (by omega))]
                            exact e2
                    · have hc2 : c' = k := by
                        rcases hcc with rfl | ⟨e0, e1, e2⟩
                        · rfl
                        · rw [hke] at e1; exact absurd e1 hend
                      subst hc2
                      simp only [hend, not_false_eq_true, and_true]
                      by_cases hkl : c' = l
                      · rw [if_pos hkl, if_pos hkl]
                        exact .sliceG a bi _ _ _ k0 _ _ hbi hsp hgn (.inl rfl)
                      · rw [if_neg hkl, if_neg hkl, addr_add hsp, ← hsz]
                        simp only [Option.map_some, add_off]
                        exact .sliceG ⟨a.block, a.off + l * ti.es, none⟩ bi _ _ _ k0 _ _ hbi rfl hgn (.inl rfl)
                  · simp only [Option.isNone_some, Bool.false_eq_true, if_false, reduceCtorEq, false_and, not_false_eq_true, and_true]
                    by_cases hkl : k = l
                    · rw [if_pos hkl, if_pos hkl]
                      exact .sliceG a bi _ _ _ k0 _ _ hbi hsp hgn (.inl rfl)
                    · rw [if_neg hkl, if_neg hkl, addr_add hsp, ← hsz]
                      simp only [Option.map_some, add_off]
                      exact .sliceG ⟨a.block, a.off + l * ti.es, none⟩ bi _ _ _ k0 _ _ hbi rfl hgn (.inl rfl)
              · rw [hgn] at hk1
                simp only [Option.some.injEq, Prod.mk.injEq] at hk1
                obtain ⟨rfl, rfl, rfl⟩ := hk1
                obtain ⟨r, q1, q2, q3, q4⟩ := bounds_sound (P := P) (w := w) hb h1 h2 h3 hnc true c' (Nat.zero_le _)
                obtain rfl : k = 0 := by omega
                obtain rfl : hh = 0 := by omega
                obtain rfl : l = 0 := by omega
                refine ⟨_, run_slice_slice f.und hei r, ?_⟩
                obtain ⟨b1, b2⟩ := addr_add_block a (0 * ti.es)
                have hA : σ (if 0 = 0 ∧ ¬ (mx = none ∧ a.off + 0 * ti.es = cs.length) then a else a.add (0 * ti.es)).block = some bi ∧ (if 0 = 0 ∧ ¬ (mx = none ∧ a.off + 0 * ti.es = cs.length) then a else a.add (0 * ti.es)).off = cs.length := by
                  split
                  · exact ⟨hbi, hoff⟩
                  · exact ⟨by rw [b1]; exact hbi, by rw [b2, hoff]; simp⟩
                have hR : ∃ a2, (if (if mx.isNone then c' else 0) = 0 then some a' else (some a').map (·.add (0 * ei.size))) = some a2 := by
                  by_cases hq2 : (if mx.isNone then c' else 0) = 0
                  · exact ⟨_, if_pos hq2⟩
                  · exact ⟨_, if_neg hq2⟩
                obtain ⟨a2, ha2⟩ := hR
                rw [ha2]
                exact .empty _ _ bi _ k0 _ _ hA.1 hgn hA.2
      · cases h
    · rename_i n e a hd
      rw [f.d] at hd
      obtain rfl := mkTD_array hd
      split at h
      · rename_i l hh k hb
        cases hz : (slack m a || Nat.beq ti.es 0) with
        | true => rw [hz] at h; simp at h
        | false =>
          rw [hz] at h
          simp only [cond_false, Option.some.injEq] at h
          subst h
          simp only [Bool.or_eq_false_iff] at hz
          obtain ⟨ei, hei, hes⟩ := es_pos (P := P) (u := .array n e) (by rw [← f.es]; exact Nat.ne_of_beq_eq_false hz.2) (.inr ⟨n, rfl⟩)
          have hsz : ti.es = ei.size := by rw [f.es, hes]
          obtain ⟨bi, hbi, hsp, rfl⟩ := hx.ptr_inv
          have hgn : bi.gr = none := by
            have h0 := hz.1
            unfold slack at h0
            split at h0
            · rename_i cs te hg
              obtain ⟨_, _, _, _, hgr⟩ := hs.cells hbi hg
              exact hgr.1
            · cases h0
          obtain ⟨r, q1, q2, q3, q4⟩ := bounds_sound (P := P) (w := w) hb h1 h2 h3 (Nat.le_refl _) false n (Nat.le_refl _)
          have r' : (Instr.sliceBounds false n n lo' hi' mx').run P w = .ok (l, hh, k) w := by
            rw [r]; cases mx with
            | none => simp [q4 rfl]
            | some _ => simp
          refine ⟨.slice (some (if k = l then ⟨bi.blk, a.off, none⟩ else (⟨bi.blk, a.off, none⟩ : Addr).add (l * ei.size))) (hh - l) (k - l), by simp only [Instr.sliceAt, Sem.run_bind, run_underlying f.und, Result.andThen_ok, Instr.sureAddr, Sem.run_pure, r', run_sizeOf hei], ?_⟩
          by_cases hkl : k = l
          · subst hkl
            simp only [Nat.beq_refl, cond_true, if_true]
            exact .slice a bi _ _ hbi hsp hgn
          · have : Nat.beq k l = false := by
              cases hq : Nat.beq k l with
              | true => exact absurd (Nat.eq_of_beq_eq_true hq) hkl
              | false => rfl
            rw [this, if_neg hkl]
            simp only [cond_false, add_off, addr_add hsp]
            rw [hsz]
            exact .slice ⟨a.block, a.off + l * ei.size, none⟩ bi _ _ hbi rfl hgn
      · cases h
    · cases h
end
end Go.D

/- append, copy, clear. -/
namespace Go.D
open Go

section
variable {E : Env} {P : Program} {σ : Sg} {m m' : M} {w : World}

theorem nbeq_false {a b : Nat} (h : a ≠ b) : Nat.beq a b = false := by
  cases hq : Nat.beq a b with
  | true => exact absurd (Nat.eq_of_beq_eq_true hq) h
  | false => rfl
theorem LRel.of_flat0 {l : List Value} (h : ∀ v ∈ l, flat0 v = true) : LRel σ l l := ⟨rfl, fun j u u' a b => by
  rw [a] at b; cases b
  exact .flat _ (h u (List.mem_of_getElem? a))⟩

theorem first_sound (hs : Sim P σ m w) {s n : Nat} {x x' : Value} {cs : List Value} (h : first? m s n x = some cs) (hx : VRel σ x x') (hn : ∀ l, length? x = some l → n ≤ l) :
    ∃ cs' : List Value, (Builtin.firstCells s n x').run P w = .ok cs'.toArray w ∧ LRel σ cs cs' := by
  unfold first? at h
  split at h
  · rename_i a len cap
    obtain ⟨bi, a', c', hbi, rfl, hcase⟩ := hx.slice_inv
    by_cases h0 : n = 0
    · subst h0
      simp only [Nat.beq_refl, cond_true, Option.some.injEq] at h
      subst h
      refine ⟨[], ?_, LRel.nil⟩
      have := run_loadCells_list (P := P) w a' [] (by simp)
      simpa [Builtin.firstCells] using this
    · rw [nbeq_false h0] at h
      simp only [cond_false] at h
      rcases hcase with ⟨hsp, rfl, _⟩ | ⟨rfl, _, _⟩
      · obtain ⟨cs', h1, h2, _, _⟩ := loadCells_sound hs hbi h
        exact ⟨cs', by simpa [Builtin.firstCells] using h1, h2⟩
      · have := hn 0 rfl; omega
  · cases h
    obtain ⟨_, _, rfl⟩ := hx.slice_nil
    exact ⟨[], by simp [Builtin.firstCells], LRel.nil⟩
  · rename_i b
    cases h
    rw [hx.string]
    refine ⟨((b.extract 0 n).data.toList.map fun b => .int .u8 b.toNat), ?_, LRel.of_flat0 ?_⟩
    · simp only [Builtin.firstCells, Sem.run_pure]
      congr 1
      apply Array.ext'
      simp
    · intro v hv
      obtain ⟨b, _, rfl⟩ := List.mem_map.1 hv
      rfl
  · cases h
theorem length_sound {x x' : Value} {n : Nat} (h : length? x = some n) (hx : VRel σ x x') : (Builtin.lenOf x').run P w = .ok n w := by
  unfold length? at h
  split at h
  · cases h
    obtain ⟨b', c', rfl, _⟩ := hx.slice_any
    rfl
  · cases h
    rw [hx.string]; rfl
  · cases h

/-- The model's append, where there is room. -/
theorem run_append_fit {t u ty e : TypeId} {i : TypeInfo} {uu : TypeDesc} (ht : P.underlying t = some (.slice e)) (hi : P.info? e = some i) (hu : P.underlying u = some uu) (hni : ∀ k, uu ≠ .int k)
    {base : Option Addr} {sl sc n : Nat} {x : Value} {new : List Value} {w' : World} (hl : (Builtin.lenOf x).run P w = .ok n w) (hf : (Builtin.firstCells i.size n x).run P w = .ok new.toArray w) (hle : sl + n ≤ sc)
    (hst : (match base with | some a => Go.storeCells (a.add (sl * i.size)) new | none => pure ()).run P w = .ok () w') :
    (Builtin.append_ #[t, u] ty #[.slice base sl sc, x]).run P w = .ok (.slice base (sl + n) sc) w' := by
  cases base with
  | none =>
    simp only [Sem.run_pure] at hst
    cases hst
    simp [Builtin.append_, run_underlying ht, run_underlying hu, run_sizeOf hi, hl, hf, hle]
  | some a =>
    simp only at hst
    simp [Builtin.append_, run_underlying ht, run_underlying hu, run_sizeOf hi, hl, hf, hle, hst]
/-- The model's append, where there is no room. -/
theorem run_append_new {t u ty e : TypeId} {i : TypeInfo} {uu : TypeDesc} {z : Value} (ht : P.underlying t = some (.slice e)) (hi : P.info? e = some i) (hu : P.underlying u = some uu) (hni : ∀ k, uu ≠ .int k)
    (hz : i.zero = some z) {base : Option Addr} {sl sc n : Nat} {x : Value} {old new : List Value} (hl : (Builtin.lenOf x).run P w = .ok n w) (ho : (Builtin.firstCells i.size sl (.slice base sl sc)).run P w.drew = .ok old.toArray w.drew)
    (hf : (Builtin.firstCells i.size n x).run P w.drew = .ok new.toArray w.drew) (hgt : sc < sl + n) (hb : i.bytes ≤ 65536) (hn : sl + n ≤ 268435456) :
    ∃ N, sl + n ≤ N ∧ (Builtin.append_ #[t, u] ty #[.slice base sl sc, x]).run P w = .ok (.slice (some ⟨w.heap.size, 0, none⟩) (sl + n) N) (w.drew.alloc (.cells (old ++ new ++ (Builtin.zeroCells z.cells (N - (sl + n))).toList).toArray e)) := by
  refine ⟨grownCap w (sl + n) sc e, grownCap_ge _ _ _ _, ?_⟩
  have h1 : ¬ (sl + n ≤ sc) := by omega
  have hfit := growslice_fits (bytes := i.bytes) hgt (by
    calc (sl + n) * i.bytes ≤ 268435456 * 65536 := Nat.mul_le_mul hn hb
      _ ≤ _ := by decide)
  have h48' : ¬ (281474976710656 < Builtin.nextslicecap (sl + n) sc * i.bytes) := by omega
  have h63' : ¬ (9223372036854775807 < ((sl : Int) + (n : Int))) := by omega
  simp [Builtin.append_, run_underlying ht, run_underlying hu, sizeOf, typeInfo, zeroValue, hi, hz, hl, h1, h48', h63', Question.forced, hf, ho, newRow, grownCap]
  congr 2
  apply Array.ext'
  simp

/-- A row that append has made. -/
theorem grown_row (hs : Sim P σ m w) {old news old' new' rest : List Value} {e k sl n N : Nat} (h1 : LRel σ old old') (h2 : LRel σ news new') (l1 : old.length = sl * k) (l2 : news.length = n * k) (hk : 0 < k) (hn : 0 < sl + n)
    (hN : sl + n ≤ N) (lr : rest.length = (N - (sl + n)) * k) :
    Ev P σ m w (σ.add m.n ⟨w.heap.size, some (k, (sl + n) * k, N * k)⟩) (m.push (.cells (old ++ news) e (some k))) (w.drew.alloc (.cells (old' ++ new' ++ rest).toArray e)) ∧
    VRel (σ.add m.n ⟨w.heap.size, some (k, (sl + n) * k, N * k)⟩) (.slice (some ⟨m.n, 0, none⟩) (sl + n) (sl + n)) (.slice (some ⟨w.heap.size, 0, none⟩) (sl + n) N) := by
  have hlen : (old ++ news).length = (sl + n) * k := by rw [List.length_append, l1, l2, Nat.add_mul]
  have hlen' : (old' ++ new').length = (sl + n) * k := by rw [← hlen, (h1.append h2).1]
  have hsz : ((old' ++ new' ++ rest).toArray).size = N * k := by
    rw [List.size_toArray, List.length_append, hlen', lr, ← Nat.add_mul]
    congr 1; omega
  have hpos : 0 < (sl + n) * k := Nat.mul_pos hn hk
  have hle : (sl + n) * k ≤ N * k := Nat.mul_le_mul_right _ hN
  have hs' : Sim P σ m w.drew := hs.of_heap rfl
  have hrow := new_row (g := some k) (e := e) (c := old ++ news) (c' := (old' ++ new' ++ rest).toArray) hs' (by rw [hlen, hsz]; exact hle) (by
    rw [hlen, ← hlen']
    simp only [List.take_left']
    exact h1.append h2) (by
    refine ⟨?_, hk, by rw [hlen]; exact hpos⟩
    rfl)
  have he : grOf (old ++ news).length ((old' ++ new' ++ rest).toArray).size (some k) = some (k, (sl + n) * k, N * k) := by rw [hlen, hsz]; rfl
  rw [he] at hrow
  refine ⟨(Ev.of_heap hs rfl rfl rfl rfl : Ev P σ m w σ m w.drew).trans hrow, ?_⟩
  exact .sliceG ⟨m.n, 0, none⟩ ⟨w.heap.size, _⟩ _ _ _ k ((sl + n) * k) (N * k) (Sg.add_same _ _) rfl rfl (.inr ⟨hN, by simp, by simp⟩)

theorem append_sound (hE : E.OK P) (hs : Sim P σ m w) {t u ty : TypeId} {s x s' x' v : Value} (h : append? E m t u s x = some (v, m')) (hx : VRel σ s s') (hy : VRel σ x x') :
    Res P σ m w (Builtin.append_ #[t, u] ty #[s', x']) v m' := by
  unfold append? at h
  split at h
  · rename_i ti ui base sl sc n hti hui hlx
    obtain ⟨i, ut, f⟩ := hE.tif hti
    obtain ⟨iu, uu, fu⟩ := hE.tif hui
    split at h
    · cases h
    · rename_i e hd hni
      rw [f.d] at hd
      obtain rfl := mkTD_slice hd
      have hni' : ∀ k, uu ≠ .int k := by
        rintro k rfl
        exact hni k fu.d
      split at h
      · rename_i ei news hei hfn
        obtain ⟨ie, ue, fe⟩ := hE.tif hei
        have hsz : ti.es = ie.size := by rw [f.es]; simp [esOf, fe.info]
        cases hb : (Nat.beq ti.es 0 || Nat.blt 65536 ei.bytes || !news.all one || Nat.blt 268435456 (sl + n) || !Nat.beq news.length (n * ti.es) || !zeroLen ei.zero ti.es) with
        | true => rw [hb] at h; simp at h
        | false =>
          rw [hb] at h
          simp only [cond_false] at h
          simp only [Bool.or_eq_false_iff, Bool.not_eq_false'] at hb
          obtain ⟨⟨⟨⟨⟨b1, b2⟩, b3⟩, b4⟩, b5⟩, b6⟩ := hb
          have hes0 := Nat.ne_of_beq_eq_false b1
          have hby : ie.bytes ≤ 65536 := by rw [blt_iff] at b2; have := fe.bytes; simp at b2; omega
          have hneed : sl + n ≤ 268435456 := by rw [blt_iff] at b4; simp at b4; omega
          have hnl := Nat.eq_of_beq_eq_true b5
          obtain ⟨z, hz, hzl⟩ : ∃ z, ie.zero = some z ∧ z.cells.size = ie.size := by
            cases hzz : ei.zero with
            | none => rw [hzz] at b6; simp [zeroLen] at b6
            | some z =>
              rw [hzz] at b6
              have := Nat.eq_of_beq_eq_true b6
              have hzr := (VRel.of_flat2 (σ := σ) (hE.flat hei hzz)).cells.1
              refine ⟨z, by rw [← fe.zero]; exact hzz, ?_⟩
              simp only [Array.length_toList] at hzr
              omega
          have hln := fun w => length_sound (P := P) (w := w) hlx hy
          have hfirst := fun (w : World) (hs : Sim P σ m w) => first_sound (P := P) hs hfn hy (fun l hl => by rw [hlx] at hl; cases hl; exact Nat.le_refl _)
          rw [hsz] at hfirst hnl
          cases hfit : Nat.ble (sl + n) sc with
          | true =>
            rw [hfit] at h
            have hle := Nat.le_of_ble_eq_true hfit
            simp only [cond_true] at h
            obtain ⟨new', hf', hr'⟩ := hfirst w hs
            cases base with
            | none =>
              obtain ⟨rfl, rfl, rfl⟩ := hx.slice_nil
              simp only at h
              obtain rfl : n = 0 := by omega
              simp only [Nat.beq_refl, cond_true, Option.some.injEq, Prod.mk.injEq] at h
              obtain ⟨rfl, rfl⟩ := h
              refine Res.pure hs (run_append_fit f.und fe.info fu.und hni' (base := none) (hln w) hf' (Nat.le_refl _) rfl) (.flat _ rfl)
            | some a =>
              obtain ⟨bi, a', c', hbi, rfl, hcase⟩ := hx.slice_inv
              by_cases h0 : n = 0
              · subst h0
                simp only [Nat.beq_refl, cond_true, Option.map_some, Option.some.injEq, Prod.mk.injEq] at h
                obtain ⟨rfl, rfl⟩ := h
                have hnil : new' = [] := by
                  have := hr'.1
                  rw [hnl] at this
                  simpa using this.symm
                subst hnil
                have hcc' : sl + 0 ≤ c' := by
                  rcases hcase with ⟨_, _, ⟨_, rfl⟩ | ⟨k, sz, N, hk, rfl | ⟨e0, e1, e2⟩⟩⟩ | ⟨rfl, _⟩ <;> omega
                refine Res.pure hs (run_append_fit f.und fe.info fu.und hni' (base := some a') (hln w) hf' hcc' rfl) hx
              · rw [nbeq_false h0] at h
                simp only [cond_false, Option.map_eq_some_iff, Prod.mk.injEq] at h
                obtain ⟨m2, hst, rfl, rfl⟩ := h
                rcases hcase with ⟨hsp, rfl, hcc⟩ | ⟨rfl, rfl, _⟩
                · have hcc' : sl + n ≤ c' := by
                    rcases hcc with ⟨_, rfl⟩ | ⟨k, sz, N, hk, rfl | ⟨e0, e1, e2⟩⟩ <;> omega
                  rw [addr_add hsp, hsz] at hst
                  obtain ⟨w', hw1, hw2, _⟩ := storeCells_sound (a := ⟨a.block, a.off + sl * ie.size, none⟩) hs hbi hr' hst
                  refine ⟨σ, w', _, run_append_fit f.und fe.info fu.und hni' (base := some ⟨bi.blk, a.off, none⟩) (hln w) hf' hcc' (by simp only [add_off]; exact hw1), ?_, hw2⟩
                  rcases hcc with ⟨hg, rfl⟩ | ⟨k, sz, N, hk, hc⟩
                  · exact .slice a bi _ _ hbi hsp hg
                  · exact .sliceG a bi _ _ _ k sz N hbi hsp hk hc
                · omega
          | false =>
            rw [hfit] at h
            have hgt : sc < sl + n := by
              rcases Nat.lt_or_ge sc (sl + n) with hh | hh
              · exact hh
              · rw [Nat.ble_eq_true_of_le hh] at hfit; cases hfit
            simp only [cond_false] at h
            have hkp : 0 < ti.es := by omega
            -- the model makes a new row
            have fresh : ∀ (m1 : M) (base' : Option Addr) (c' : Nat) (old old' : List Value), Ev P σ m w σ m1 w → m1.n = m.n →
                (Builtin.firstCells ie.size sl (.slice base' sl c')).run P w.drew = .ok old'.toArray w.drew → LRel σ old old' → old.length = sl * ti.es → c' < sl + n →
                s' = .slice base' sl c' → v = .slice (some ⟨m.n, 0, none⟩) (sl + n) (sl + n) → m' = m1.push (.cells (old ++ news) e (some ti.es)) → Res P σ m w (Builtin.append_ #[t, u] ty #[s', x']) v m' := by
              rintro m1 base' c' old old' he hmn ho hro hol hc rfl rfl rfl
              obtain ⟨new', hf', hr'⟩ := hfirst w.drew (hs.of_heap rfl)
              obtain ⟨N, hN, hrun⟩ := run_append_new (ty := ty) f.und fe.info fu.und hni' hz (hln w) ho hf' hc hby hneed
              obtain ⟨g1, g2⟩ := grown_row (e := e) (rest := (Builtin.zeroCells z.cells (N - (sl + n))).toList) he.sim hro hr' hol (by rw [hnl, hsz]) hkp (by omega) hN (by
                rw [Array.length_toList, size_zeroCells, hzl, hsz])
              refine ⟨_, _, _, hrun, ?_, he.trans g1⟩
              rw [hmn] at g2 ⊢
              exact g2
            unfold grow? at h
            split at h
            · cases hq : (Nat.beq sl 0 && Nat.beq sc 0) with
              | false => rw [hq] at h; simp at h
              | true =>
                rw [hq] at h
                simp only [cond_true, Option.some.injEq, Prod.mk.injEq] at h
                simp only [Bool.and_eq_true] at hq
                obtain rfl := Nat.eq_of_beq_eq_true hq.1
                obtain rfl := Nat.eq_of_beq_eq_true hq.2
                obtain ⟨rfl, rfl⟩ := h
                refine fresh m none 0 [] [] (Ev.refl hs) rfl (by simp [Builtin.firstCells]) LRel.nil (by simp) hgt (hx.eq_of_flat0 rfl) rfl rfl
            · rename_i a
              obtain ⟨bi, a', c', hbi, hx', hcase⟩ := hx.slice_inv
              split at h
              · rename_i cs te g old hg hold
                obtain ⟨row, hrow, hlen, hrr, hgr⟩ := hs.cells hbi hg
                have hfo : ∀ w1, Sim P σ m w1 → ∃ old', (Builtin.firstCells ie.size sl (.slice (some a') sl c')).run P w1 = .ok (old' : List Value).toArray w1 ∧ LRel σ old old' := by
                  intro w1 h1
                  have hfirst0 : first? m ti.es sl (.slice (some a) sl sc) = some old := hold
                  have := first_sound (P := P) h1 hfirst0 hx (fun l hl => by cases hl; exact Nat.le_refl _)
                  rw [hx', hsz] at this
                  exact this
                have hol : old.length = sl * ti.es := by
                  by_cases h0 : sl = 0
                  · subst h0
                    simp only [Nat.beq_refl, cond_true, Option.some.injEq] at hold
                    subst hold; simp
                  · rw [nbeq_false h0] at hold
                    simp only [cond_false] at hold
                    obtain ⟨_, _, _, hl, _⟩ := loadCells_sound hs hbi hold
                    exact hl
                obtain ⟨old', hfo', hro⟩ := hfo w.drew (hs.of_heap rfl)
                cases hq : (g.isNone || (g == some ti.es && Nat.blt (a.off + sc * ti.es) cs.length)) with
                | true =>
                  rw [hq] at h
                  simp only [cond_true, Option.some.injEq, Prod.mk.injEq] at h
                  obtain ⟨rfl, rfl⟩ := h
                  refine fresh m (some a') c' old old' (Ev.refl hs) rfl hfo' hro hol ?_ hx' rfl rfl
                  cases g with
                  | none =>
                    have hg0 := hgr.1
                    rcases hcase with ⟨_, _, ⟨_, rfl⟩ | ⟨k, sz, N, hk, _⟩⟩ | ⟨_, _, k, sz, N, hk, _⟩
                    · exact hgt
                    · rw [hg0] at hk; cases hk
                    · rw [hg0] at hk; cases hk
                  | some k0 =>
                    obtain ⟨hgr1, hgr2, hgr3⟩ := hgr
                    simp only [Option.isNone_some, Bool.false_or, Bool.and_eq_true, beq_iff_eq, Option.some.injEq] at hq
                    obtain ⟨rfl, hq⟩ := hq
                    rw [blt_iff] at hq
                    simp only [decide_eq_true_eq] at hq
                    rcases hcase with ⟨_, _, ⟨_, rfl⟩ | ⟨k, sz, N, hk, hcc⟩⟩ | ⟨_, rfl, k, sz, N, hk, hoff⟩
                    · exact hgt
                    · rw [hgr1] at hk
                      simp only [Option.some.injEq, Prod.mk.injEq] at hk
                      obtain ⟨rfl, rfl, rfl⟩ := hk
                      rcases hcc with rfl | ⟨e0, e1, e2⟩
                      · exact hgt
                      · omega
                    · rw [hgr1] at hk
                      simp only [Option.some.injEq, Prod.mk.injEq] at hk
                      obtain ⟨rfl, rfl, rfl⟩ := hk
                      omega
                | false =>
                  rw [hq] at h
                  simp only [cond_false] at h
                  cases hq2 : (g == some ti.es && Nat.beq a.off 0 && a.spot.isNone && Nat.beq (sl * ti.es) cs.length && Nat.beq sc sl && Nat.beq te e) with
                  | false => rw [hq2] at h; simp at h
                  | true =>
                    rw [hq2] at h
                    simp only [cond_true, Option.some.injEq, Prod.mk.injEq] at h
                    obtain ⟨rfl, rfl⟩ := h
                    simp only [Bool.and_eq_true] at hq2
                    obtain ⟨⟨⟨⟨⟨q1, q2⟩, q3⟩, q4⟩, q5⟩, q6⟩ := hq2
                    obtain rfl := Nat.eq_of_beq_eq_true q6
                    have q1 : g = some ti.es := by simpa using q1
                    subst q1
                    have q2 := Nat.eq_of_beq_eq_true q2
                    have q4 := Nat.eq_of_beq_eq_true q4
                    obtain rfl := Nat.eq_of_beq_eq_true q5
                    obtain ⟨hgr1, hgr2, hgr3⟩ := hgr
                    have hdead : m.get a.block ≠ .dead := by rw [hg]; simp
                    by_cases hc2 : c' < sc + n
                    · have hw := Ev.write (w' := w) (ob := .dead) hs hbi hdead trivial (fun _ _ => rfl) rfl rfl rfl rfl
                      exact fresh _ (some a') c' old old' hw rfl hfo' hro hol hc2 hx' rfl rfl
                    · -- the model writes into the row's own room
                      have hsl : sc ≠ 0 := by rintro rfl; simp at q4; omega
                      rcases hcase with ⟨hsp, rfl, hcc⟩ | ⟨rfl, _⟩
                      · rcases hcc with ⟨hg0, _⟩ | ⟨k, sz, N, hk, hcc⟩
                        · rw [hgr1] at hg0; cases hg0
                        · rw [hgr1] at hk
                          simp only [Option.some.injEq, Prod.mk.injEq] at hk
                          obtain ⟨rfl, rfl, rfl⟩ := hk
                          rcases hcc with rfl | ⟨e0, e1, e2⟩
                          · omega
                          · obtain ⟨new', hf', hr'⟩ := hfirst w hs
                            have hold' : old = cs := by
                              rw [nbeq_false hsl] at hold
                              simp only [cond_false] at hold
                              unfold loadCells at hold
                              rw [hg] at hold
                              simp only [q2, Nat.zero_add, q4, List.drop_zero, List.take_length] at hold
                              cases hq3 : (a.spot.isNone && Nat.ble cs.length cs.length) with
                              | false => rw [hq3] at hold; simp at hold
                              | true => rw [hq3] at hold; simpa using hold.symm
                            subst hold'
                            have hnl' : new'.length = n * ti.es := by rw [← hr'.1, hnl, hsz]
                            have hroom : (sc + n) * ti.es ≤ row.size := by
                              rw [← e2, q2, Nat.zero_add]
                              exact Nat.mul_le_mul_right _ (by omega)
                            rw [Nat.add_mul] at hroom
                            have hone := hr'.ones b3
                            have hst := run_storeCells_at (P := P) bi.blk (sc * ti.es) te new' 0 row w hrow (by omega) hone
                            simp only [Nat.add_zero] at hst
                            have hla : (row.toList.take (sc * ti.es) ++ new').length = (sc + n) * ti.es := by
                              rw [List.length_append, List.length_take, hnl', Nat.add_mul, Array.length_toList]; omega
                            have hlr : (row.toList.take (sc * ti.es) ++ new' ++ row.toList.drop (sc * ti.es + new'.length)).length = row.size := by
                              rw [List.length_append, hla, List.length_drop, hnl', Array.length_toList, Nat.add_mul]; omega
                            have hlo : (old ++ news).length = (sc + n) * ti.es := by rw [List.length_append, hol, hnl, ← hsz, Nat.add_mul]
                            have hrel : LRel σ (old ++ news) (row.toList.take (sc * ti.es) ++ new') := by
                              rw [q4]; exact hrr.append hr'
                            have hEv := Ev.regrow (ob := .cells (old ++ news) te (some ti.es)) (gr := some (ti.es, (sc + n) * ti.es, row.size)) (w' := w.setRow bi.blk (row.toList.take (sc * ti.es) ++ new' ++ row.toList.drop (sc * ti.es + new'.length)).toArray) hs hbi hdead
                              (by
                                refine ⟨_, setRow_heap w bi.blk row _ te _ hrow, ?_, ?_, ?_⟩
                                · rw [hlo, List.size_toArray, hlr, Nat.add_mul]; exact hroom
                                · rw [hlo, ← hla]
                                  simp only [List.take_left']
                                  exact hrel.mono (Sg.le_add hs.next_none)
                                · have hlr2 := hlr
                                  rw [← List.size_toArray] at hlr2
                                  rw [hlo, hlr2]
                                  exact ⟨rfl, hkp, Nat.mul_pos (by omega) hkp⟩)
                              (fun B hB => by
                                simp only [World.setRow, Array.getElem?_modify]
                                rw [if_neg (fun e => hB e.symm)])
                              (by simp [World.setRow]) rfl rfl rfl
                            have hrun := run_append_fit (ty := ty) f.und fe.info fu.und hni' (base := some ⟨bi.blk, a.off, none⟩) (hln w) hf' (show sc + n ≤ c' by omega) (by
                              simp only [add_off, q2, Nat.zero_add, ← hsz]
                              exact hst)
                            rw [hx']
                            refine ⟨_, _, _, hrun, ?_, hEv⟩
                            rw [q2]
                            exact .sliceG ⟨m.n, 0, none⟩ ⟨bi.blk, some (ti.es, (sc + n) * ti.es, row.size)⟩ _ _ _ ti.es ((sc + n) * ti.es) row.size (Sg.add_same _ _) rfl rfl (.inr ⟨by omega, by simp, by rw [← e2, q2]⟩)
                      · omega
              · cases h
      · cases h
    · cases h
  · cases h
end
end Go.D
