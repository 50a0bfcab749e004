/- Slice expressions, len, cap, min, max, extract. append, copy, clear. -/
import Derived.Test.YtbpmlholiohkpaaGreatDoorD2
import Derived.Laws.Append
import Derived.Laws.AppendOwn
/- Slice expressions, len, cap, min, max, extract. -/
namespace Go.D
open Go

section
variable {E : Env} {P : Program} {σ : Sg} {m m' : M} {w : World}

theorem VRel.int_inv {x x' : Value} {k : IntKind} {n : Int} (h : VRel σ x x') (hx : x = .int k n) : x' = .int k n := by subst hx; exact h.int

theorem bound_sound {x x' : Value} {y n : Nat} (h : bound? x y = some n) (hx : VRel σ x x') (y' : Nat) (hy : y ≤ y') (c : BoundsCode) : (Instr.sliceBound x' y' c).run P w = .ok n w ∧ n ≤ y := by
  unfold bound? at h
  split at h
  · rename_i k i
    split at h
    · rename_i hc
      cases h
      rw [hx.int]
      refine ⟨?_, by omega⟩
      have h2 : 0 ≤ i ∧ i ≤ (y' : Int) := by omega
      simp only [Instr.sliceBound, Sem.run_bind, asIntOf, Sem.run_pure, Result.andThen_ok, if_pos h2]
    · cases h
  · cases h

/-- A bound that may be left out. -/
def ORel (σ : Sg) (x x' : Option Value) : Prop := match x, x' with
  | none, none => True
  | some v, some v' => VRel σ v v'
  | _, _ => False

theorem bounds_sound {len cap : Nat} {lo hi mx lo' hi' mx' : Option Value} {l h k : Nat} (e : bounds? len cap lo hi mx = some (l, h, k)) (h1 : ORel σ lo lo') (h2 : ORel σ hi hi') (h3 : ORel σ mx mx')
    (hlc : len ≤ cap) (b : Bool) (cap' : Nat) (hc : cap ≤ cap') :
    (Instr.sliceBounds b len cap' lo' hi' mx').run P w = .ok (l, h, if mx.isNone then cap' else k) w ∧ l ≤ h ∧ h ≤ k ∧ k ≤ cap ∧ (mx = none → k = cap) := by
  unfold bounds? at e
  split at e
  · cases e
  · rename_i m hm
    split at e
    · cases e
    · rename_i h' hh
      split at e
      · cases e
      · rename_i l' hl
        cases e
        cases mx with
        | some vm =>
          cases mx' with
          | none => exact h3.elim
          | some vm' =>
            obtain ⟨r1, r2⟩ := bound_sound (P := P) (w := w) hm h3 cap' hc (if b then .slice3Acap else .slice3Alen)
            cases hi with
            | none => simp at hh
            | some vh =>
              cases hi' with
              | none => exact h2.elim
              | some vh' =>
                simp only at hh
                obtain ⟨s1, s2⟩ := bound_sound (P := P) (w := w) hh h2 k (Nat.le_refl _) .slice3B
                cases lo with
                | none =>
                  cases lo' with
                  | some _ => exact h1.elim
                  | none =>
                    simp only [Option.some.injEq] at hl
                    subst hl
                    refine ⟨?_, by omega, s2, r2, by simp⟩
                    simp only [Instr.sliceBounds, Sem.run_bind, r1, s1, Sem.run_pure, Result.andThen_ok]
                    rfl
                | some vl =>
                  cases lo' with
                  | none => exact h1.elim
                  | some vl' =>
                    simp only at hl
                    obtain ⟨t1, t2⟩ := bound_sound (P := P) (w := w) hl h1 h (Nat.le_refl _) .slice3C
                    refine ⟨?_, t2, s2, r2, by simp⟩
                    simp [Instr.sliceBounds, Sem.run_bind, r1, s1, t1]
        | none =>
          cases mx' with
          | some _ => exact h3.elim
          | none =>
            simp only [Option.some.injEq] at hm
            subst hm
            have hhk : (match hi' with | some v => Instr.sliceBound v cap' (if b then .sliceAcap else .sliceAlen) | none => pure len : Sem Nat).run P w = .ok h w ∧ h ≤ cap := by
              cases hi with
              | none =>
                cases hi' with
                | some _ => exact h2.elim
                | none => simp only [Option.some.injEq] at hh; subst hh; exact ⟨rfl, hlc⟩
              | some vh =>
                cases hi' with
                | none => exact h2.elim
                | some vh' => exact bound_sound (P := P) (w := w) hh h2 cap' hc _
            have hll : (match lo' with | some v => Instr.sliceBound v h .sliceB | none => pure 0 : Sem Nat).run P w = .ok l w ∧ l ≤ h := by
              cases lo with
              | none =>
                cases lo' with
                | some _ => exact h1.elim
                | none => simp only [Option.some.injEq] at hl; subst hl; exact ⟨rfl, by omega⟩
              | some vl =>
                cases lo' with
                | none => exact h1.elim
                | some vl' => exact bound_sound (P := P) (w := w) hl h1 h (Nat.le_refl _) _
            refine ⟨?_, hll.2, hhk.2, Nat.le_refl _, fun _ => rfl⟩
            have e1 := hhk.1
            have e2 := hll.1
            simp only [Instr.sliceBounds, Sem.run_bind, Sem.run_pure, Result.andThen_ok]
            cases hi' <;> cases lo' <;> simp_all

theorem addr_add {a : Addr} (hs : a.spot = none) (n : Nat) : a.add n = ⟨a.block, a.off + n, none⟩ := by
  obtain ⟨b, o, s⟩ := a
  simp only at hs
  subst hs
  rw [add_off]
theorem addr_add_block (a : Addr) (n : Nat) : (a.add n).block = a.block ∧ (a.add n).off = a.off + n := by
  unfold Addr.add
  split <;> simp_all

theorem run_slice_slice {t e : TypeId} {ei : TypeInfo} {a : Option Addr} {n c l h k : Nat} {lo hi mx : Option Value} (hu : P.underlying t = some (.slice e)) (he : P.info? e = some ei)
    (hb : (Instr.sliceBounds true n c lo hi mx).run P w = .ok (l, h, k) w) : (Instr.sliceAt t (.slice a n c) lo hi mx).run P w = .ok (.slice (if k = l then a else a.map (·.add (l * ei.size))) (h - l) (k - l)) w := by
  simp only [Instr.sliceAt, Instr.slice, Sem.run_bind, run_underlying hu, Result.andThen_ok, hb, run_sizeOf he, Sem.run_pure]

theorem slice_sound (hE : E.OK P) (hs : Sim P σ m w) {t : TypeId} {x x' v : Value} {lo hi mx lo' hi' mx' : Option Value} (h : slice? E m t x lo hi mx = some v) (hx : VRel σ x x') (h1 : ORel σ lo lo') (h2 : ORel σ hi hi') (h3 : ORel σ mx mx') :
    ∃ v', (Instr.sliceAt t x' lo' hi' mx').run P w = .ok v' w ∧ VRel σ v v' := by
  unfold slice? at h
  split at h
  · cases h
  · rename_i ti hti
    obtain ⟨i, u, f⟩ := hE.tif hti
    split at h
    · rename_i s hd
      rw [f.d] at hd
      obtain rfl := mkTD_str hd
      rw [hx.string]
      split at h
      · rename_i l hh _ hb
        cases h
        cases mx' with
        | some _ => exact h3.elim
        | none =>
          obtain ⟨r, _⟩ := bounds_sound (P := P) (w := w) hb h1 h2 (mx' := none) trivial (Nat.le_refl _) false s.size (Nat.le_refl _)
          refine ⟨.string (s.extract l hh), ?_, .flat _ rfl⟩
          simp [Instr.sliceAt, Instr.slice, run_underlying f.und, r]
      · cases h
    · rename_i e hd
      rw [f.d] at hd
      obtain rfl := mkTD_slice hd
      rw [hx.eq_of_flat0 rfl]
      split at h
      · rename_i p hb
        obtain ⟨l, hh, k⟩ := p
        cases hz : Nat.beq ti.es 0 with
        | true => rw [hz] at h; simp at h
        | false =>
          rw [hz] at h
          simp only [cond_false, Option.some.injEq] at h
          subst h
          obtain ⟨ei, hei, hes⟩ := es_pos (P := P) (u := .slice e) (by rw [← f.es]; exact Nat.ne_of_beq_eq_false hz) (.inl rfl)
          obtain ⟨r, q1, q2, q3, _⟩ := bounds_sound (P := P) (w := w) hb h1 h2 h3 (Nat.le_refl _) true 0 (Nat.le_refl _)
          obtain rfl : k = 0 := by omega
          obtain rfl : hh = 0 := by omega
          obtain rfl : l = 0 := by omega
          have r' : (Instr.sliceBounds true 0 0 lo' hi' mx').run P w = .ok (0, 0, 0) w := by simpa using r
          refine ⟨.slice none 0 0, ?_, .flat _ rfl⟩
          rw [run_slice_slice f.und hei r']
          rfl
      · cases h
    · rename_i e a n c hd
      rw [f.d] at hd
      obtain rfl := mkTD_slice hd
      split at h
      · rename_i l hh k cs te g hb hg
        cases hz : (Nat.beq ti.es 0 || !(Nat.ble n c)) with
        | true => rw [hz] at h; simp at h
        | false =>
          rw [hz] at h
          simp only [Bool.or_eq_false_iff, Bool.not_eq_false'] at hz
          have hnc := Nat.le_of_ble_eq_true hz.2
          have hes0 := Nat.ne_of_beq_eq_false hz.1
          obtain ⟨ei, hei, hes⟩ := es_pos (P := P) (u := .slice e) (by rw [← f.es]; exact hes0) (.inl rfl)
          have hsz : ti.es = ei.size := by rw [f.es, hes]
          simp only [cond_false] at h
          obtain ⟨bi, a', c', hbi, rfl, hcase⟩ := hx.slice_inv
          obtain ⟨row, hrow, hlen, _, hgr⟩ := hs.cells hbi hg
          cases g with
          | none =>
            obtain ⟨hgn, hsz'⟩ := hgr
            simp only [Option.some.injEq] at h
            subst h
            rcases hcase with ⟨hsp, rfl, hh2⟩ | ⟨_, _, k0, sz, N, hk0, _⟩
            · rcases hh2 with ⟨_, rfl⟩ | ⟨k0, sz, N, hk0, _⟩
              · obtain ⟨r, q1, q2, q3, q4⟩ := bounds_sound (P := P) (w := w) hb h1 h2 h3 hnc true c' (Nat.le_refl _)
                have r' : (Instr.sliceBounds true n c' lo' hi' mx').run P w = .ok (l, hh, k) w := by
                  rw [r]; cases mx with
                  | none => simp [q4 rfl]
                  | some _ => simp
                refine ⟨_, run_slice_slice f.und hei r', ?_⟩
                by_cases hkl : k = l
                · subst hkl
                  simp only [Nat.beq_refl, cond_true, if_true]
                  exact .slice a bi _ _ hbi hsp hgn
                · have : Nat.beq k l = false := by
                    cases hq : Nat.beq k l with
                    | true => exact absurd (Nat.eq_of_beq_eq_true hq) hkl
                    | false => rfl
                  rw [this, if_neg hkl]
                  simp only [cond_false, Option.map_some, add_off, addr_add hsp]
                  rw [hsz]
                  exact .slice ⟨a.block, a.off + l * ei.size, none⟩ bi _ _ hbi rfl hgn
              · rw [hgn] at hk0; cases hk0
            · rw [hgn] at hk0; cases hk0
          | some k0 =>
            obtain ⟨hgn, hk0, hpos⟩ := hgr
            dsimp only at h
            cases hq : Nat.beq k0 ti.es with
            | false => rw [hq] at h; simp at h
            | true =>
              rw [hq] at h
              have hke := Nat.eq_of_beq_eq_true hq
              simp only [cond_true, Option.some.injEq] at h
              subst h
              -- what D gives, at a tail that is empty at the known end, and elsewhere
              have hD : ∀ A : Addr, (if k = l ∧ ¬ (mx = none ∧ a.off + c * ti.es = cs.length) then a else a.add (l * ti.es)) = A →
                  (bif Nat.beq k l && !(mx.isNone && Nat.beq (a.off + c * ti.es) cs.length) then a else a.add (l * ti.es)) = A := by
                rintro A rfl
                by_cases c1 : k = l
                · by_cases c2 : mx = none
                  · by_cases c3 : a.off + c * ti.es = cs.length
                    · simp [c1, c2, c3]
                    · have : Nat.beq (a.off + c * ti.es) cs.length = false := by
                        cases hq2 : Nat.beq (a.off + c * ti.es) cs.length with
                        | true => exact absurd (Nat.eq_of_beq_eq_true hq2) c3
                        | false => rfl
                      simp [c1, c2, c3, this]
                  · cases mx with
                    | none => exact absurd rfl c2
                    | some _ => simp [c1]
                · have : Nat.beq k l = false := by
                    cases hq2 : Nat.beq k l with
                    | true => exact absurd (Nat.eq_of_beq_eq_true hq2) c1
                    | false => rfl
                  simp [c1, this]
              rw [hD _ rfl]
              rcases hcase with ⟨hsp, rfl, hh2⟩ | ⟨rfl, rfl, k1, sz, N, hk1, hoff⟩
              · rcases hh2 with ⟨hgn', _⟩ | ⟨k1, sz, N, hk1, hcc⟩
                · rw [hgn] at hgn'; cases hgn'
                · rw [hgn] at hk1
                  simp only [Option.some.injEq, Prod.mk.injEq] at hk1
                  obtain ⟨rfl, rfl, rfl⟩ := hk1
                  have hcc' : c ≤ c' := by
                    rcases hcc with rfl | ⟨e0, e1, e2⟩
                    · exact Nat.le_refl _
                    · exact e0
                  obtain ⟨r, q1, q2, q3, q4⟩ := bounds_sound (P := P) (w := w) hb h1 h2 h3 hnc true c' hcc'
                  refine ⟨_, run_slice_slice f.und hei r, ?_⟩
                  have hmx : mx = none ∨ ∃ y, mx = some y := by cases mx <;> simp
                  rcases hmx with rfl | ⟨y, rfl⟩
                  · obtain rfl := q4 rfl
                    simp only [Option.isNone_none, if_true, true_and]
                    by_cases hend : a.off + k * ti.es = cs.length
                    · rw [if_neg (by simp [hend])]
                      by_cases hkl : k = l
                      · subst hkl
                        obtain rfl : hh = k := by omega
                        simp only [Nat.sub_self]
                        obtain ⟨b1, b2⟩ := addr_add_block a (hh * ti.es)
                        by_cases hc2 : c' = hh
                        · rw [if_pos hc2]
                          exact .empty _ _ bi _ k0 _ _ (by rw [b1]; exact hbi) hgn (by rw [b2]; exact hend)
                        · rw [if_neg hc2]
                          exact .empty _ _ bi _ k0 _ _ (by rw [b1]; exact hbi) hgn (by rw [b2]; exact hend)
                      · rw [if_neg (by omega), addr_add hsp, ← hsz]
                        simp only [Option.map_some, add_off]
                        refine .sliceG ⟨a.block, a.off + l * ti.es, none⟩ bi _ _ _ k0 _ _ hbi rfl hgn ?_
                        rcases hcc with rfl | ⟨e0, e1, e2⟩
                        · exact .inl rfl
                        · refine .inr ⟨by omega, ?_, ?_⟩
                          · dsimp only
                            rw [← hke, Nat.sub_mul, Nat.add_assoc, Nat.add_sub_cancel' (Nat.mul_le_mul_right _ (by omega))]
                            exact e1
                          · dsimp only
                            rw [← hke, Nat.sub_mul, Nat.add_assoc, Nat.add_sub_cancel' (Nat.mul_le_mul_right _ (by omega))]
                            exact e2
                    · have hc2 : c' = k := by
                        rcases hcc with rfl | ⟨e0, e1, e2⟩
                        · rfl
                        · rw [hke] at e1; exact absurd e1 hend
                      subst hc2
                      simp only [hend, not_false_eq_true, and_true]
                      by_cases hkl : c' = l
                      · rw [if_pos hkl, if_pos hkl]
                        exact .sliceG a bi _ _ _ k0 _ _ hbi hsp hgn (.inl rfl)
                      · rw [if_neg hkl, if_neg hkl, addr_add hsp, ← hsz]
                        simp only [Option.map_some, add_off]
                        exact .sliceG ⟨a.block, a.off + l * ti.es, none⟩ bi _ _ _ k0 _ _ hbi rfl hgn (.inl rfl)
                  · simp only [Option.isNone_some, Bool.false_eq_true, if_false, reduceCtorEq, false_and, not_false_eq_true, and_true]
                    by_cases hkl : k = l
                    · rw [if_pos hkl, if_pos hkl]
                      exact .sliceG a bi _ _ _ k0 _ _ hbi hsp hgn (.inl rfl)
                    · rw [if_neg hkl, if_neg hkl, addr_add hsp, ← hsz]
                      simp only [Option.map_some, add_off]
                      exact .sliceG ⟨a.block, a.off + l * ti.es, none⟩ bi _ _ _ k0 _ _ hbi rfl hgn (.inl rfl)
              · rw [hgn] at hk1
                simp only [Option.some.injEq, Prod.mk.injEq] at hk1
                obtain ⟨rfl, rfl, rfl⟩ := hk1
                obtain ⟨r, q1, q2, q3, q4⟩ := bounds_sound (P := P) (w := w) hb h1 h2 h3 hnc true c' (Nat.zero_le _)
                obtain rfl : k = 0 := by omega
                obtain rfl : hh = 0 := by omega
                obtain rfl : l = 0 := by omega
                refine ⟨_, run_slice_slice f.und hei r, ?_⟩
                obtain ⟨b1, b2⟩ := addr_add_block a (0 * ti.es)
                have hA : σ (if 0 = 0 ∧ ¬ (mx = none ∧ a.off + 0 * ti.es = cs.length) then a else a.add (0 * ti.es)).block = some bi ∧ (if 0 = 0 ∧ ¬ (mx = none ∧ a.off + 0 * ti.es = cs.length) then a else a.add (0 * ti.es)).off = cs.length := by
                  split
                  · exact ⟨hbi, hoff⟩
                  · exact ⟨by rw [b1]; exact hbi, by rw [b2, hoff]; simp⟩
                have hR : ∃ a2, (if (if mx.isNone then c' else 0) = 0 then some a' else (some a').map (·.add (0 * ei.size))) = some a2 := by
                  by_cases hq2 : (if mx.isNone then c' else 0) = 0
                  · exact ⟨_, if_pos hq2⟩
                  · exact ⟨_, if_neg hq2⟩
                obtain ⟨a2, ha2⟩ := hR
                rw [ha2]
                exact .empty _ _ bi _ k0 _ _ hA.1 hgn hA.2
      · cases h
    · rename_i n e a hd
      rw [f.d] at hd
      obtain rfl := mkTD_array hd
      split at h
      · rename_i l hh k hb
        cases hz : (slack m a || Nat.beq ti.es 0) with
        | true => rw [hz] at h; simp at h
        | false =>
          rw [hz] at h
          simp only [cond_false, Option.some.injEq] at h
          subst h
          simp only [Bool.or_eq_false_iff] at hz
          obtain ⟨ei, hei, hes⟩ := es_pos (P := P) (u := .array n e) (by rw [← f.es]; exact Nat.ne_of_beq_eq_false hz.2) (.inr ⟨n, rfl⟩)
          have hsz : ti.es = ei.size := by rw [f.es, hes]
          obtain ⟨bi, hbi, hsp, rfl⟩ := hx.ptr_inv
          have hgn : bi.gr = none := by
            have h0 := hz.1
            unfold slack at h0
            split at h0
            · rename_i cs te hg
              obtain ⟨_, _, _, _, hgr⟩ := hs.cells hbi hg
              exact hgr.1
            · cases h0
          obtain ⟨r, q1, q2, q3, q4⟩ := bounds_sound (P := P) (w := w) hb h1 h2 h3 (Nat.le_refl _) false n (Nat.le_refl _)
          have r' : (Instr.sliceBounds false n n lo' hi' mx').run P w = .ok (l, hh, k) w := by
            rw [r]; cases mx with
            | none => simp [q4 rfl]
            | some _ => simp
          refine ⟨.slice (some (if k = l then ⟨bi.blk, a.off, none⟩ else (⟨bi.blk, a.off, none⟩ : Addr).add (l * ei.size))) (hh - l) (k - l), by simp only [Instr.sliceAt, Sem.run_bind, run_underlying f.und, Result.andThen_ok, Instr.sureAddr, Sem.run_pure, r', run_sizeOf hei], ?_⟩
          by_cases hkl : k = l
          · subst hkl
            simp only [Nat.beq_refl, cond_true, if_true]
            exact .slice a bi _ _ hbi hsp hgn
          · have : Nat.beq k l = false := by
              cases hq : Nat.beq k l with
              | true => exact absurd (Nat.eq_of_beq_eq_true hq) hkl
              | false => rfl
            rw [this, if_neg hkl]
            simp only [cond_false, add_off, addr_add hsp]
            rw [hsz]
            exact .slice ⟨a.block, a.off + l * ei.size, none⟩ bi _ _ hbi rfl hgn
      · cases h
    · cases h
end
end Go.D

/- append, copy, clear. -/
namespace Go.D
open Go

section
variable {E : Env} {P : Program} {σ : Sg} {m m' : M} {w : World}

theorem nbeq_false {a b : Nat} (h : a ≠ b) : Nat.beq a b = false := by
  cases hq : Nat.beq a b with
  | true => exact absurd (Nat.eq_of_beq_eq_true hq) h
  | false => rfl
theorem LRel.of_flat0 {l : List Value} (h : ∀ v ∈ l, flat0 v = true) : LRel σ l l := ⟨rfl, fun j u u' a b => by
  rw [a] at b; cases b
  exact .flat _ (h u (List.mem_of_getElem? a))⟩

theorem first_sound (hs : Sim P σ m w) {s n : Nat} {x x' : Value} {cs : List Value} (h : first? m s n x = some cs) (hx : VRel σ x x') (hn : ∀ l, length? x = some l → n ≤ l) :
    ∃ cs' : List Value, (Builtin.firstCells s n x').run P w = .ok cs'.toArray w ∧ LRel σ cs cs' := by
  unfold first? at h
  split at h
  · rename_i a len cap
    obtain ⟨bi, a', c', hbi, rfl, hcase⟩ := hx.slice_inv
    by_cases h0 : n = 0
    · subst h0
      simp only [Nat.beq_refl, cond_true, Option.some.injEq] at h
      subst h
      refine ⟨[], ?_, LRel.nil⟩
      have := run_loadCells_list (P := P) w a' [] (by simp)
      simpa [Builtin.firstCells] using this
    · rw [nbeq_false h0] at h
      simp only [cond_false] at h
      rcases hcase with ⟨hsp, rfl, _⟩ | ⟨rfl, _, _⟩
      · obtain ⟨cs', h1, h2, _, _⟩ := loadCells_sound hs hbi h
        exact ⟨cs', by simpa [Builtin.firstCells] using h1, h2⟩
      · have := hn 0 rfl; omega
  · cases h
    obtain ⟨_, _, rfl⟩ := hx.slice_nil
    exact ⟨[], by simp [Builtin.firstCells], LRel.nil⟩
  · rename_i b
    cases h
    rw [hx.string]
    refine ⟨((b.extract 0 n).data.toList.map fun b => .int .u8 b.toNat), ?_, LRel.of_flat0 ?_⟩
    · simp only [Builtin.firstCells, Sem.run_pure]
      congr 1
      apply Array.ext'
      simp
    · intro v hv
      obtain ⟨b, _, rfl⟩ := List.mem_map.1 hv
      rfl
  · cases h
theorem length_sound {x x' : Value} {n : Nat} (h : length? x = some n) (hx : VRel σ x x') : (Builtin.lenOf x').run P w = .ok n w := by
  unfold length? at h
  split at h
  · cases h
    obtain ⟨b', c', rfl, _⟩ := hx.slice_any
    rfl
  · cases h
    rw [hx.string]; rfl
  · cases h

/-- The model's append, where there is room. -/
theorem run_append_fit {t u ty e : TypeId} {i : TypeInfo} {uu : TypeDesc} (ht : P.underlying t = some (.slice e)) (hi : P.info? e = some i) (hu : P.underlying u = some uu) (hni : ∀ k, uu ≠ .int k)
    {base : Option Addr} {sl sc n : Nat} {x : Value} {new : List Value} {w' : World} (hl : (Builtin.lenOf x).run P w = .ok n w) (hf : (Builtin.firstCells i.size n x).run P w = .ok new.toArray w) (hle : sl + n ≤ sc)
    (hst : (match base with | some a => Go.storeCells (a.add (sl * i.size)) new | none => pure ()).run P w = .ok () w') :
    (Builtin.append_ #[t, u] ty #[.slice base sl sc, x]).run P w = .ok (.slice base (sl + n) sc) w' := by
  cases base with
  | none =>
    simp only [Sem.run_pure] at hst
    cases hst
    simp [Builtin.append_, run_underlying ht, run_underlying hu, run_sizeOf hi, hl, hf, hle]
  | some a =>
    simp only at hst
    simp [Builtin.append_, run_underlying ht, run_underlying hu, run_sizeOf hi, hl, hf, hle, hst]
/-- The model's append, where there is no room. -/
theorem run_append_new {t u ty e : TypeId} {i : TypeInfo} {uu : TypeDesc} {z : Value} (ht : P.underlying t = some (.slice e)) (hi : P.info? e = some i) (hu : P.underlying u = some uu) (hni : ∀ k, uu ≠ .int k)
    (hz : i.zero = some z) {base : Option Addr} {sl sc n : Nat} {x : Value} {old new : List Value} (hl : (Builtin.lenOf x).run P w = .ok n w) (ho : (Builtin.firstCells i.size sl (.slice base sl sc)).run P w.drew = .ok old.toArray w.drew)
    (hf : (Builtin.firstCells i.size n x).run P w.drew = .ok new.toArray w.drew) (hgt : sc < sl + n) (hb : i.bytes ≤ 65536) (hn : sl + n ≤ 268435456) :
    ∃ N, sl + n ≤ N ∧ (Builtin.append_ #[t, u] ty #[.slice base sl sc, x]).run P w = .ok (.slice (some ⟨w.heap.size, 0, none⟩) (sl + n) N) (w.drew.alloc (.cells (old ++ new ++ (Builtin.zeroCells z.cells (N - (sl + n))).toList).toArray e)) := by
  refine ⟨grownCap w (sl + n) sc e, grownCap_ge _ _ _ _, ?_⟩
  have h1 : ¬ (sl + n ≤ sc) := by omega
  have hfit := growslice_fits (bytes := i.bytes) hgt (by
    calc (sl + n) * i.bytes ≤ 268435456 * 65536 := Nat.mul_le_mul hn hb
      _ ≤ _ := by decide)
  have h48' : ¬ (281474976710656 < Builtin.nextslicecap (sl + n) sc * i.bytes) := by omega
  have h63' : ¬ (9223372036854775807 < ((sl : Int) + (n : Int))) := by omega
  simp [Builtin.append_, run_underlying ht, run_underlying hu, sizeOf, typeInfo, zeroValue, hi, hz, hl, h1, h48', h63', Question.forced, hf, ho, newRow, grownCap]
  congr 2
  apply Array.ext'
  simp

/-- A row that append has made. -/
theorem grown_row (hs : Sim P σ m w) {old news old' new' rest : List Value} {e k sl n N : Nat} (h1 : LRel σ old old') (h2 : LRel σ news new') (l1 : old.length = sl * k) (l2 : news.length = n * k) (hk : 0 < k) (hn : 0 < sl + n)
    (hN : sl + n ≤ N) (lr : rest.length = (N - (sl + n)) * k) :
    Ev P σ m w (σ.add m.n ⟨w.heap.size, some (k, (sl + n) * k, N * k)⟩) (m.push (.cells (old ++ news) e (some k))) (w.drew.alloc (.cells (old' ++ new' ++ rest).toArray e)) ∧
    VRel (σ.add m.n ⟨w.heap.size, some (k, (sl + n) * k, N * k)⟩) (.slice (some ⟨m.n, 0, none⟩) (sl + n) (sl + n)) (.slice (some ⟨w.heap.size, 0, none⟩) (sl + n) N) := by
  have hlen : (old ++ news).length = (sl + n) * k := by rw [List.length_append, l1, l2, Nat.add_mul]
  have hlen' : (old' ++ new').length = (sl + n) * k := by rw [← hlen, (h1.append h2).1]
  have hsz : ((old' ++ new' ++ rest).toArray).size = N * k := by
    rw [List.size_toArray, List.length_append, hlen', lr, ← Nat.add_mul]
    congr 1; omega
  have hpos : 0 < (sl + n) * k := Nat.mul_pos hn hk
  have hle : (sl + n) * k ≤ N * k := Nat.mul_le_mul_right _ hN
  have hs' : Sim P σ m w.drew := hs.of_heap rfl
  have hrow := new_row (g := some k) (e := e) (c := old ++ news) (c' := (old' ++ new' ++ rest).toArray) hs' (by rw [hlen, hsz]; exact hle) (by
    rw [hlen, ← hlen']
    simp only [List.take_left']
    exact h1.append h2) (by
    refine ⟨?_, hk, by rw [hlen]; exact hpos⟩
    rfl)
  have he : grOf (old ++ news).length ((old' ++ new' ++ rest).toArray).size (some k) = some (k, (sl + n) * k, N * k) := by rw [hlen, hsz]; rfl
  rw [he] at hrow
  refine ⟨(Ev.of_heap hs rfl rfl rfl rfl : Ev P σ m w σ m w.drew).trans hrow, ?_⟩
  exact .sliceG ⟨m.n, 0, none⟩ ⟨w.heap.size, _⟩ _ _ _ k ((sl + n) * k) (N * k) (Sg.add_same _ _) rfl rfl (.inr ⟨hN, by simp, by simp⟩)

theorem append_sound (hE : E.OK P) (hs : Sim P σ m w) {t u ty : TypeId} {s x s' x' v : Value} (h : append? E m t u s x = some (v, m')) (hx : VRel σ s s') (hy : VRel σ x x') :
    Res P σ m w (Builtin.append_ #[t, u] ty #[s', x']) v m' := by
  unfold append? at h
  split at h
  · rename_i ti ui base sl sc n hti hui hlx
    obtain ⟨i, ut, f⟩ := hE.tif hti
    obtain ⟨iu, uu, fu⟩ := hE.tif hui
    split at h
    · cases h
    · rename_i e hd hni
      rw [f.d] at hd
      obtain rfl := mkTD_slice hd
      have hni' : ∀ k, uu ≠ .int k := by
        rintro k rfl
        exact hni k fu.d
      split at h
      · rename_i ei news hei hfn
        obtain ⟨ie, ue, fe⟩ := hE.tif hei
        have hsz : ti.es = ie.size := by rw [f.es]; simp [esOf, fe.info]
        cases hb : (Nat.beq ti.es 0 || Nat.blt 65536 ei.bytes || !news.all one || Nat.blt 268435456 (sl + n) || !Nat.beq news.length (n * ti.es) || !zeroLen ei.zero ti.es) with
        | true => rw [hb] at h; simp at h
        | false =>
          rw [hb] at h
          simp only [cond_false] at h
          simp only [Bool.or_eq_false_iff, Bool.not_eq_false'] at hb
          obtain ⟨⟨⟨⟨⟨b1, b2⟩, b3⟩, b4⟩, b5⟩, b6⟩ := hb
          have hes0 := Nat.ne_of_beq_eq_false b1
          have hby : ie.bytes ≤ 65536 := by rw [blt_iff] at b2; have := fe.bytes; simp at b2; omega
          have hneed : sl + n ≤ 268435456 := by rw [blt_iff] at b4; simp at b4; omega
          have hnl := Nat.eq_of_beq_eq_true b5
          obtain ⟨z, hz, hzl⟩ : ∃ z, ie.zero = some z ∧ z.cells.size = ie.size := by
            cases hzz : ei.zero with
            | none => rw [hzz] at b6; simp [zeroLen] at b6
            | some z =>
              rw [hzz] at b6
              have := Nat.eq_of_beq_eq_true b6
              have hzr := (VRel.of_flat2 (σ := σ) (hE.flat hei hzz)).cells.1
              refine ⟨z, by rw [← fe.zero]; exact hzz, ?_⟩
              simp only [Array.length_toList] at hzr
              omega
          have hln := fun w => length_sound (P := P) (w := w) hlx hy
          have hfirst := fun (w : World) (hs : Sim P σ m w) => first_sound (P := P) hs hfn hy (fun l hl => by rw [hlx] at hl; cases hl; exact Nat.le_refl _)
          rw [hsz] at hfirst hnl
          cases hfit : Nat.ble (sl + n) sc with
          | true =>
            rw [hfit] at h
            have hle := Nat.le_of_ble_eq_true hfit
            simp only [cond_true] at h
            obtain ⟨new', hf', hr'⟩ := hfirst w hs
            cases base with
            | none =>
              obtain ⟨rfl, rfl, rfl⟩ := hx.slice_nil
              simp only at h
              obtain rfl : n = 0 := by omega
              simp only [Nat.beq_refl, cond_true, Option.some.injEq, Prod.mk.injEq] at h
              obtain ⟨rfl, rfl⟩ := h
              refine Res.pure hs (run_append_fit f.und fe.info fu.und hni' (base := none) (hln w) hf' (Nat.le_refl _) rfl) (.flat _ rfl)
            | some a =>
              obtain ⟨bi, a', c', hbi, rfl, hcase⟩ := hx.slice_inv
              by_cases h0 : n = 0
              · subst h0
                simp only [Nat.beq_refl, cond_true, Option.map_some, Option.some.injEq, Prod.mk.injEq] at h
                obtain ⟨rfl, rfl⟩ := h
                have hnil : new' = [] := by
                  have := hr'.1
                  rw [hnl] at this
                  simpa using this.symm
                subst hnil
                have hcc' : sl + 0 ≤ c' := by
                  rcases hcase with ⟨_, _, ⟨_, rfl⟩ | ⟨k, sz, N, hk, rfl | ⟨e0, e1, e2⟩⟩⟩ | ⟨rfl, _⟩ <;> omega
                refine Res.pure hs (run_append_fit f.und fe.info fu.und hni' (base := some a') (hln w) hf' hcc' rfl) hx
              · rw [nbeq_false h0] at h
                simp only [cond_false, Option.map_eq_some_iff, Prod.mk.injEq] at h
                obtain ⟨m2, hst, rfl, rfl⟩ := h
                rcases hcase with ⟨hsp, rfl, hcc⟩ | ⟨rfl, rfl, _⟩
                · have hcc' : sl + n ≤ c' := by
                    rcases hcc with ⟨_, rfl⟩ | ⟨k, sz, N, hk, rfl | ⟨e0, e1, e2⟩⟩ <;> omega
                  rw [addr_add hsp, hsz] at hst
                  obtain ⟨w', hw1, hw2, _⟩ := storeCells_sound (a := ⟨a.block, a.off + sl * ie.size, none⟩) hs hbi hr' hst
                  refine ⟨σ, w', _, run_append_fit f.und fe.info fu.und hni' (base := some ⟨bi.blk, a.off, none⟩) (hln w) hf' hcc' (by simp only [add_off]; exact hw1), ?_, hw2⟩
                  rcases hcc with ⟨hg, rfl⟩ | ⟨k, sz, N, hk, hc⟩
                  · exact .slice a bi _ _ hbi hsp hg
                  · exact .sliceG a bi _ _ _ k sz N hbi hsp hk hc
                · omega
          | false =>
            rw [hfit] at h
            have hgt : sc < sl + n := by
              rcases Nat.lt_or_ge sc (sl + n) with hh | hh
              · exact hh
              · rw [Nat.ble_eq_true_of_le hh] at hfit; cases hfit
            simp only [cond_false] at h
            have hkp : 0 < ti.es := by omega
            -- the model makes a new row
            have fresh : ∀ (m1 : M) (base' : Option Addr) (c' : Nat) (old old' : List Value), Ev P σ m w σ m1 w → m1.n = m.n →
                (Builtin.firstCells ie.size sl (.slice base' sl c')).run P w.drew = .ok old'.toArray w.drew → LRel σ old old' → old.length = sl * ti.es → c' < sl + n →
                s' = .slice base' sl c' → v = .slice (some ⟨m.n, 0, none⟩) (sl + n) (sl + n) → m' = m1.push (.cells (old ++ news) e (some ti.es)) → Res P σ m w (Builtin.append_ #[t, u] ty #[s', x']) v m' := by
              rintro m1 base' c' old old' he hmn ho hro hol hc rfl rfl rfl
              obtain ⟨new', hf', hr'⟩ := hfirst w.drew (hs.of_heap rfl)
              obtain ⟨N, hN, hrun⟩ := run_append_new (ty := ty) f.und fe.info fu.und hni' hz (hln w) ho hf' hc hby hneed
              obtain ⟨g1, g2⟩ := grown_row (e := e) (rest := (Builtin.zeroCells z.cells (N - (sl + n))).toList) he.sim hro hr' hol (by rw [hnl, hsz]) hkp (by omega) hN (by
                rw [Array.length_toList, size_zeroCells, hzl, hsz])
              refine ⟨_, _, _, hrun, ?_, he.trans g1⟩
              rw [hmn] at g2 ⊢
              exact g2
            unfold grow? at h
            split at h
            · cases hq : (Nat.beq sl 0 && Nat.beq sc 0) with
              | false => rw [hq] at h; simp at h
              | true =>
                rw [hq] at h
                simp only [cond_true, Option.some.injEq, Prod.mk.injEq] at h
                simp only [Bool.and_eq_true] at hq
                obtain rfl := Nat.eq_of_beq_eq_true hq.1
                obtain rfl := Nat.eq_of_beq_eq_true hq.2
                obtain ⟨rfl, rfl⟩ := h
                refine fresh m none 0 [] [] (Ev.refl hs) rfl (by simp [Builtin.firstCells]) LRel.nil (by simp) hgt (hx.eq_of_flat0 rfl) rfl rfl
            · rename_i a
              obtain ⟨bi, a', c', hbi, hx', hcase⟩ := hx.slice_inv
              split at h
              · rename_i cs te g old hg hold
                obtain ⟨row, hrow, hlen, hrr, hgr⟩ := hs.cells hbi hg
                have hfo : ∀ w1, Sim P σ m w1 → ∃ old', (Builtin.firstCells ie.size sl (.slice (some a') sl c')).run P w1 = .ok (old' : List Value).toArray w1 ∧ LRel σ old old' := by
                  intro w1 h1
                  have hfirst0 : first? m ti.es sl (.slice (some a) sl sc) = some old := hold
                  have := first_sound (P := P) h1 hfirst0 hx (fun l hl => by cases hl; exact Nat.le_refl _)
                  rw [hx', hsz] at this
                  exact this
                have hol : old.length = sl * ti.es := by
                  by_cases h0 : sl = 0
                  · subst h0
                    simp only [Nat.beq_refl, cond_true, Option.some.injEq] at hold
                    subst hold; simp
                  · rw [nbeq_false h0] at hold
                    simp only [cond_false] at hold
                    obtain ⟨_, _, _, hl, _⟩ := loadCells_sound hs hbi hold
                    exact hl
                obtain ⟨old', hfo', hro⟩ := hfo w.drew (hs.of_heap rfl)
                cases hq : (g.isNone || (g == some ti.es && Nat.blt (a.off + sc * ti.es) cs.length)) with
                | true =>
                  rw [hq] at h
                  simp only [cond_true, Option.some.injEq, Prod.mk.injEq] at h
                  obtain ⟨rfl, rfl⟩ := h
                  refine fresh m (some a') c' old old' (Ev.refl hs) rfl hfo' hro hol ?_ hx' rfl rfl
                  cases g with
                  | none =>
                    have hg0 := hgr.1
                    rcases hcase with ⟨_, _, ⟨_, rfl⟩ | ⟨k, sz, N, hk, _⟩⟩ | ⟨_, _, k, sz, N, hk, _⟩
                    · exact hgt
                    · rw [hg0] at hk; cases hk
                    · rw [hg0] at hk; cases hk
                  | some k0 =>
                    obtain ⟨hgr1, hgr2, hgr3⟩ := hgr
                    simp only [Option.isNone_some, Bool.false_or, Bool.and_eq_true, beq_iff_eq, Option.some.injEq] at hq
                    obtain ⟨rfl, hq⟩ := hq
                    rw [blt_iff] at hq
                    simp only [decide_eq_true_eq] at hq
                    rcases hcase with ⟨_, _, ⟨_, rfl⟩ | ⟨k, sz, N, hk, hcc⟩⟩ | ⟨_, rfl, k, sz, N, hk, hoff⟩
                    · exact hgt
                    · rw [hgr1] at hk
                      simp only [Option.some.injEq, Prod.mk.injEq] at hk
                      obtain ⟨rfl, rfl, rfl⟩ := hk
                      rcases hcc with rfl | ⟨e0, e1, e2⟩
                      · exact hgt
                      · omega
                    · rw [hgr1] at hk
                      simp only [Option.some.injEq, Prod.mk.injEq] at hk
                      obtain ⟨rfl, rfl, rfl⟩ := hk
                      omega
                | false =>
                  rw [hq] at h
                  simp only [cond_false] at h
                  cases hq2 : (g == some ti.es && Nat.beq a.off 0 && a.spot.isNone && Nat.beq (sl * ti.es) cs.length && Nat.beq sc sl && Nat.beq te e) with
                  | false => rw [hq2] at h; simp at h
                  | true =>
                    rw [hq2] at h
                    simp only [cond_true, Option.some.injEq, Prod.mk.injEq] at h
                    obtain ⟨rfl, rfl⟩ := h
                    simp only [Bool.and_eq_true] at hq2
                    obtain ⟨⟨⟨⟨⟨q1, q2⟩, q3⟩, q4⟩, q5⟩, q6⟩ := hq2
                    obtain rfl := Nat.eq_of_beq_eq_true q6
                    have q1 : g = some ti.es := by simpa using q1
                    subst q1
                    have q2 := Nat.eq_of_beq_eq_true q2
                    have q4 := Nat.eq_of_beq_eq_true q4
                    obtain rfl := Nat.eq_of_beq_eq_true q5
                    obtain ⟨hgr1, hgr2, hgr3⟩ := hgr
                    have hdead : m.get a.block ≠ .dead := by rw [hg]; simp
                    by_cases hc2 : c' < sc + n
                    · have hw := Ev.write (w' := w) (ob := .dead) hs hbi hdead trivial (fun _ _ => rfl) rfl rfl rfl rfl
                      exact fresh _ (some a') c' old old' hw rfl hfo' hro hol hc2 hx' rfl rfl
                    · -- the model writes into the row's own room
                      have hsl : sc ≠ 0 := by rintro rfl; simp at q4; omega
                      rcases hcase with ⟨hsp, rfl, hcc⟩ | ⟨rfl, _⟩
                      · rcases hcc with ⟨hg0, _⟩ | ⟨k, sz, N, hk, hcc⟩
                        · rw [hgr1] at hg0; cases hg0
                        · rw [hgr1] at hk
                          simp only [Option.some.injEq, Prod.mk.injEq] at hk
                          obtain ⟨rfl, rfl, rfl⟩ := hk
                          rcases hcc with rfl | ⟨e0, e1, e2⟩
                          · omega
                          · obtain ⟨new', hf', hr'⟩ := hfirst w hs
                            have hold' : old = cs := by
                              rw [nbeq_false hsl] at hold
                              simp only [cond_false] at hold
                              unfold loadCells at hold
                              rw [hg] at hold
                              simp only [q2, Nat.zero_add, q4, List.drop_zero, List.take_length] at hold
                              cases hq3 : (a.spot.isNone && Nat.ble cs.length cs.length) with
                              | false => rw [hq3] at hold; simp at hold
                              | true => rw [hq3] at hold; simpa using hold.symm
                            subst hold'
                            have hnl' : new'.length = n * ti.es := by rw [← hr'.1, hnl, hsz]
                            have hroom : (sc + n) * ti.es ≤ row.size := by
                              rw [← e2, q2, Nat.zero_add]
                              exact Nat.mul_le_mul_right _ (by omega)
                            rw [Nat.add_mul] at hroom
                            have hone := hr'.ones b3
                            have hst := run_storeCells_at (P := P) bi.blk (sc * ti.es) te new' 0 row w hrow (by omega) hone
                            simp only [Nat.add_zero] at hst
                            have hla : (row.toList.take (sc * ti.es) ++ new').length = (sc + n) * ti.es := by
                              rw [List.length_append, List.length_take, hnl', Nat.add_mul, Array.length_toList]; omega
                            have hlr : (row.toList.take (sc * ti.es) ++ new' ++ row.toList.drop (sc * ti.es + new'.length)).length = row.size := by
                              rw [List.length_append, hla, List.length_drop, hnl', Array.length_toList, Nat.add_mul]; omega
                            have hlo : (old ++ news).length = (sc + n) * ti.es := by rw [List.length_append, hol, hnl, ← hsz, Nat.add_mul]
                            have hrel : LRel σ (old ++ news) (row.toList.take (sc * ti.es) ++ new') := by
                              rw [q4]; exact hrr.append hr'
                            have hEv := Ev.regrow (ob := .cells (old ++ news) te (some ti.es)) (gr := some (ti.es, (sc + n) * ti.es, row.size)) (w' := w.setRow bi.blk (row.toList.take (sc * ti.es) ++ new' ++ row.toList.drop (sc * ti.es + new'.length)).toArray) hs hbi hdead
                              (by
                                refine ⟨_, setRow_heap w bi.blk row _ te _ hrow, ?_, ?_, ?_⟩
                                · rw [hlo, List.size_toArray, hlr, Nat.add_mul]; exact hroom
                                · rw [hlo, ← hla]
                                  simp only [List.take_left']
                                  exact hrel.mono (Sg.le_add hs.next_none)
                                · have hlr2 := hlr
                                  rw [← List.size_toArray] at hlr2
                                  rw [hlo, hlr2]
                                  exact ⟨rfl, hkp, Nat.mul_pos (by omega) hkp⟩)
                              (fun B hB => by
                                simp only [World.setRow, Array.getElem?_modify]
                                rw [if_neg (fun e => hB e.symm)])
                              (by simp [World.setRow]) rfl rfl rfl
                            have hrun := run_append_fit (ty := ty) f.und fe.info fu.und hni' (base := some ⟨bi.blk, a.off, none⟩) (hln w) hf' (show sc + n ≤ c' by omega) (by
                              simp only [add_off, q2, Nat.zero_add, ← hsz]
                              exact hst)
                            rw [hx']
                            refine ⟨_, _, _, hrun, ?_, hEv⟩
                            rw [q2]
                            exact .sliceG ⟨m.n, 0, none⟩ ⟨bi.blk, some (ti.es, (sc + n) * ti.es, row.size)⟩ _ _ _ ti.es ((sc + n) * ti.es) row.size (Sg.add_same _ _) rfl rfl (.inr ⟨by omega, by simp, by rw [← e2, q2]⟩)
                      · omega
              · cases h
      · cases h
    · cases h
  · cases h
end
end Go.D
