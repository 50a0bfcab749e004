/- slices.Sort at []int: the known call. The program logic over D, its first part: how a run depends on the mark 'low', and on the temporaries. The program logic over D, its second part: operations. The program logic over D, its third part: what a statement does, by a formula that is read off the code ('vc'), and the proof that the formula suffices. The formula names values alone: the temporaries are gone from it. -/
import Derived.Test.YtbpmlholiohkpaaGreatDoorD6
import Derived.Sort.Row
import Derived.Sort.Grow
/- slices.Sort at []int: the known call. -/
namespace Go.D
open Go

section
variable {P : Program} {σ : Sg} {m : M} {w w' : World}
def ints? : List Value → Option (List Int)
  | [] => some []
  | .int .i64 x :: r => match ints? r with | some l => some (x :: l) | none => none
  | _ => none
theorem ints_spec : ∀ {vs : List Value} {zs : List Int}, ints? vs = some zs → vs = zs.map (.int .i64)
  | [], zs, h => by cases h; rfl
  | v :: r, zs, h => by
    unfold ints? at h
    split at h
    · rename_i h0; cases h0
    · rename_i x r' h0
      cases h0
      split at h
      · rename_i l hl
        cases h
        simp only [List.map_cons, ← ints_spec hl]
      · cases h
    · cases h
theorem ints_map : ∀ zs : List Int, ints? (zs.map (.int .i64)) = some zs
  | [] => rfl
  | z :: zs => by simp only [List.map_cons, ints?, ints_map zs]
/-- slices.Sort (function S) of a slice of integers. -/
noncomputable def sortInX (S : Nat) : CallFn := fun fn args m =>
  match fn with
  | .func f =>
    bif Nat.beq f S then
      match args with
      | [.slice (some a) n _] =>
        match m.get a.block with
        | .cells cs e g =>
          bif a.spot.isNone && Nat.ble 1 n && Nat.ble (a.off + n) cs.length && Nat.ble n 1048576 then
            match ints? ((cs.drop a.off).take n) with
            | some zs => some (.tuple #[], m.set a.block (.cells (cs.take a.off ++ ((isort zs).map (.int .i64) ++ cs.drop (a.off + n))) e g))
            | none => none
          else none
        | _ => none
      | [.slice none 0 0] => some (.tuple #[], m)
      | _ => none
    else none
  | _ => none
/-- What the kit says of that call. -/
def SortInOK (P : Program) (S : Nat) : Prop :=
  (∀ args w, (callFunc S args).run P w = .ok (.enter S args) w) ∧
  (∀ (blk off cap : Nat) (zs : List Int) (w : World), Sort.Holds (Value.int .i64) w blk off zs.toArray → blk < w.heap.size → zs.length < 4611686018427387904 →
    Calls P S #[.slice (some ⟨blk, off, none⟩) zs.length cap] w fun e w' => e = .returned (.tuple #[]) ∧ ∃ n os, w' = Sort.grow (Sort.putRow (Value.int .i64) (Sort.ahead w n) blk off (zs.mergeSort fun x y => decide (x ≤ y)).toArray) os) ∧
  (∀ w : World, Calls P S #[.slice none 0 0] w fun e w' => e = .returned (.tuple #[]) ∧ w' = w)
theorem isort_length (l : List Int) : (isort l).length = l.length := (isort_perm l).length_eq
theorem LRel.splice {c c' : List Value} {new : List Value} {off : Nat} (h : LRel σ c c') (hn : LRel σ new new) (hl : off + new.length ≤ c.length) :
    LRel σ (c.take off ++ (new ++ c.drop (off + new.length))) (c'.take off ++ (new ++ c'.drop (off + new.length))) :=
  (h.take off).append (hn.append (h.drop _))
theorem sortInX_ok {S : Nat} (h : SortInOK P S) : CallOK P (sortInX S) := by
  refine ⟨fun f args m v m' hx σ w args' hs hl => ?_, fun l args m v m' hx => by simp [sortInX] at hx⟩
  unfold sortInX at hx
  dsimp only at hx
  cases hf : Nat.beq f S with
  | false => rw [hf] at hx; simp at hx
  | true =>
    obtain rfl := Nat.eq_of_beq_eq_true hf
    rw [hf] at hx
    simp only [cond_true] at hx
    refine ⟨?_, h.1 args' w⟩
    refine callsIn_wide.2 ?_
    split at hx
    · rename_i a n cap
      split at hx
      · rename_i cs e g hg
        cases hc : (a.spot.isNone && Nat.ble 1 n && Nat.ble (a.off + n) cs.length && Nat.ble n 1048576) with
        | false => rw [hc] at hx; cases hx
        | true =>
          rw [hc] at hx
          simp only [cond_true] at hx
          simp only [Bool.and_eq_true] at hc
          obtain ⟨⟨⟨c1, c2⟩, c3⟩, c4⟩ := hc
          have c2 := Nat.le_of_ble_eq_true c2
          have c3 := Nat.le_of_ble_eq_true c3
          have c4 := Nat.le_of_ble_eq_true c4
          split at hx
          · rename_i zs hz
            cases hx
            have hz' := ints_spec hz
            have hlen : zs.length = n := by
              have := congrArg List.length hz'
              simp only [List.length_take, List.length_drop, List.length_map] at this
              omega
            obtain ⟨x', l1, hargs, hv, hl1⟩ := hl.cases
            obtain rfl := hl1.nil_eq
            obtain ⟨i, a', c', hi, rfl, hcase⟩ := hv.slice_inv
            have ha' : a' = ⟨i.blk, a.off, none⟩ := by
              rcases hcase with ⟨_, h2, _⟩ | ⟨h2, _⟩
              · exact h2
              · omega
            subst ha'
            have eargs : args' = #[.slice (some ⟨i.blk, a.off, none⟩) zs.length c'] := by
              apply Array.ext'; rw [hargs, hlen]
            subst eargs
            obtain ⟨row, hr1, hr2, hr3, hr4⟩ := hs.cells hi hg
            have hcell : ∀ j, j < zs.length → row[a.off + j]? = some (.int .i64 zs[j]!) := by
              intro j hj
              have e1 : cs[a.off + j]? = some (.int .i64 zs[j]!) := by
                have := congrArg (fun l => l[j]?) hz'
                simp only [List.getElem?_take, List.getElem?_drop, List.getElem?_map] at this
                rw [if_pos (by omega)] at this
                rw [this, List.getElem?_eq_getElem hj, getElem!_pos zs j hj]
                rfl
              obtain ⟨u, hu1, hu2⟩ := hr3.get e1
              rw [List.getElem?_take_of_lt (by omega)] at hu1
              have := hu2.eq_of_flat0 rfl
              subst this
              simpa using hu1
            have hH : Sort.Holds (Value.int .i64) w i.blk a.off zs.toArray := by
              intro j hj
              have hj : j < zs.length := by simpa using hj
              refine ⟨?_, ?_⟩
              · simp only [World.cell?, hr1]
                have := hcell j hj
                simpa using this
              · simp [World.frozen?, hr1]
            refine (h.2.1 i.blk a.off c' zs w hH (hs.lt _ _ hi) (by omega)).mono ?_
            rintro en w2 ⟨rfl, k, os, rfl⟩
            have hsort : zs.mergeSort (fun x y => decide (x ≤ y)) = isort zs := isort_mergeSort (List.Perm.refl zs)
            rw [hsort]
            refine ⟨_, σ, rfl, .undef, ?_⟩
            have hil : (isort zs).length = n := by rw [isort_length, hlen]
            have hput : ∀ B, (Sort.putRow (Value.int .i64) (Sort.ahead w k) i.blk a.off (isort zs).toArray).heap[B]? = if B = i.blk then some (.cells (Sort.putCells (Value.int .i64) a.off (isort zs).toArray row) e (0, 0)) else w.heap[B]? := by
              intro B
              simp only [Sort.putRow, Sort.mapBlock, Array.getElem?_modify, Sort.ahead]
              by_cases hB : i.blk = B
              · subst hB; simp only [if_true, hr1, Option.map_some, Sort.onCells]
              · rw [if_neg hB, if_neg (fun q => hB q.symm)]
            have hrow : (Sort.putCells (Value.int .i64) a.off (isort zs).toArray row).toList = row.toList.take a.off ++ ((isort zs).map (.int .i64) ++ row.toList.drop (a.off + n)) := by
              apply List.ext_getElem?
              intro j
              simp only [Sort.putCells, Array.getElem?_toList, Array.getElem?_mapIdx, List.size_toArray, hil]
              by_cases h1 : j < a.off
              · rw [List.getElem?_append_left (by simp; omega), List.getElem?_take_of_lt h1]
                have : ¬ (a.off ≤ j ∧ j < a.off + n) := by omega
                simp only [this, if_false]
                simp
              · by_cases h2 : j < a.off + n
                · rw [List.getElem?_append_right (by simp; omega), List.getElem?_append_left (by simp [hil]; omega)]
                  have hj : j < row.size := by omega
                  have hmin : min a.off row.toList.length = a.off := by simp; omega
                  simp only [List.length_take, hmin, List.getElem?_map]
                  have : a.off ≤ j ∧ j < a.off + n := by omega
                  rw [Array.getElem?_eq_getElem hj]
                  simp only [Option.map_some, this, and_self, if_true]
                  rw [List.getElem?_eq_getElem (by omega)]
                  simp
                  rw [List.getElem?_eq_getElem (by omega)]
                  rfl
                · rw [List.getElem?_append_right (by simp; omega), List.getElem?_append_right (by simp [hil]; omega)]
                  have : ¬ (a.off ≤ j ∧ j < a.off + n) := by omega
                  simp only [this, if_false, List.getElem?_drop, List.length_take, List.length_map, hil]
                  have : a.off + n + (j - min a.off row.toList.length - n) = j := by simp; omega
                  rw [this]
                  simp
            have hEv : Ev P σ m w σ (m.set a.block (.cells (cs.take a.off ++ ((isort zs).map (.int .i64) ++ cs.drop (a.off + n))) e g)) (Sort.putRow (Value.int .i64) (Sort.ahead w k) i.blk a.off (isort zs).toArray) := by
              refine Ev.write hs hi (by rw [hg]; exact fun q => by cases q) ?_ (fun B hB => by rw [hput, if_neg hB]) (by simp [Sort.ahead]) rfl rfl rfl
              have hnewlen : (cs.take a.off ++ ((isort zs).map (Value.int .i64) ++ cs.drop (a.off + n))).length = cs.length := by
                simp only [List.length_append, List.length_take, List.length_map, List.length_drop, hil]; omega
              have hsz : (Sort.putCells (Value.int .i64) a.off (isort zs).toArray row).size = row.size := by simp [Sort.putCells]
              refine ⟨_, (by rw [hput, if_pos rfl]), by rw [hnewlen, hsz]; exact hr2, ?_, by rw [hnewlen, hsz]; exact hr4⟩
              rw [hnewlen, hrow]
              have hsp := LRel.splice (σ := σ) (off := a.off) (new := (isort zs).map (Value.int .i64)) hr3 (LRel.of_flat (by rw [List.all_eq_true]; intro x hx; obtain ⟨y, _, rfl⟩ := List.mem_map.1 hx; rfl)) (by simp [hil]; omega)
              simp only [List.length_map, hil] at hsp
              have hr2' : cs.length ≤ row.toList.length := by simpa using hr2
              have hA : (row.toList.take a.off).length = a.off := by rw [List.length_take]; omega
              have hB : ((isort zs).map (Value.int .i64)).length = n := by rw [List.length_map, hil]
              have e2 : (row.toList.take cs.length).take a.off ++ ((isort zs).map (Value.int .i64) ++ (row.toList.take cs.length).drop (a.off + n)) = (row.toList.take a.off ++ ((isort zs).map (Value.int .i64) ++ row.toList.drop (a.off + n))).take cs.length := by
                rw [List.take_append, List.take_append, hA, hB]
                congr 1
                · rw [List.take_take, List.take_take]; congr 1; omega
                · congr 1
                  · rw [List.take_of_length_le (by rw [hB]; omega)]
                  · rw [List.drop_take]
                    congr 1
                    omega
              rw [← e2]
              exact hsp
            exact hEv.trans (Ev.kept hEv.sim (fun B hB => by simp only [Sort.grow]; rw [Array.getElem?_append_left hB]) (by simp [Sort.grow]) rfl rfl rfl)
          · cases hx
      · cases hx
    · cases hx
      obtain ⟨x', l1, hargs, hv, hl1⟩ := hl.cases
      obtain rfl := hl1.nil_eq
      obtain ⟨_, _, rfl⟩ := hv.slice_nil
      have eargs : args' = #[.slice none 0 0] := by apply Array.ext'; rw [hargs]
      subst eargs
      refine (h.2.2 w).mono ?_
      rintro en w2 ⟨rfl, rfl⟩
      exact ⟨_, σ, rfl, .undef, .refl hs⟩
    · cases hx
end
end Go.D

/- The program logic over D, its first part: how a run depends on the mark 'low', and on the temporaries. -/
namespace Go.D
open Go

/-- The store with another mark. -/
def M.wl (m : M) (l : Nat) : M := { m with low := l }
section
variable {m : M} {l k b : Nat} {o : Ob}
theorem M.wl_get : (m.wl l).get b = m.get b := rfl
theorem M.wl_n : (m.wl l).n = m.n := rfl
theorem M.wl_low : (m.wl l).low = l := rfl
theorem M.wl_st : (m.wl l).st = m.st := rfl
theorem M.wl_wl : (m.wl l).wl k = m.wl k := rfl
theorem M.wl_push : (m.wl l).push o = (m.push o).wl l := rfl
theorem M.wl_set : (m.wl l).set b o = (m.set b o).wl (min l b) := rfl
theorem M.wl_self : m.wl m.low = m := rfl
theorem M.push_n : (m.push o).n = m.n + 1 := rfl
theorem M.push_low : (m.push o).low = m.low := rfl
theorem M.set_n : (m.set b o).n = m.n := rfl
theorem M.set_low : (m.set b o).low = min m.low b := rfl
end
/-- What an operation yields does not depend on the mark, and the mark falls to the least block that it writes. -/
structure LowOK {α : Type} (m : M) (f : M → Option (α × M)) : Prop where
  eq : ∀ l, l ≤ m.n → f (m.wl l) = (f (m.wl m.n)).map (fun r => (r.1, r.2.wl (min l r.2.low)))
  nle : ∀ r, f (m.wl m.n) = some r → m.n ≤ r.2.n
section
variable {α : Type} {m : M}
theorem LowOK.none : LowOK (α := α) m (fun _ => none) := ⟨fun _ _ => rfl, fun _ h => by cases h⟩
theorem LowOK.same (v : α) : LowOK m (fun m => some (v, m)) := ⟨fun l h => by
  simp only [Option.map_some, M.wl_low, M.wl_wl, Nat.min_eq_left h], fun r h => by cases h; exact Nat.le_refl _⟩
theorem LowOK.push (v : α) (o : Ob) : LowOK m (fun m => some (v, m.push o)) := ⟨fun l h => by
  simp only [Option.map_some, M.wl_push, M.wl_low, M.wl_wl, Nat.min_eq_left h], fun r h => by cases h; exact Nat.le_succ _⟩
theorem LowOK.set (v : α) (b : Nat) (o : Ob) : LowOK m (fun m => some (v, m.set b o)) := ⟨fun l h => by
  simp only [Option.map_some, M.wl_set, M.wl_low, M.wl_wl]
  congr 3
  omega, fun r h => by cases h; exact Nat.le_refl _⟩
theorem LowOK.setPush (v : α) (b : Nat) (o o' : Ob) : LowOK m (fun m => some (v, (m.set b o).push o')) := ⟨fun l h => by
  simp only [Option.map_some, M.wl_set, M.wl_push, M.wl_low, M.wl_wl]
  congr 3
  omega, fun r h => by cases h; exact Nat.le_succ _⟩
/-- A function of the store of which the parts look at blocks alone. -/
theorem LowOK.of_eq {f g : M → Option (α × M)} (h : LowOK m g) (e : ∀ l, f (m.wl l) = g (m.wl l)) : LowOK m f := ⟨fun l hl => by rw [e, e, h.eq l hl], fun r hr => h.nle r (by rw [← e]; exact hr)⟩
end
noncomputable section
variable {E : Env} {m : M}

theorem cellAt_wl {l : Nat} {a : Addr} : cellAt (m.wl l) a = cellAt m a := rfl
theorem loadCells_wl {l n : Nat} {a : Addr} : loadCells (m.wl l) a n = loadCells m a n := rfl
theorem loadVar_wl {l : Nat} {t : TypeId} {a : Addr} : loadVar E (m.wl l) t a = loadVar E m t a := rfl
theorem slack_wl {l : Nat} {a : Addr} : slack (m.wl l) a = slack m a := rfl
theorem first?_wl {l s n : Nat} {x : Value} : first? (m.wl l) s n x = first? m s n x := rfl
theorem len?_wl {l : Nat} {t : TypeId} {x : Value} : len? E (m.wl l) t x = len? E m t x := rfl
theorem slice?_wl {l : Nat} {t : TypeId} {x : Value} {a b c : Option Value} : slice? E (m.wl l) t x a b c = slice? E m t x a b c := rfl
theorem lookup?_wl {l : Nat} {t : TypeId} {x k : Value} {ok : Bool} : lookup? E (m.wl l) t x k ok = lookup? E m t x k ok := rfl

theorem storeCells_low {v : Value} {a : Addr} {vs : List Value} : LowOK m (fun m => (storeCells m a vs).map fun m => (v, m)) := by
  unfold storeCells
  cases h : m.get a.block with
  | cells c e g =>
    cases hb : (a.spot.isNone && Nat.ble (a.off + vs.length) c.length && vs.all one) with
    | true => exact (LowOK.set v a.block _).of_eq (fun l => by simp only [M.wl_get, loadCells_wl, first?_wl, len?_wl, slack_wl, *, cond_true, cond_false, Option.map_some, Option.map_none] <;> rfl)
    | false => exact LowOK.none.of_eq (fun l => by simp only [M.wl_get, loadCells_wl, first?_wl, len?_wl, slack_wl, *, cond_true, cond_false, Option.map_some, Option.map_none] <;> rfl)
  | _ => exact LowOK.none.of_eq (fun l => by simp only [M.wl_get, loadCells_wl, first?_wl, len?_wl, slack_wl, *, cond_true, cond_false, Option.map_some, Option.map_none] <;> rfl)
theorem storeVar_low {v : Value} {t : TypeId} {a : Addr} {x : Value} : LowOK m (fun m => (storeVar E m t a x).map fun m => (v, m)) := by
  unfold storeVar
  cases E.ty.get t with
  | none => exact LowOK.none
  | some ti =>
    dsimp only
    cases Nat.beq (cells x).length ti.size with
    | true => exact storeCells_low
    | false => exact LowOK.none
theorem grow?_low {e k : Nat} {base : Option Addr} {sl sc need : Nat} {news : List Value} : LowOK m (fun m => grow? m e k base sl sc need news) := by
  unfold grow?
  cases base with
  | none =>
    dsimp only
    cases (Nat.beq sl 0 && Nat.beq sc 0) with
    | true => exact LowOK.of_eq (LowOK.push (.slice (some ⟨m.n, 0, none⟩) need need) _) (fun l => rfl)
    | false => exact LowOK.none
  | some a =>
    dsimp only
    cases h : m.get a.block with
    | cells c te g =>
      cases ho : (bif Nat.beq sl 0 then some [] else loadCells m a (sl * k)) with
      | none => exact LowOK.none.of_eq (fun l => by simp only [M.wl_get, loadCells_wl, first?_wl, len?_wl, slack_wl, *, cond_true, cond_false, Option.map_some, Option.map_none] <;> rfl)
      | some old =>
        cases h1 : (g.isNone || (g == some k && Nat.blt (a.off + sc * k) c.length)) with
        | true => exact LowOK.of_eq (LowOK.push (.slice (some ⟨m.n, 0, none⟩) need need) (.cells (old ++ news) e (some k))) (fun l => by simp only [M.wl_get, loadCells_wl, first?_wl, len?_wl, slack_wl, *, cond_true, cond_false, Option.map_some, Option.map_none] <;> rfl)
        | false =>
          cases h2 : (g == some k && Nat.beq a.off 0 && a.spot.isNone && Nat.beq (sl * k) c.length && Nat.beq sc sl && Nat.beq te e) with
          | true => exact LowOK.of_eq (LowOK.setPush (.slice (some ⟨m.n, 0, none⟩) need need) a.block .dead (.cells (old ++ news) e (some k))) (fun l => by simp only [M.wl_get, loadCells_wl, first?_wl, len?_wl, slack_wl, *, cond_true, cond_false, Option.map_some, Option.map_none] <;> rfl)
          | false => exact LowOK.none.of_eq (fun l => by simp only [M.wl_get, loadCells_wl, first?_wl, len?_wl, slack_wl, *, cond_true, cond_false, Option.map_some, Option.map_none] <;> rfl)
    | _ => exact LowOK.none.of_eq (fun l => by simp only [M.wl_get, loadCells_wl, first?_wl, len?_wl, slack_wl, *, cond_true, cond_false, Option.map_some, Option.map_none] <;> rfl)
theorem append?_low {t u : TypeId} {s x : Value} : LowOK m (fun m => append? E m t u s x) := by
  unfold append?
  split
  · rename_i ti ui base sl sc n _ _ _
    split
    · exact LowOK.none
    · rename_i e _ _
      cases h1 : E.ty.get e with
      | none => exact LowOK.none
      | some ei =>
        cases h2 : first? m ti.es n x with
        | none => exact LowOK.none.of_eq (fun l => by simp only [M.wl_get, loadCells_wl, first?_wl, len?_wl, slack_wl, *, cond_true, cond_false, Option.map_some, Option.map_none] <;> rfl)
        | some news =>
          cases h3 : (Nat.beq ti.es 0 || Nat.blt 65536 ei.bytes || !news.all one || Nat.blt 268435456 (sl + n) || !Nat.beq news.length (n * ti.es) || !zeroLen ei.zero ti.es) with
          | true => exact LowOK.none.of_eq (fun l => by simp only [M.wl_get, loadCells_wl, first?_wl, len?_wl, slack_wl, *, cond_true, cond_false, Option.map_some, Option.map_none] <;> rfl)
          | false =>
            cases h4 : Nat.ble (sl + n) sc with
            | false => exact grow?_low.of_eq (fun l => by simp only [M.wl_get, loadCells_wl, first?_wl, len?_wl, slack_wl, *, cond_true, cond_false, Option.map_some, Option.map_none] <;> rfl)
            | true =>
              cases base with
              | none =>
                cases h5 : Nat.beq n 0 with
                | true => exact LowOK.of_eq (LowOK.same (.slice none sl sc)) (fun l => by simp only [M.wl_get, loadCells_wl, first?_wl, len?_wl, slack_wl, *, cond_true, cond_false, Option.map_some, Option.map_none] <;> rfl)
                | false => exact LowOK.none.of_eq (fun l => by simp only [M.wl_get, loadCells_wl, first?_wl, len?_wl, slack_wl, *, cond_true, cond_false, Option.map_some, Option.map_none] <;> rfl)
              | some a =>
                cases h5 : Nat.beq n 0 with
                | true => exact LowOK.of_eq (LowOK.same (.slice (some a) (sl + n) sc)) (fun l => by simp only [M.wl_get, loadCells_wl, first?_wl, len?_wl, slack_wl, *, cond_true, cond_false, Option.map_some, Option.map_none] <;> rfl)
                | false => exact LowOK.of_eq (storeCells_low (v := .slice (some a) (sl + n) sc) (a := a.add (sl * ti.es)) (vs := news)) (fun l => by simp only [M.wl_get, loadCells_wl, first?_wl, len?_wl, slack_wl, *, cond_true, cond_false, Option.map_some, Option.map_none] <;> rfl)
    · exact LowOK.none
  · exact LowOK.none
theorem copy?_low {t : TypeId} {d x : Value} : LowOK m (fun m => copy? E m t d x) := by
  unfold copy?
  split
  · rename_i ti base dl _ xl _ _
    cases h2 : first? m ti.es (min xl dl) x with
    | none => exact LowOK.none.of_eq (fun l => by cases hd : ti.d <;> simp only [first?_wl, h2, hd])
    | some cs =>
      cases hd : ti.d with
      | slice e =>
        cases h3 : Nat.beq ti.es 0 with
        | true => exact LowOK.none.of_eq (fun l => by simp only [M.wl_get, loadCells_wl, first?_wl, len?_wl, slack_wl, *, cond_true, cond_false, Option.map_some, Option.map_none] <;> rfl)
        | false =>
          cases base with
          | none => exact LowOK.of_eq (LowOK.same (.int .i64 (min xl dl : Nat))) (fun l => by simp only [M.wl_get, loadCells_wl, first?_wl, len?_wl, slack_wl, *, cond_true, cond_false, Option.map_some, Option.map_none] <;> rfl)
          | some a =>
            cases h5 : Nat.beq (min xl dl) 0 with
            | true => exact LowOK.of_eq (LowOK.same (.int .i64 (min xl dl : Nat))) (fun l => by simp only [M.wl_get, loadCells_wl, first?_wl, len?_wl, slack_wl, *, cond_true, cond_false, Option.map_some, Option.map_none] <;> rfl)
            | false => exact LowOK.of_eq (storeCells_low (v := .int .i64 (min xl dl : Nat)) (a := a) (vs := cs)) (fun l => by simp only [M.wl_get, loadCells_wl, first?_wl, len?_wl, slack_wl, *, cond_true, cond_false, Option.map_some, Option.map_none] <;> rfl)
      | _ => exact LowOK.none.of_eq (fun l => by simp only [M.wl_get, loadCells_wl, first?_wl, len?_wl, slack_wl, *, cond_true, cond_false, Option.map_some, Option.map_none] <;> rfl)
  · exact LowOK.none
theorem clear?_low {t : TypeId} {x : Value} : LowOK m (fun m => clear? E m t x) := by
  unfold clear?
  split
  · exact LowOK.same _
  · rename_i ti a n _ _
    cases Nat.beq n 0 with
    | true => exact LowOK.same _
    | false =>
      dsimp only [cond_false]
      split
      · split
        · exact storeCells_low
        · exact LowOK.none
      · exact LowOK.none
  · exact LowOK.none
theorem mapUpdate?_low {v : Value} {t : TypeId} {x k y : Value} : LowOK m (fun m => (mapUpdate? E m t x k y).map fun m => (v, m)) := by
  unfold mapUpdate?
  split
  · rename_i ti r _
    cases h : m.get r with
    | map es clock =>
      cases ti.d with
      | map kt et =>
        cases h1 : keyed E kt k with
        | false => exact LowOK.none.of_eq (fun l => by simp only [M.wl_get, loadCells_wl, first?_wl, len?_wl, slack_wl, *, cond_true, cond_false, Option.map_some, Option.map_none] <;> rfl)
        | true =>
          cases h2 : findKey E kt k es 0 with
          | none => exact LowOK.none.of_eq (fun l => by simp only [M.wl_get, loadCells_wl, first?_wl, len?_wl, slack_wl, *, cond_true, cond_false, Option.map_some, Option.map_none] <;> rfl)
          | some r2 =>
            cases r2 with
            | none => exact (LowOK.set v r _).of_eq (fun l => by simp only [M.wl_get, loadCells_wl, first?_wl, len?_wl, slack_wl, *, cond_true, cond_false, Option.map_some, Option.map_none] <;> rfl)
            | some p => exact (LowOK.set v r _).of_eq (fun l => by simp only [M.wl_get, loadCells_wl, first?_wl, len?_wl, slack_wl, *, cond_true, cond_false, Option.map_some, Option.map_none] <;> rfl)
      | _ => exact LowOK.none.of_eq (fun l => by simp only [M.wl_get, loadCells_wl, first?_wl, len?_wl, slack_wl, *, cond_true, cond_false, Option.map_some, Option.map_none] <;> rfl)
    | _ => exact LowOK.none.of_eq (fun l => by cases hd : ti.d <;> simp only [M.wl_get, h, hd, Option.map_none])
  · exact LowOK.none
theorem buildSlice?_low {t : TypeId} {n : Nat} {ps : List (Nat × Value)} : LowOK m (fun m => buildSlice? E m t n ps) := by
  unfold buildSlice?
  split
  · exact LowOK.none
  · split
    · split
      · exact LowOK.none
      · rename_i ti _ _ e _ _ z _
        cases (Nat.beq (cells z).length ti.es && Nat.ble (n * ti.es) 1048576) with
        | false => exact LowOK.none
        | true =>
          dsimp only [cond_true]
          cases fill (fun i => some (i * ti.es, ti.es)) (zeros (cells z) n) ps with
          | none => exact LowOK.none
          | some cs => exact LowOK.of_eq (LowOK.push (.slice (some ⟨m.n, 0, none⟩) n n) (.cells cs e none)) (fun l => rfl)
    · exact LowOK.none
theorem makeSlice?_low {t : TypeId} {x y : Value} : LowOK m (fun m => makeSlice? E m t x y) := by
  unfold makeSlice?
  cases E.ty.get t with
  | none => exact LowOK.none
  | some ti =>
    dsimp only
    split
    · rename_i e k l k' c hd
      cases E.ty.get e with
      | none => exact LowOK.none
      | some ei =>
        dsimp only
        cases ei.zero with
        | none => exact LowOK.none
        | some z =>
          dsimp only
          split
          · exact LowOK.of_eq (LowOK.push (.slice (some ⟨m.n, 0, none⟩) l.toNat c.toNat) (.cells (zeros (cells z) c.toNat) e none)) (fun l => rfl)
          · exact LowOK.none
    · exact LowOK.none
theorem builtin?_low {b : Builtin} {ts : List TypeId} {args : List Value} : LowOK m (fun m => builtin? E m b ts args) := by
  unfold builtin?
  split
  · exact append?_low
  · exact copy?_low
  · exact clear?_low
  · rename_i t x
    cases h : len? E m t x with
    | none => exact LowOK.none.of_eq (fun l => by simp only [M.wl_get, loadCells_wl, first?_wl, len?_wl, slack_wl, *, cond_true, cond_false, Option.map_some, Option.map_none] <;> rfl)
    | some v => exact (LowOK.same v).of_eq (fun l => by simp only [M.wl_get, loadCells_wl, first?_wl, len?_wl, slack_wl, *, cond_true, cond_false, Option.map_some, Option.map_none] <;> rfl)
  · cases h : (foldInts (fun x y => if y < x then y else x) args) with
    | none => exact LowOK.none
    | some v => exact LowOK.same v
  · cases h : (foldInts (fun x y => if y > x then y else x) args) with
    | none => exact LowOK.none
    | some v => exact LowOK.same v
  · split
    · split
      · rename_i e a y c _
        cases h : slack m a with
        | true => exact LowOK.none.of_eq (fun l => by simp only [slack_wl, h, cond_true])
        | false => exact (LowOK.same (.int .i64 c)).of_eq (fun l => by simp only [slack_wl, h, cond_false])
      · exact LowOK.same _
      · exact LowOK.none
    · exact LowOK.none
  · exact LowOK.none
end
end Go.D

/- The program logic over D, its second part: operations. -/
namespace Go.D
open Go

noncomputable section
variable {E : Env} {m : M}
/-- The operation is no call of a function. -/
def noCall : Op → Bool
  | .call c => match c.callee with | .builtin _ => true | _ => false
  | _ => true

theorem op?_low {o : Op} {call : CallFn} {T : Tr Value} (hn : noCall o = true) : LowOK m (fun m => op? o E call T m) := by
  cases o <;> dsimp only [op?] <;> try exact LowOK.none
  case move x => exact LowOK.same _
  case assign x => exact LowOK.same _
  case pick c a b =>
    unfold opPick
    split
    · exact LowOK.same _
    · exact LowOK.none
  case alloc t =>
    unfold opAlloc
    split
    · exact LowOK.of_eq (LowOK.push (.pointer (some ⟨m.n, 0, none⟩)) _) (fun l => rfl)
    · exact LowOK.none
  case box t x =>
    unfold opBox
    exact LowOK.of_eq (LowOK.push (.pointer (some ⟨m.n, 0, none⟩)) _) (fun l => rfl)
  case build t ps =>
    unfold opBuild
    split
    · exact LowOK.same _
    · exact LowOK.none
  case buildSlice t n ps => exact buildSlice?_low
  case insert t x k y =>
    unfold opMapUpdate
    exact (mapUpdate?_low (v := undef)).of_eq (fun l => by cases mapUpdate? E (m.wl l) t (ev T x) (ev T k) (ev T y) <;> rfl)
  case load t a =>
    unfold opLoad
    split
    · rename_i a _
      cases h : loadVar E m t a with
      | none => exact LowOK.none.of_eq (fun l => by rw [loadVar_wl, h])
      | some v => exact (LowOK.same v).of_eq (fun l => by rw [loadVar_wl, h])
    · exact LowOK.none
  case store t a x =>
    unfold opStore
    split
    · rename_i a _
      exact (storeVar_low (v := undef)).of_eq (fun l => by cases storeVar E (m.wl l) t a (ev T x) <;> rfl)
    · exact LowOK.none
  case nilCheck x =>
    unfold opNilCheck
    split
    · exact LowOK.same _
    · exact LowOK.same _
    · exact LowOK.none
  case binOp op t x y u =>
    unfold opBin
    split
    · exact LowOK.same _
    · exact LowOK.none
  case unOp op t x =>
    unfold opUn
    split
    · exact LowOK.same _
    · exact LowOK.none
  case convert s d x =>
    unfold opConv
    split
    · exact LowOK.same _
    · exact LowOK.none
  case makeFunc f a b =>
    unfold opMakeFunc
    split
    · exact LowOK.same _
    · exact LowOK.none
  case makeMap t r =>
    unfold opMakeMap
    split
    · exact LowOK.of_eq (LowOK.push (.map (some m.n)) (.map [] 0)) (fun l => rfl)
    · exact LowOK.none
  case makeSlice t l c => exact makeSlice?_low
  case slice t x a b c =>
    unfold opSlice
    cases h : slice? E m t (ev T x) (a.map (ev T)) (b.map (ev T)) (c.map (ev T)) with
    | none => exact LowOK.none.of_eq (fun l => by rw [slice?_wl, h])
    | some v => exact (LowOK.same v).of_eq (fun l => by rw [slice?_wl, h])
  case fieldAddr s x f =>
    unfold opFieldAddr
    split
    · exact LowOK.same _
    · exact LowOK.none
  case field t x f =>
    unfold opField
    split
    · exact LowOK.same _
    · exact LowOK.none
  case indexAddr t x i =>
    unfold opIndexAddr
    split
    · exact LowOK.same _
    · exact LowOK.none
  case index t x i =>
    unfold opIndex
    split
    · exact LowOK.same _
    · exact LowOK.none
  case lookup t x i ok =>
    unfold opLookup
    cases h : lookup? E m t (ev T x) (ev T i) ok with
    | none => exact LowOK.none.of_eq (fun l => by rw [lookup?_wl, h])
    | some v => exact (LowOK.same v).of_eq (fun l => by rw [lookup?_wl, h])
  case mapUpdate t x k y =>
    unfold opMapUpdate
    exact (mapUpdate?_low (v := undef)).of_eq (fun l => by cases mapUpdate? E (m.wl l) t (ev T x) (ev T k) (ev T y) <;> rfl)
  case extract x i =>
    unfold opExtract
    split
    · split
      · exact LowOK.same _
      · exact LowOK.none
    · exact LowOK.none
  case call c =>
    unfold opCall
    cases hc : c.callee with
    | builtin b => exact builtin?_low
    | value f => rw [noCall, hc] at hn; cases hn
    | invoke r s => rw [noCall, hc] at hn; cases hn

/-- What an operation yields depends on its operands alone. -/
theorem op?_congr {o : Op} {call call' : CallFn} {T K : Tr Value} (hn : noCall o = true) (h : ∀ x ∈ o.operands.toList, ev T x = ev K x) : op? o E call T m = op? o E call' K m := by
  cases o <;> dsimp only [op?] <;> simp only [Op.operands, List.mem_cons, List.not_mem_nil, or_false, forall_eq_or_imp, forall_eq] at h
  case move x => simp only [opMove, h]
  case assign x => simp only [opMove, h]
  case pick c a b => simp only [opPick, h.1, h.2.1, h.2.2]
  case alloc t => simp only [opAlloc]
  case box t x => simp only [opBox, h]
  case build t ps =>
    have e : ps.toList.map (fun p => (p.1, ev T p.2)) = ps.toList.map (fun p => (p.1, ev K p.2)) := List.map_congr_left fun p hp => by rw [h p.2 (by simpa using ⟨p.1, by simpa using hp⟩)]
    simp only [opBuild, e]
  case buildSlice t n ps =>
    have e : ps.toList.map (fun p => (p.1, ev T p.2)) = ps.toList.map (fun p => (p.1, ev K p.2)) := List.map_congr_left fun p hp => by rw [h p.2 (by simpa using ⟨p.1, by simpa using hp⟩)]
    simp only [opBuildSlice, e]
  case insert t x k y => simp only [opMapUpdate, h.1, h.2.1, h.2.2]
  case load t a => simp only [opLoad, h]
  case store t a x => simp only [opStore, h.1, h.2]
  case nilCheck x => simp only [opNilCheck, h]
  case binOp op t x y u => simp only [opBin, h.1, h.2]
  case unOp op t x => simp only [opUn, h]
  case convert s d x => simp only [opConv, h]
  case makeFunc f a b =>
    have e1 : a.toList.map (ev T) = a.toList.map (ev K) := List.map_congr_left fun p hp => h p (by simp only [Array.toList_append, List.mem_append]; exact .inl hp)
    have e2 : b.toList.map (ev T) = b.toList.map (ev K) := List.map_congr_left fun p hp => h p (by simp only [Array.toList_append, List.mem_append]; exact .inr hp)
    simp only [opMakeFunc, e1, e2]
  case makeMap t r => simp only [opMakeMap]
  case makeSlice t l c => simp only [opMakeSlice, h.1, h.2]
  case slice t x a b c =>
    have e0 : ev T x = ev K x := h x (by simp)
    have e1 : a.map (ev T) = a.map (ev K) := by
      cases a with
      | none => rfl
      | some y => simp only [Option.map_some, h y (by simp)]
    have e2 : b.map (ev T) = b.map (ev K) := by
      cases b with
      | none => rfl
      | some y => simp only [Option.map_some, h y (by simp)]
    have e3 : c.map (ev T) = c.map (ev K) := by
      cases c with
      | none => rfl
      | some y => simp only [Option.map_some, h y (by simp)]
    simp only [opSlice, e0, e1, e2, e3]
  case fieldAddr s x f => simp only [opFieldAddr, h]
  case field t x f => simp only [opField, h]
  case indexAddr t x i => simp only [opIndexAddr, h.1, h.2]
  case index t x i => simp only [opIndex, h.1, h.2]
  case lookup t x i ok => simp only [opLookup, h.1, h.2]
  case mapUpdate t x k y => simp only [opMapUpdate, h.1, h.2.1, h.2.2]
  case extract x i => simp only [opExtract, h]
  case call c =>
    have e1 : c.args.toList.map (ev T) = c.args.toList.map (ev K) := List.map_congr_left fun p hp => h p (by simp only [Call.operands, Array.toList_append, List.mem_append]; exact .inr hp)
    unfold opCall
    rw [noCall] at hn
    cases hc : c.callee with
    | builtin b => simp only [e1]
    | value f => simp [hc] at hn
    | invoke r s => simp [hc] at hn
end
end Go.D

/- The program logic over D, its third part: what a statement does, by a formula that is read off the code ('vc'), and the proof that the formula suffices. The formula names values alone: the temporaries are gone from it. -/
namespace Go.D
open Go

/-- What is known of a temporary: it holds no value yet (its operation was passed over), or a value. -/
inductive KV where
  | u
  | v (x : Value)
def KV.val : KV → Value
  | .u => undef
  | .v x => x
/-- The newest first; nothing: what was known before is not known any more. -/
inductive KT where
  | e
  | c (t : Nat) (x : Option KV) (r : KT)
noncomputable def KT.get (K : KT) : Nat → Option KV :=
  KT.rec (motive := fun _ => Nat → Option KV) (fun _ => none) (fun t x _ g i => bif Nat.beq t i then x else g i) K
noncomputable def KT.set (K : KT) (t : Nat) (x : KV) : KT := .c t (some x) K
noncomputable def KT.del (K : KT) (t : Nat) : KT := .c t none K
theorem KT.get_c {t i : Nat} {x : Option KV} {r : KT} : (KT.c t x r).get i = if i = t then x else r.get i := by
  show (bif Nat.beq t i then x else r.get i) = _
  cases h : Nat.beq t i with
  | true => rw [if_pos (Nat.eq_of_beq_eq_true h).symm]; rfl
  | false => rw [if_neg fun e => Nat.ne_of_beq_eq_false h e.symm]; rfl
theorem KT.get_set (K : KT) (t i : Nat) (x : KV) : (K.set t x).get i = if i = t then some x else K.get i := KT.get_c
theorem KT.get_del (K : KT) (t i : Nat) : (K.del t).get i = if i = t then none else K.get i := KT.get_c
/-- The temporaries that are known, the store (but for its mark), and the mark. -/
structure St where
  K : KT
  m : M
  lo : Nat

def Kn (K : KT) (T : Tr Value) : Prop := ∀ t v, K.get t = some v → T.get t = some v.val
noncomputable section
def putK (K : KT) (dst : Option Tmp) (v : KV) : KT :=
  match dst with
  | some d => K.set d v
  | none => K
def evK (K : KT) : Operand → Option Value
  | .tmp t => match K.get t with | some k => some k.val | none => none
  | .const v => some v
  | .global g => some (.pointer (some ⟨g, 0, none⟩))
  | .func f => some (.func (.func f) #[] #[])
def evKs (K : KT) : List Operand → Option (List Value)
  | [] => some []
  | x :: xs => match evK K x with
    | some v => match evKs K xs with
      | some vs => some (v :: vs)
      | none => none
    | none => none
def evPs (K : KT) : List (Nat × Operand) → Option (List (Nat × Value))
  | [] => some []
  | p :: xs => match evK K p.2 with
    | some v => match evPs K xs with
      | some vs => some ((p.1, v) :: vs)
      | none => none
    | none => none
def evO (K : KT) : Option Operand → Option (Option Value)
  | none => some none
  | some x => match evK K x with | some v => some (some v) | none => none
variable (E : Env) (X : CallFn)
/-- From some depth on the call comes to v and m'; the least block that it writes of those that were there is b (m.n: none). -/
def Cl (f : Fn) (args : List Value) (m : M) (b : Nat) (v : Value) (m' : M) : Prop :=
  m.n ≤ m'.n ∧ b ≤ m.n ∧ ∃ n0, ∀ n, n0 ≤ n → ∀ l, l ≤ m.n → call? E X n f args (m.wl l) = some (v, m'.wl (min l b))
def V (c : Code) (s : St) (Q : Ex → St → Prop) : Prop :=
  ∀ T, Kn s.K T → s.lo ≤ s.m.n → ∃ e s' T', Q e s' ∧ Kn s'.K T' ∧ s.m.n ≤ s'.m.n ∧ s'.lo ≤ s'.m.n ∧ ∃ n0, ∀ n, n0 ≤ n →
    exec? E (call? E X n) n c ⟨T, s.m.wl s.lo⟩ = some (e, ⟨T', s'.m.wl s'.lo⟩)
/- The words of the formula. -/
def onS {α : Type} (r : Option α) (P : α → Prop) : Prop := match r with | some x => P x | none => False
def on2 {α β : Type} (r : Option (α × β)) (P : α → β → Prop) : Prop := match r with | some x => P x.1 x.2 | none => False
def onM (m : M) (P : M → Prop) : Prop := P m
def ifB (b : Bool) (P Q : Prop) : Prop := match b with | true => P | false => Q
def ifV (v : Value) (P Q : Prop) : Prop := match v with | .bool b => ifB b P Q | _ => False
def onFn (v : Value) (P : Fn → Array Value → Array Value → Prop) : Prop := match v with | .func g fi ca => P g fi ca | _ => False
def onC (f : Fn) (args : List Value) (m : M) (P : Value → M → Nat → Prop) : Prop := ∃ v m' b, Cl E X f args m b v m' ∧ P v m' b
def cnd (br : Bool) (c : Prop) (P : Prop) : Prop := match br with | true => c ∧ P | false => P
def un (vs : List Value) (P : Value → List Value → Prop) : Prop := match vs with | v :: r => P v r | [] => False
variable {E}
def nilck? (v : Value) : Option Value := match v with | .pointer (some a) => some (.pointer (some a)) | .func (.func f) a b => some (.func (.func f) a b) | _ => none
def extr? (v : Value) (i : Nat) : Option Value := match v with | .tuple vs => vs.toList[i]? | _ => none
variable (E)
def load? (m : M) (t : TypeId) (a : Value) : Option Value := match a with | .pointer (some a) => loadVar E m t a | _ => none
def store? (m : M) (t : TypeId) (a x : Value) : Option (M × Nat) := match a with | .pointer (some a) => (match storeVar E m t a x with | some m1 => some (m1, a.block) | none => none) | _ => none
def mapUpd? (m : M) (t : TypeId) (x k y : Value) : Option (M × Nat) := match x with | .map (some r) => (match mapUpdate? E m t x k y with | some m1 => some (m1, r) | none => none) | _ => none
def ptrTo (b : Nat) : Value := .pointer (some ⟨b, 0, none⟩)

def vopB (b : Builtin) (ts : List TypeId) (args : List Value) (br : Bool) (m : M) (lo : Nat) (P : Value → M → Nat → Prop) : Prop :=
  match b with
  | .len | .cap | .min | .max => on2 (builtin? E m b ts args) fun v _ => P v m lo
  | _ => on2 (builtin? E (m.wl m.n) b ts args) fun v m1 => cnd br (m.n ≤ m1.low) (P v m1 (min lo m1.low))
def vop (o : Op) (br : Bool) (K : KT) (m : M) (lo : Nat) (P : Value → M → Nat → Prop) : Prop :=
  match o with
  | .move x | .assign x => onS (evK K x) fun x => P x m lo
  | .pick c a b => onS (evK K c) fun c => ifV c (onS (evK K a) fun a => P a m lo) (onS (evK K b) fun b => P b m lo)
  | .alloc t => onS (zero? E t) fun z => onM (m.push (.cells (cells z) t none)) fun m1 => P (ptrTo m.n) m1 lo
  | .box t x => onS (evK K x) fun x => onM (m.push (.cells (cells x) t none)) fun m1 => P (ptrTo m.n) m1 lo
  | .build t ps => onS (evPs K ps.toList) fun ps => onS (build? E t ps) fun v => P v m lo
  | .buildSlice t n ps => onS (evPs K ps.toList) fun ps => on2 (buildSlice? E m t n ps) fun v m1 => P v m1 lo
  | .load t a => onS (evK K a) fun a => onS (load? E m t a) fun v => P v m lo
  | .store t a x => onS (evK K a) fun a => onS (evK K x) fun x => on2 (store? E m t a x) fun m1 b => cnd br (m.n ≤ b) (P undef m1 (min lo b))
  | .nilCheck x => onS (evK K x) fun x => onS (nilck? x) fun v => P v m lo
  | .binOp op t x y _ => onS (evK K x) fun x => onS (evK K y) fun y => onS (bin? E op t x y) fun v => P v m lo
  | .unOp op _ x => onS (evK K x) fun x => onS (un? op x) fun v => P v m lo
  | .convert s d x => onS (evK K x) fun x => onS (conv? E s d x) fun v => P v m lo
  | .makeFunc f a b => onS (evKs K a.toList) fun a => onS (evKs K b.toList) fun b => match f with
    | .func f => P (.func (.func f) a.toArray b.toArray) m lo
    | _ => False
  | .makeMap _ r => match r with
    | none => onM (m.push (.map [] 0)) fun m1 => P (.map (some m.n)) m1 lo
    | some _ => False
  | .makeSlice t l c => onS (evK K l) fun l => onS (evK K c) fun c => on2 (makeSlice? E m t l c) fun v m1 => P v m1 lo
  | .slice t x a b c => onS (evK K x) fun x => onS (evO K a) fun a => onS (evO K b) fun b => onS (evO K c) fun c => onS (slice? E m t x a b c) fun v => P v m lo
  | .fieldAddr s x f => onS (evK K x) fun x => onS (fieldAddr? E s x f) fun v => P v m lo
  | .field t x f => onS (evK K x) fun x => onS (field? E t x f) fun v => P v m lo
  | .indexAddr t x i => onS (evK K x) fun x => onS (evK K i) fun i => onS (indexAddr? E t x i) fun v => P v m lo
  | .index t x i => onS (evK K x) fun x => onS (evK K i) fun i => onS (index? E t x i) fun v => P v m lo
  | .lookup t x i ok => onS (evK K x) fun x => onS (evK K i) fun i => onS (lookup? E m t x i ok) fun v => P v m lo
  | .mapUpdate t x k y => onS (evK K x) fun x => onS (evK K k) fun k => onS (evK K y) fun y => on2 (mapUpd? E m t x k y) fun m1 b => cnd br (m.n ≤ b) (P undef m1 (min lo b))
  | .insert t x k y => onS (evK K x) fun x => onS (evK K k) fun k => onS (evK K y) fun y => on2 (mapUpd? E m t x k y) fun m1 b => cnd br (m.n ≤ b) (P undef m1 (min lo b))
  | .extract x i => onS (evK K x) fun x => onS (extr? x i) fun v => P v m lo
  | .call c => match c.callee with
    | .value f => onS (evK K f) fun f => onFn f fun g fi ca => onS (evKs K c.args.toList) fun args => onC E X g (fi.toList ++ (args ++ ca.toList)) m fun v m1 b => cnd br (m.n ≤ b) (P v m1 (min lo b))
    | .builtin b => onS (evKs K c.args.toList) fun args => vopB E b c.argTypes.toList args br m lo P
    | _ => False
  | _ => False
/-- The operation's guard: where it is known beforehand, one way is left; else both, and the guard is known behind. -/
def wantK (ops : Array Oper) (K : KT) (o : Oper) (P S : KT → Prop) : Prop :=
  match o.guard with
  | none => P K
  | some (j, want) => match (ops.toList[j]?).bind (·.dst) with
    | some d => match K.get d with
      | some (.v v) => ifV v (cond want (P (K.set d (.v (.bool true)))) (S (K.set d (.v (.bool true))))) (cond want (S (K.set d (.v (.bool false)))) (P (K.set d (.v (.bool false)))))
      | some .u => S K
      | none => False
    | none => S K
def vops (d : Bool) (ops : Array Oper) : List Oper → Nat → St → (St → Prop) → Prop
  | [], _, s, P => P s
  | o :: rest, j, s, P => wantK ops s.K o
      (fun K => vop E X o.op (d && !(barrier ops j)) K s.m s.lo fun v m lo => vops d ops rest (j + 1) ⟨putK K o.dst (.v v), m, lo⟩ P)
      (fun K => vops d ops rest (j + 1) ⟨putK K o.dst .u, s.m, s.lo⟩ P)
def Ex.onN (e : Ex) (P Q : Prop) : Prop := match e with | .normal => P | _ => Q
def Ex.catch (id : Nat) (e : Ex) : Ex := match e with | .exit id' => bif Nat.beq id' id then .normal else .exit id' | e => e
/-- The temporaries that a statement assigns. -/
def assigned : Code → List Nat
  | .region _ ops _ => ops.toList.filterMap (·.dst)
  | .seq a b => assigned a ++ assigned b
  | .cond _ x y => assigned x ++ assigned y
  | .block _ c | .loop c | .scope c => assigned c
  | _ => []
/-- Those of a list that are known, each once. -/
def carried (K : KT) : List Nat → List Nat → List Nat
  | [], acc => acc
  | t :: ts, acc => bif acc.contains t then carried K ts acc else match K.get t with
    | some (.v _) => carried K ts (acc ++ [t])
    | _ => carried K ts acc
def forget (K : KT) : List Nat → KT
  | [] => K
  | t :: ts => forget (K.del t) ts
/-- The list's values become known. -/
def bindL : List Nat → List Value → KT → (KT → Prop) → Prop
  | [], _, K, f => f K
  | t :: ts, vs, K, f => un vs fun v r => bindL ts r (K.set t (.v v)) f
def valsOf (K : KT) : List Nat → Option (List Value)
  | [] => some []
  | t :: ts => match K.get t with
    | some (.v v) => match valsOf K ts with
      | some vs => some (v :: vs)
      | none => none
    | _ => none
/-- A loop: F P: one round, behind which P is wanted. -/
def Lp (F : (List Value → M → Nat → Prop) → List Value → M → Nat → Prop) (vs : List Value) (m : M) (lo : Nat) : Prop :=
  ∃ (γ : Type) (μ : γ → Nat) (I : γ → List Value → M → Nat → Prop), (∃ g, I g vs m lo) ∧
    ∀ g vs m lo, I g vs m lo → F (fun vs m lo => ∃ g', μ g' < μ g ∧ I g' vs m lo) vs m lo
def vc : Code → St → (Ex → St → Prop) → Prop
  | .skip, s, Q => Q .normal s
  | .label _, s, Q => Q .normal s
  | .region _ ops d, s, Q => vops E X d ops ops.toList 0 s (Q .normal)
  | .seq a b, s, Q => vc a s fun e s => e.onN (vc b s Q) (Q e s)
  | .cond c x y, s, Q => onS (evK s.K c) fun v => ifV v (vc x s Q) (vc y s Q)
  | .block id c, s, Q => vc c s fun e s => Q (e.catch id) s
  | .exit id, s, Q => Q (.exit id) s
  | .ret, s, Q => Q .ret s
  | .loop c, s, Q =>
    onS (valsOf s.K (carried s.K (assigned c) [])) fun vs => Lp (fun P vs m lo => bindL (carried s.K (assigned c) []) vs (forget s.K (assigned c)) fun K => vc c ⟨K, m, lo⟩ fun e s' =>
      e.onN (onS (valsOf s'.K (carried s.K (assigned c) [])) fun vs => P vs s'.m s'.lo) (Q e s')) vs s.m s.lo
  | c, s, Q => V E X c s Q
end
section
variable {E : Env} {X : CallFn}
theorem onS_some {α : Type} {x : α} {P : α → Prop} : onS (some x) P = P x := rfl
theorem onS_none {α : Type} {P : α → Prop} : onS none P = False := rfl
theorem on2_some {α β : Type} {x : α} {y : β} {P : α → β → Prop} : on2 (some (x, y)) P = P x y := rfl
theorem on2_none {α β : Type} {P : α → β → Prop} : on2 none P = False := rfl
theorem onS_iff {α : Type} {r : Option α} {P : α → Prop} : onS r P ↔ ∃ x, r = some x ∧ P x := by
  cases r with
  | none => exact ⟨fun h => h.elim, fun ⟨x, h, _⟩ => by cases h⟩
  | some y => exact ⟨fun h => ⟨y, rfl, h⟩, fun ⟨x, h, hp⟩ => by cases h; exact hp⟩
theorem on2_iff {α β : Type} {r : Option (α × β)} {P : α → β → Prop} : on2 r P ↔ ∃ x y, r = some (x, y) ∧ P x y := by
  cases r with
  | none => exact ⟨fun h => h.elim, fun ⟨x, y, h, _⟩ => by cases h⟩
  | some y => exact ⟨fun h => ⟨y.1, y.2, rfl, h⟩, fun ⟨x, y, h, hp⟩ => by cases h; exact hp⟩
theorem ifB_iff {b : Bool} {P Q : Prop} : ifB b P Q ↔ (b = true → P) ∧ (b = false → Q) := by
  cases b with
  | true => exact ⟨fun h => ⟨fun _ => h, fun e => by cases e⟩, fun h => h.1 rfl⟩
  | false => exact ⟨fun h => ⟨(fun e => by cases e), fun _ => h⟩, fun h => h.2 rfl⟩
theorem ifV_iff {v : Value} {P Q : Prop} : ifV v P Q ↔ ∃ b, v = .bool b ∧ ifB b P Q := by
  constructor
  · intro h
    cases v with
    | bool b => exact ⟨b, rfl, h⟩
    | _ => exact h.elim
  · rintro ⟨b, rfl, h⟩; exact h
theorem onFn_iff {v : Value} {P : Fn → Array Value → Array Value → Prop} : onFn v P ↔ ∃ g fi ca, v = .func g fi ca ∧ P g fi ca := by
  constructor
  · intro h
    cases v with
    | func g fi ca => exact ⟨g, fi, ca, rfl, h⟩
    | _ => exact h.elim
  · rintro ⟨g, fi, ca, rfl, h⟩; exact h
theorem un_iff {vs : List Value} {P : Value → List Value → Prop} : un vs P ↔ ∃ v r, vs = v :: r ∧ P v r := by
  cases vs with
  | nil => exact ⟨fun h => h.elim, fun ⟨v, r, h, _⟩ => by cases h⟩
  | cons v r => exact ⟨fun h => ⟨v, r, rfl, h⟩, fun ⟨v, r, h, hp⟩ => by cases h; exact hp⟩
theorem cnd_iff {br : Bool} {c P : Prop} : cnd br c P ↔ (br = true → c) ∧ P := by
  cases br with
  | true => exact ⟨fun h => ⟨fun _ => h.1, h.2⟩, fun h => ⟨h.1 rfl, h.2⟩⟩
  | false => exact ⟨fun h => ⟨(fun e => by cases e), h⟩, fun h => h.2⟩
theorem Kn.put {K : KT} {T : Tr Value} (h : Kn K T) (d : Option Tmp) (v : KV) : Kn (putK K d v) (put T d v.val) := by
  cases d with
  | none => exact h
  | some d =>
    intro t x hx
    simp only [D.put, putK, Tr.get_set, KT.get_set] at hx ⊢
    split
    · rename_i e; rw [if_pos e] at hx; cases hx; rfl
    · rename_i e; rw [if_neg e] at hx; exact h t x hx
/-- A temporary's value may be said again. -/
theorem Kn.again {K : KT} {T : Tr Value} (h : Kn K T) {d : Nat} {v : Value} (hd : K.get d = some (.v v)) : Kn (K.set d (.v v)) T := by
  intro t x hx
  simp only [KT.get_set] at hx
  split at hx
  · rename_i e; cases hx; rw [e]; exact h d _ hd
  · exact h t x hx
theorem Kn.set {K : KT} {T : Tr Value} (h : Kn K T) {d : Nat} {v : Value} (hd : T.get d = some v) : Kn (K.set d (.v v)) T := by
  intro t x hx
  simp only [KT.get_set] at hx
  split at hx
  · rename_i e; cases hx; rw [e]; exact hd
  · exact h t x hx
theorem evK_sound {K : KT} {T : Tr Value} (h : Kn K T) {x : Operand} {v : Value} (hx : evK K x = some v) : ev T x = v := by
  cases x with
  | tmp t =>
    simp only [evK] at hx
    split at hx
    · rename_i k hk
      cases hx
      simp only [ev, at?, h t k hk, Option.getD_some]
    · cases hx
  | const c => cases hx; rfl
  | global g => cases hx; rfl
  | func f => cases hx; rfl
theorem evKs_sound {K : KT} {T : Tr Value} (h : Kn K T) : ∀ {xs : List Operand} {vs : List Value}, evKs K xs = some vs → xs.map (ev T) = vs
  | [], vs, hx => by cases hx; rfl
  | x :: xs, vs, hx => by
    unfold evKs at hx
    split at hx
    · rename_i v h1
      split at hx
      · rename_i vs' h2
        cases hx
        simp only [List.map_cons, evK_sound h h1, evKs_sound h h2]
      · cases hx
    · cases hx
theorem evPs_sound {K : KT} {T : Tr Value} (h : Kn K T) : ∀ {xs : List (Nat × Operand)} {vs : List (Nat × Value)}, evPs K xs = some vs → xs.map (fun p => (p.1, ev T p.2)) = vs
  | [], vs, hx => by cases hx; rfl
  | x :: xs, vs, hx => by
    unfold evPs at hx
    split at hx
    · rename_i v h1
      split at hx
      · rename_i vs' h2
        cases hx
        simp only [List.map_cons, evK_sound h h1, evPs_sound h h2]
      · cases hx
    · cases hx
theorem evO_sound {K : KT} {T : Tr Value} (h : Kn K T) {x : Option Operand} {v : Option Value} (hx : evO K x = some v) : x.map (ev T) = v := by
  cases x with
  | none => cases hx; rfl
  | some x =>
    unfold evO at hx
    dsimp only at hx
    split at hx
    · rename_i w h1
      cases hx
      simp only [Option.map_some, evK_sound h h1]
    · cases hx
/-- What an operation comes to. -/
def OpW (E : Env) (X : CallFn) (o : Op) (br : Bool) (T : Tr Value) (m : M) (lo : Nat) (P : Value → M → Nat → Prop) : Prop :=
  ∃ v m1 w, P v m1 (min lo w) ∧ m.n ≤ m1.n ∧ (br = true → m.n ≤ w) ∧
    ∃ n0, ∀ n, n0 ≤ n → ∀ l, l ≤ m.n → op? o E (call? E X n) T (m.wl l) = some (v, m1.wl (min l w))
theorem OpW.push {o : Op} {br : Bool} {T : Tr Value} {m : M} {lo : Nat} {P : Value → M → Nat → Prop} {v : Value} {m1 : M} (hlo : lo ≤ m.n) (hP : P v m1 lo) (hn : m.n ≤ m1.n) (h : ∀ n l, op? o E (call? E X n) T (m.wl l) = some (v, m1.wl l)) : OpW E X o br T m lo P :=
  ⟨v, m1, m.n, by rw [Nat.min_eq_left hlo]; exact hP, hn, fun _ => Nat.le_refl _, 0, fun n _ l hl => by rw [Nat.min_eq_left hl]; exact h n l⟩
theorem OpW.keep {o : Op} {br : Bool} {T : Tr Value} {m : M} {lo : Nat} {P : Value → M → Nat → Prop} {v : Value} (hlo : lo ≤ m.n) (hP : P v m lo) (h : ∀ n l, op? o E (call? E X n) T (m.wl l) = some (v, m.wl l)) : OpW E X o br T m lo P :=
  .push hlo hP (Nat.le_refl _) h
theorem storeVar_wl {m m1 : M} {t : TypeId} {a : Addr} {x : Value} (h : storeVar E m t a x = some m1) (l : Nat) : storeVar E (m.wl l) t a x = some (m1.wl (min l a.block)) ∧ m1.n = m.n := by
  unfold storeVar at h ⊢
  cases ht : E.ty.get t with
  | none => rw [ht] at h; cases h
  | some ti =>
    rw [ht] at h
    dsimp only at h ⊢
    cases hb : Nat.beq (cells x).length ti.size with
    | false => rw [hb] at h; cases h
    | true =>
      rw [hb] at h
      simp only [cond_true] at h ⊢
      unfold storeCells at h ⊢
      rw [M.wl_get]
      cases hg : m.get a.block with
      | cells c e g =>
        rw [hg] at h
        dsimp only at h ⊢
        cases hc : (a.spot.isNone && Nat.ble (a.off + (cells x).length) c.length && (cells x).all one) with
        | false => rw [hc] at h; cases h
        | true => rw [hc] at h; cases h; exact ⟨rfl, rfl⟩
      | _ => rw [hg] at h; cases h
theorem mapUpdate?_wl {m m1 : M} {t : TypeId} {r : Nat} {k y : Value} (h : mapUpdate? E m t (.map (some r)) k y = some m1) (l : Nat) : mapUpdate? E (m.wl l) t (.map (some r)) k y = some (m1.wl (min l r)) ∧ m1.n = m.n := by
  unfold mapUpdate? at h ⊢
  cases ht : E.ty.get t with
  | none => rw [ht] at h; cases h
  | some ti =>
    rw [ht] at h
    dsimp only at h ⊢
    rw [M.wl_get]
    cases hd : ti.d with
    | map kt et =>
      cases hg : m.get r with
      | map es clock =>
        rw [hd, hg] at h
        dsimp only at h ⊢
        cases hk : keyed E kt k with
        | false => rw [hk] at h; cases h
        | true =>
          rw [hk] at h
          simp only [cond_true] at h ⊢
          cases hf : findKey E kt k es 0 with
          | none => rw [hf] at h; cases h
          | some p =>
            rw [hf] at h
            cases p with
            | none => cases h; exact ⟨rfl, rfl⟩
            | some q => cases h; exact ⟨rfl, rfl⟩
      | _ => rw [hd, hg] at h; cases h
    | _ => rw [hd] at h; cases h
theorem buildSlice?_wl {m m1 : M} {t : TypeId} {n : Nat} {ps : List (Nat × Value)} {v : Value} (h : buildSlice? E m t n ps = some (v, m1)) (l : Nat) : buildSlice? E (m.wl l) t n ps = some (v, m1.wl l) ∧ m.n ≤ m1.n := by
  unfold buildSlice? at h ⊢
  split at h
  · cases h
  · split at h
    · split at h
      · cases h
      · rename_i ti ht _ e hd _ z hz
        cases hb : (Nat.beq (cells z).length ti.es && Nat.ble (n * ti.es) 1048576) with
        | false => rw [hb] at h; cases h
        | true =>
          rw [hb] at h
          simp only [cond_true] at h
          cases hf : fill (fun i => some (i * ti.es, ti.es)) (zeros (cells z) n) ps with
          | none => rw [hf] at h; cases h
          | some cs =>
            rw [hf] at h
            cases h
            refine ⟨?_, Nat.le_succ _⟩
            simp only [ht, hd, hz, hb, cond_true, hf]
            rfl
    · cases h
theorem makeSlice?_wl {m m1 : M} {t : TypeId} {x y v : Value} (h : makeSlice? E m t x y = some (v, m1)) (l : Nat) : makeSlice? E (m.wl l) t x y = some (v, m1.wl l) ∧ m.n ≤ m1.n := by
  have hl := (makeSlice?_low (E := E) (m := m) (t := t) (x := x) (y := y))
  unfold makeSlice? at h ⊢
  cases ht : E.ty.get t with
  | none => rw [ht] at h; cases h
  | some ti =>
    rw [ht] at h
    dsimp only at h ⊢
    split at h
    · rename_i e k a k' c hd
      cases he : E.ty.get e with
      | none => rw [he] at h; cases h
      | some ei =>
        rw [he] at h
        dsimp only at h
        cases hz : ei.zero with
        | none => rw [hz] at h; cases h
        | some z =>
          rw [hz] at h
          dsimp only at h
          split at h
          · rename_i hc
            cases h
            refine ⟨?_, Nat.le_succ _⟩
            simp only [hd, he, hz]
            rw [if_pos hc]
            rfl
          · cases h
    · cases h
theorem builtin?_keep {m m1 : M} {b : Builtin} {ts : List TypeId} {args : List Value} {v : Value} (hb : b = .len ∨ b = .cap ∨ b = .min ∨ b = .max) (h : builtin? E m b ts args = some (v, m1)) (l : Nat) : builtin? E (m.wl l) b ts args = some (v, m.wl l) := by
  rcases hb with rfl | rfl | rfl | rfl
  · unfold builtin? at h ⊢
    split at h
    all_goals try (rename_i hq; first | cases hq | skip)
    all_goals first | (simp only [len?_wl]; cases hl : len? E m _ _ with | none => rw [hl] at h; cases h | some w => rw [hl] at h; cases h; rfl) | cases h | skip
  · unfold builtin? at h ⊢
    split at h
    all_goals try (rename_i hq; first | cases hq | skip)
    · split at h
      · split at h
        · rename_i ti ht _ _ e a n c hd
          cases hs : slack m a with
          | true => rw [hs] at h; cases h
          | false =>
            rw [hs] at h; cases h
            simp only [ht, hd, slack_wl, hs, cond_false]
        · rename_i ti ht _ _ e n c hd
          cases h
          simp only [ht, hd]
        · cases h
      · cases h
    · cases h
  · have h : (foldInts (fun x y => if y < x then y else x) args).map (·, m) = some (v, m1) := h
    show (foldInts (fun x y => if y < x then y else x) args).map (·, m.wl l) = some (v, m.wl l)
    cases hl : foldInts (fun x y => if y < x then y else x) args with
    | none => rw [hl] at h; cases h
    | some w => rw [hl] at h; cases h; rfl
  · have h : (foldInts (fun x y => if y > x then y else x) args).map (·, m) = some (v, m1) := h
    show (foldInts (fun x y => if y > x then y else x) args).map (·, m.wl l) = some (v, m.wl l)
    cases hl : foldInts (fun x y => if y > x then y else x) args with
    | none => rw [hl] at h; cases h
    | some w => rw [hl] at h; cases h; rfl
end
end Go.D
