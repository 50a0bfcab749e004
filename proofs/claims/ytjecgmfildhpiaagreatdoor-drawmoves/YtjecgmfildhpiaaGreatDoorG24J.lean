/- What is known beforehand of the laws: sane(). What is known beforehand of DrawChanges: sane(). slices.BinarySearchFunc over units, fabric.Find, draw.Elevation. fabric.Find, draw.Elevation. The plain law of DrawShows. What functions of the program come to, their temporaries gone (made off the translation; each proved by the kernel, word by word). draw.inside, draw.Plan, draw.Section. The plain law of DrawViews. The plain law of DrawMoves: what is moved shows the same. What functions of the program come to, their temporaries gone (made off the translation; each proved by the kernel, word by word). plane.Move, unit.Move. DrawMoves: the walk. -/
import Derived.Test.YtjecgmfildhpiaaGreatDoorSnJ
import Derived.Test.YtjecgmfildhpiaaGreatDoorG7J
import Derived.Test.YtjecgmfildhpiaaGreatDoorG22J
import Derived.Test.YtjecgmfildhpiaaGreatDoorG13J
import Derived.Test.YtjecgmfildhpiaaGreatDoorG12J
import Derived.Test.YtjecgmfildhpiaaGreatDoorG11J
import Derived.Test.YtjecgmfildhpiaaGreatDoorG8J
/- What is known beforehand of the laws: sane(). -/
namespace Go.Proofs.YtjecgmfildhpiaaGreatDoor
open Go Go.D Go.Proofs
noncomputable def saneX : CallFn := fun fn args m =>
  match fn with
  | .func f =>
    bif Nat.beq f 9 then
      match args with
      | [] => bif Nat.blt 2 m.n then some (.bool true, m) else none
      | _ => none
    else none
  | _ => none
theorem saneX_ok : CallOK Tryz.prog saneX := by
  refine ⟨fun f args m v m' hx σ w args' hs hl => ?_, fun l args m v m' hx => by simp [saneX] at hx, fun f args m v m' hx => ?_, fun a m v m' b hx => by
    have e : saneX (.func stN) [.pointer (some a)] m = none := rfl
    rw [e] at hx
    cases hx⟩
  · unfold saneX at hx
    dsimp only at hx
    cases hf : Nat.beq f 9 with
    | false => rw [hf] at hx; simp at hx
    | true =>
      obtain rfl := Nat.eq_of_beq_eq_true hf
      rw [hf] at hx
      simp only [cond_true] at hx
      cases args with
      | cons _ _ => cases hx
      | nil =>
        dsimp only at hx
        cases hn : Nat.blt 2 m.n with
        | false => rw [hn] at hx; cases hx
        | true =>
          rw [hn] at hx
          simp only [cond_true, Option.some.injEq, Prod.mk.injEq] at hx
          obtain ⟨rfl, rfl⟩ := hx
          have hgs : Tryz.prog.globals.size = 3 := by kernel_rfl
          have hg0 : ∀ g, g < 3 → σ g = some ⟨g, none⟩ := fun g hg => hs.glob g (by rw [hgs]; exact hg)
          have dead : ∀ b, (M.get { st := .e, n := 3, low := 3 } b) = .dead := fun b => by
            unfold M.get
            cases Nat.blt b 3 <;> rfl
          have hs0 : Sim Tryz.prog (fun b => if b < 3 then some ⟨b, none⟩ else none) { st := .e, n := 3, low := 3 } w := by
            refine ⟨fun b i hb => ?_, fun b i hb => ?_, fun b i hb => ?_, fun b b' i i' hb hb' hd => ?_, fun g hg => ?_⟩
            · by_cases h : b < 3
              · exact h
              · rw [if_neg h] at hb; cases hb
            · rw [dead]; trivial
            · by_cases h : b < 3
              · rw [if_pos h] at hb
                cases hb
                exact hs.lt b _ (hg0 b h)
              · rw [if_neg h] at hb; cases hb
            · exact absurd (dead b) hd
            · rw [hgs] at hg
              rw [if_pos hg]
          have hargs : args' = #[] := by
            have := hl.nil_eq
            simpa using this
          subst hargs
          refine ⟨?_, enters_of Tryz.func9 (by kernel_rfl) rfl _ _⟩
          obtain ⟨nr, hrun⟩ := Sane.run
          have hc := calls_of_run Tab.ok Sane.SX_ok hrun hs0 (args' := #[]) LRel.nil
          refine (callsIn_wide.2 hc).mono fun e w' he => ?_
          obtain ⟨v', σ', rfl, hv, hev⟩ := he
          have hv' := hv.eq_of_flat0 rfl
          subst hv'
          refine ⟨.bool true, σ, rfl, .flat _ rfl, Ev.kept hs (fun B hB => hev.heap B hB fun b i hb _ => ?_) hev.hle hev.os hev.tape hev.output⟩
          by_cases h : b < 3
          · exact h
          · rw [if_neg h] at hb; cases hb
  · unfold saneX at hx
    cases f with
    | func f =>
      dsimp only at hx
      rw [cond_eq_ite] at hx
      split at hx
      · split at hx
        · rw [cond_eq_ite] at hx
          split at hx
          · cases hx; exact LK.refl
          · cases hx
        · cases hx
      · cases hx
    | _ => cases hx
theorem saneX_no {f : Nat} (h : Nat.beq f 9 = false) (args : List Value) (m : M) : saneX (.func f) args m = none := by
  simp only [saneX, h, cond_false]
theorem saneX_sane (m : M) (h : 2 < m.n) : saneX (.func 9) [] m = some (.bool true, m) := by
  have h9 : Nat.beq 9 9 = true := rfl
  have hn : Nat.blt 2 m.n = true := by rw [Nat.blt_eq]; exact h
  simp only [saneX, h9, hn, cond_true]
end Go.Proofs.YtjecgmfildhpiaaGreatDoor

/- What is known beforehand of DrawChanges: sane(). -/
namespace Go.Proofs.YtjecgmfildhpiaaGreatDoor
open Go Go.D Go.Proofs
noncomputable abbrev XP : CallFn := saneX
theorem XP_ok : CallOK Tryz.prog XP := saneX_ok
theorem XP_no : NoX XP := ⟨fun f hf args m => by
  simp only [Bool.or_eq_false_iff] at hf
  exact saneX_no hf.1.1.1.1 args m⟩
theorem XP_sane (m : M) (h : 2 < m.n) : C XP (.func 9) [] m m.n (.bool true) m :=
  Cl.known (fun l => saneX_sane (m.wl l) h) (Nat.le_refl _) ⟨_, rfl⟩
end Go.Proofs.YtjecgmfildhpiaaGreatDoor

/- slices.BinarySearchFunc over units, fabric.Find, draw.Elevation. -/
namespace Go.Proofs.YtjecgmfildhpiaaGreatDoor
open Go Go.D
variable {X : CallFn} {m : M}
theorem FabP.lt {us : List Un} (h : FabP us) : ∀ (d i : Nat) (a b : Un), us[i]? = some a → us[i + d + 1]? = some b → a.id < b.id
  | 0, i, a, b, ha, hb => h.asc i a b ha hb
  | d + 1, i, a, b, ha, hb => by
    obtain ⟨c, hc⟩ : ∃ c, us[i + d + 1]? = some c := ⟨_, List.getElem?_eq_getElem (by have := (List.getElem?_eq_some_iff.1 hb).1; omega)⟩
    have h1 := h.lt d i a c ha hc
    have h2 := h.asc (i + d + 1) c b hc (by rw [← hb]; congr 1)
    omega
theorem FabP.lt' {us : List Un} (h : FabP us) {i k : Nat} {a b : Un} (hik : i < k) (ha : us[i]? = some a) (hb : us[k]? = some b) : a.id < b.id :=
  h.lt (k - i - 1) i a b ha (by rw [← hb]; congr 1; omega)
end Go.Proofs.YtjecgmfildhpiaaGreatDoor

/- fabric.Find, draw.Elevation. -/
namespace Go.Proofs.YtjecgmfildhpiaaGreatDoor
open Go Go.D
variable {X : CallFn} {m : M}
theorem unB_val {u : Un} (h : unB u = true) : validB u.shape = true := by
  simp only [unB, Bool.and_eq_true] at h
  exact h.2
/-- The unit with a number. -/
def findU (us : List Un) (id : Int) : Option Un := us.find? fun u => decide (u.id = id)
theorem findU_eq {us : List Un} (hP : FabP us) {i : Nat} {a : Un} (h : us[i]? = some a) : findU us a.id = some a := by
  unfold findU
  cases e : us.find? fun u => decide (u.id = a.id) with
  | none =>
    have := List.find?_eq_none.1 e a (List.mem_of_getElem? h)
    simp at this
  | some b =>
    have h1 := List.find?_some e
    have h1 : b.id = a.id := by simpa using h1
    obtain ⟨k, hk⟩ := List.getElem?_of_mem (List.mem_of_find?_eq_some e)
    rcases Nat.lt_trichotomy i k with hlt | rfl | hlt
    · have := hP.lt' hlt h hk; omega
    · rw [h] at hk; cases hk; rfl
    · have := hP.lt' hlt hk h; omega
theorem elev_ok (hX : NoX X) {l : List UW} {v : Value} (h : FabV m l v) (hP : FabP (us' l)) (behind : Bool) :
    ∃ v' m', C X (.func 12) [.agg #[v], .bool behind] m m.n (.tuple #[drV 40 40 v', .int .i64 0]) m' ∧ Ext m m' ∧ Ow m.n m' (elevL (us' l) behind) v' := by
  have hl : l.length ≤ 12 := by have := hP.len; rwa [us_len] at this
  have key : ∃ rv m' b, C X (.func 12) [.agg #[v], .bool behind] m b rv m' ∧ b = m.n ∧ ∃ v', rv = .tuple #[drV 40 40 v', .int .i64 0] ∧ Ext m m' ∧ Ow m.n m' (elevL (us' l) behind) v' := by
    refine Cl.heap (R := fun rv m' b => b = m.n ∧ ∃ v', rv = .tuple #[drV 40 40 v', .int .i64 0] ∧ Ext m m' ∧ Ow m.n m' (elevL (us' l) behind) v') (hX.no _ rfl) fn_12 rfl ?_
    rw [F12]; dsimp only [plainW]
    refine onM_push fun m1 hn1 hg1 hk1 => ?_
    refine onM_push fun m2 hn2 hg2 hk2 => ?_
    have hx2 : Ext m m2 := ⟨by omega, fun c hc => by rw [hk2 c (by omega), hk1 c hc]⟩
    have g1 : m2.get m.n = .cells [v] 31 none := by rw [hk2 _ (by omega)]; exact hg1
    have hF := h.keepE hx2
    unfold ptrTo
    have ld : load? Tab.env m2 31 (.pointer (some ⟨m.n, 0, none⟩)) = some (.agg #[v]) := by rw [load_31, loadCells_of g1 (by simp)]; rfl
    rw [ld, onS_some]
    refine onC_of (fvalid_ok hX hF (by omega)) ?_
    rw [fabB_true hP, un_not, onS_some, ifV_bool, Bool.not_true, ifB_false, ld, onS_some]
    obtain ⟨v', m14, hc, hx14, ho⟩ := elevation_ok (m := m2) hX (us := us' l) (behind := behind) (hF.sl.of_uw hF.sh) (fun u hu => unB_val (hP.val u hu)) (by rw [us_len]; omega)
    refine onC_of hc ?_
    have n14 := hx14.n
    have g214 := hx14.cells hg2
    have hone : one v' = true := ho.sl.one
    refine on2_storeV ty_27 g214 rfl rfl (by show (true && (true && (one v' && true))) = true; rw [hone]; rfl) fun m16 hn16 hg16 hk16 => ?_
    have e2 : load? Tab.env m16 27 (.pointer (some ⟨m1.n, 0, none⟩)) = some (drV 40 40 v') := by rw [load_27, loadCells_of hg16 (by simp [cells_agg])]; rfl
    rw [e2, onS_some]
    have ho16 : Ow m2.n m16 (elevL (us' l) behind) v' := ho.keep fun b c t g hb ht => by
      by_cases hbm : b = m1.n
      · subst hbm
        rw [g214] at hb
        cases hb
        simp [Rep.ty, Rep.tys] at ht
      · rw [hk16 b hbm, hb]
    have hne : elevL (us' l) behind ≠ [] := fun e => by
      have := congrArg List.length e
      unfold elevL at this
      rw [gridZ_len] at this
      simp at this
    refine ⟨.inl ?_, by omega, v', rfl, ⟨by omega, fun c hc => by rw [hk16 c (by omega), hx14.get c (by omega), hx2.get c hc]⟩, ho16.mono (by omega)⟩
    rcases ho16 with ⟨_, h0⟩ | ⟨b, cs, rfl, _⟩
    · exact absurd h0 hne
    · simp [mkres, flat2, flat1, flat0, drV]
  obtain ⟨rv, m', b, hc, rfl, v', rfl, h1, h2⟩ := key
  exact ⟨v', m', hc, h1, h2⟩
end Go.Proofs.YtjecgmfildhpiaaGreatDoor

/- The plain law of DrawShows. -/
namespace Go.Proofs.YtjecgmfildhpiaaGreatDoor
open Go Go.D Go.Plane
theorem least_nonneg {l : List Pl} {p : Pl} : ∀ {n : Nat}, 0 ≤ leastZ l p n → ∀ i a b, i < n → l[i]? = some a → l[(i + 1) % l.length]? = some b → 0 ≤ turnZ a b p
  | 0, _, i, a, b, hi, _, _ => by omega
  | n + 1, h, i, a, b, hi, ha, hb => by
    by_cases e : i = n
    · subst e
      rw [leastZ, ha, hb] at h
      have h : 0 ≤ min (leastZ l p i) (turnZ a b p) := h
      omega
    · refine least_nonneg (n := n) ?_ i a b (by omega) ha hb
      rw [leastZ] at h
      split at h
      · omega
      · exact h
theorem box_le {l : List Pl} : ∀ (n k : Nat) (q : Pl), k < n → n ≤ l.length → l[k]? = some q → (boxLo l n).x ≤ q.x ∧ (boxLo l n).y ≤ q.y ∧ q.x ≤ (boxHi l n).x ∧ q.y ≤ (boxHi l n).y
  | 0, k, q, hk, _, _ => by omega
  | n + 1, k, q, hk, hn, hq => by
    obtain ⟨p, hp⟩ : ∃ p, l[n]? = some p := ⟨_, List.getElem?_eq_getElem (by omega)⟩
    rw [boxLo_succ hp, boxHi_succ hp]
    by_cases e : k = n
    · subst e
      rw [hq] at hp; cases hp
      dsimp only
      omega
    · have := box_le n k q (by omega) (by omega) hq
      dsimp only
      omega
/-- A polygon's cell lies in its box. -/
theorem cell_in {l : List Pl} {x y : Int} (h : 0 ≤ cellZ l x y) : inBx l ⟨x, y⟩ = true := by
  unfold cellZ at h
  split at h
  · rename_i hc
    simp only [Bool.and_eq_true] at hc
    have hv := hc.1.1
    have hs : 0 ≤ leastZ (l.map Pl.dbl) ⟨2 * x + 1, 2 * y + 1⟩ (l.map Pl.dbl).length := by
      unfold sideZ cmpZ at h
      split at h
      · omega
      · omega
    have hp : ∀ f ∈ edV l, 0 ≤ f.dot ⟨2 * x + 1, 2 * y + 1, 2⟩ := by
      intro f hf
      obtain ⟨i, hi, rfl⟩ := mem_edV.1 hf
      have hm : (i + 1) % l.length < l.length := Nat.mod_lt _ (by omega)
      have := least_nonneg hs i (atP l i).dbl (atP l ((i + 1) % l.length)).dbl (by rw [List.length_map]; exact hi) (by rw [List.getElem?_map, atP_some hi]; rfl) (by rw [List.length_map, List.getElem?_map, atP_some hm]; rfl)
      have e : turnZ (atP l i).dbl (atP l ((i + 1) % l.length)).dbl ⟨2 * x + 1, 2 * y + 1⟩ = 2 * (sideV l i).dot ⟨2 * x + 1, 2 * y + 1, 2⟩ := by
        unfold turnZ sideV edgeV V.dot Pl.dbl
        grind
      omega
    have hull : ∀ g : V, (∀ q ∈ l, g.dot q.h ≤ 0) → g.dot ⟨2 * x + 1, 2 * y + 1, 2⟩ ≤ 0 := fun g hg => poly_hull hv (p := ⟨2 * x + 1, 2 * y + 1, 2⟩) hg (show (0 : Int) < 2 by decide) hp
    have hb : ∀ q ∈ l, (boxLo l l.length).x ≤ q.x ∧ (boxLo l l.length).y ≤ q.y ∧ q.x ≤ (boxHi l l.length).x ∧ q.y ≤ (boxHi l l.length).y := fun q hq => by
      obtain ⟨k, hk⟩ := List.getElem?_of_mem hq
      exact box_le _ k q (List.getElem?_eq_some_iff.1 hk).1 (Nat.le_refl _) hk
    have h1 := hull ⟨1, 0, -(boxHi l l.length).x⟩ fun q hq => by have := hb q hq; unfold V.dot Pl.h; dsimp only; omega
    have h2 := hull ⟨-1, 0, (boxLo l l.length).x⟩ fun q hq => by have := hb q hq; unfold V.dot Pl.h; dsimp only; omega
    have h3 := hull ⟨0, 1, -(boxHi l l.length).y⟩ fun q hq => by have := hb q hq; unfold V.dot Pl.h; dsimp only; omega
    have h4 := hull ⟨0, -1, (boxLo l l.length).y⟩ fun q hq => by have := hb q hq; unfold V.dot Pl.h; dsimp only; omega
    unfold V.dot at h1 h2 h3 h4
    dsimp only at h1 h2 h3 h4
    unfold inBx
    simp only [Bool.and_eq_true, decide_eq_true_eq]
    omega
  · omega
theorem cov_iff {u : Un} {x y : Int} : covB u ⟨x, y⟩ = true ↔ 0 ≤ cellZ u.shape x y := by
  unfold covB
  simp only [Bool.and_eq_true, decide_eq_true_eq]
  exact ⟨fun h => h.2, fun h => ⟨cell_in h, h⟩⟩
theorem FabP.find {us : List Un} (h : FabP us) {u : Un} (hu : u ∈ us) : findU us u.id = some u := by
  obtain ⟨i, hi⟩ := List.getElem?_of_mem hu
  exact findU_eq h hi
theorem FabP.id0 {us : List Un} (h : FabP us) {u : Un} (hu : u ∈ us) : 0 ≤ u.id ∧ u.id ≤ 99 := by
  have := h.val u hu
  simp only [unB, inB, Bool.and_eq_true, decide_eq_true_eq] at this
  omega
def anyB (us : List Un) (x y : Int) : Bool := us.any fun w => decide (0 ≤ cellZ w.shape x y)
/-- What the two elevations show in a cell. -/
structure Shows (us : List Un) (x y : Int) (front back : Int) : Prop where
  n1 : (findU us front).isSome = decide (0 ≤ front)
  n2 : (findU us back).isSome = decide (0 ≤ back)
  same : (findU us front).isSome = (findU us back).isSome
  any : (findU us front).isSome = anyB us x y
  out : ∀ w ∈ us, cellZ w.shape x y < 0 → w.id ≠ front ∧ w.id ≠ back
  best : ∀ w ∈ us, 0 ≤ cellZ w.shape x y → ∃ u v, findU us front = some u ∧ findU us back = some v ∧ ¬ u.front < w.front ∧ (w.front = u.front → front ≤ w.id) ∧ ¬ w.back < v.back ∧ (w.back = v.back → back ≤ w.id)
theorem gridZ_at {g : Nat → Nat → Int} {w x : Nat} (hx : x < w) : ∀ {h y : Nat}, y < h → (gridZ g w h)[y * w + x]? = some (g x y)
  | h + 1, y, hy => by
    rw [gridZ_succ]
    by_cases e : y = h
    · subst e
      rw [List.getElem?_append_right (by rw [gridZ_len]; omega), gridZ_len, Nat.add_sub_cancel_left]
      unfold rowZ
      rw [List.getElem?_map, List.getElem?_range hx]; rfl
    · have hlt : y * w + x < h * w := by
        have : (y + 1) * w ≤ h * w := Nat.mul_le_mul_right _ (by omega)
        rw [Nat.add_mul, Nat.one_mul] at this
        omega
      rw [List.getElem?_append_left (by rw [gridZ_len]; exact hlt)]
      exact gridZ_at hx (by omega)
theorem gridZ_mem {g : Nat → Nat → Int} {w h : Nat} {n : Int} (hn : n ∈ gridZ g w h) : ∃ i j, n = g i j := by
  unfold gridZ at hn
  rw [List.mem_flatMap] at hn
  obtain ⟨j, _, hn⟩ := hn
  unfold rowZ at hn
  rw [List.mem_map] at hn
  obtain ⟨i, _, rfl⟩ := hn
  exact ⟨i, j, rfl⟩
theorem firstU_mem {bf : Un → Un → Bool} : ∀ (L : List Un) (o : Option Un) (u : Un), firstU bf L o = some u → o = some u ∨ u ∈ L
  | [], o, u, h => .inl h
  | x :: L, none, u, h => by
    rcases firstU_mem L (some x) u h with h | h
    · cases h; exact .inr List.mem_cons_self
    · exact .inr (List.mem_cons_of_mem _ h)
  | x :: L, some b, u, h => by
    rcases firstU_mem L _ u h with h | h
    · by_cases hb : bf x b = true
      · rw [if_pos hb] at h; cases h; exact .inr List.mem_cons_self
      · rw [if_neg hb] at h; exact .inl h
    · exact .inr (List.mem_cons_of_mem _ h)
theorem elevZ_in {us : List Un} (h : FabP us) (b : Bool) (x y : Int) : -1 ≤ elevZ us b x y ∧ elevZ us b x y ≤ 99 := by
  have key : ∀ (bf : Un → Un → Bool) (q : Pl), -1 ≤ idZ (firstU bf (covU us q) none) ∧ idZ (firstU bf (covU us q) none) ≤ 99 := by
    intro bf q
    cases e : firstU bf (covU us q) none with
    | none => exact ⟨Int.le_refl _, by decide⟩
    | some u =>
      rcases firstU_mem _ _ _ e with h1 | h1
      · cases h1
      · have := h.id0 (List.mem_filter.1 h1).1
        show -1 ≤ u.id ∧ u.id ≤ 99
        omega
  unfold elevZ
  split
  · exact key _ _
  · exact key _ _
theorem elevL_valid {us : List Un} (h : FabP us) (b : Bool) : drB 40 40 (elevL us b) = true := by
  unfold drB
  have h1 : (elevL us b).length = 1600 := by unfold elevL; rw [gridZ_len]
  simp only [Bool.and_eq_true, decide_eq_true_eq]
  refine ⟨⟨⟨by decide, by decide⟩, by rw [h1]; decide⟩, ?_⟩
  rw [Bool.not_eq_true', List.any_eq_false]
  intro n hn
  obtain ⟨i, j, rfl⟩ := gridZ_mem hn
  have := elevZ_in h b i j
  simp only [inB, Bool.not_eq_true', Bool.not_eq_false', Bool.and_eq_true, decide_eq_true_eq, Bool.not_eq_true, Bool.and_eq_false_iff, decide_eq_false_iff_not]
  simp
  omega
end Go.Proofs.YtjecgmfildhpiaaGreatDoor

/- What functions of the program come to, their temporaries gone (made off the translation; each proved by the kernel, word by word). -/
namespace Go.Proofs.YtjecgmfildhpiaaGreatDoor
open Go Go.D

set_option maxRecDepth 100000 in
/-- putlog/draw.Plan -/
theorem F16 {W : Words} {x0 x1 : Value} {m : M} {R : List Value → M → Nat → Prop} : vcF Tab.env W Tryz.f16 [x0, x1] m R =
(W.onM (M.push m (.cells (cells x0) 31 none)) fun m1 => (W.onM (M.push m1 (.cells (cells x1) 3 none)) fun m2 => (W.onM (M.push m2 (.cells [(.int .i64 0), (.int .i64 0), (.slice none 0 0)] 27 none)) fun m3 => (W.jn (fun R4 => (W.onS (load? Tab.env m3 31 (ptrTo (M.n m))) fun v8 => (W.onC (.func 47) [v8] m3 fun v9 m10 b11 => (W.onS (un? .not v9) fun v12 => (ifV v12
(R4 [(.bool true)] m10 (min (M.n m) b11))
(W.onS (load? Tab.env m10 3 (ptrTo (M.n m1))) fun v13 => (W.onC (.func 54) [v13, (.int .i64 0), (.int .i64 39)] m10 fun v14 m15 b16 => (W.onS (un? .not v14) fun v17 => (R4 [v17] m15 (min (min (M.n m) b11) b16))))))))))
(fun vs5 m6 lo7 => W.un vs5 fun v18 r19 => (ifV v18
(W.onS (build? Tab.env 27 []) fun v20 => (W.on2 (store? Tab.env m6 27 (ptrTo (M.n m2)) v20) fun m21 b22 => (onS (load? Tab.env m21 27 (ptrTo (M.n m2))) fun v23 => (R [v23, (.int .i64 410)] m21 (min lo7 b22)))))
(W.onS (load? Tab.env m6 31 (ptrTo (M.n m))) fun v24 => (W.onC (.func 55) [v24] m6 fun v25 m26 b27 => (W.onM (M.push m26 (.cells [(.map none)] 103 none)) fun m28 => (W.on2 (store? Tab.env m28 103 (ptrTo (M.n m26)) v25) fun m29 b30 => (W.onC (.func 56) [(.int .i64 40), (.int .i64 8), (.func (.func 57) #[] #[(ptrTo (M.n m26)), (ptrTo (M.n m1))])] m29 fun v31 m32 b33 => (W.on2 (store? Tab.env m32 27 (ptrTo (M.n m2)) v31) fun m34 b35 => (onS (load? Tab.env m34 27 (ptrTo (M.n m2))) fun v36 => (R [v36, (.int .i64 0)] m34 (min (min (min (min lo7 b27) b30) b33) b35))))))))))))))) := by kernel_rfl

set_option maxRecDepth 100000 in
/-- putlog/draw.Plan$1 -/
theorem F57 {W : Words} {x0 x1 x2 x3 : Value} {m : M} {R : List Value → M → Nat → Prop} : vcF Tab.env W Tryz.f57 [x0, x1, x2, x3] m R =
(W.onS (load? Tab.env m 103 x2) fun v1 => (W.onS (load? Tab.env m 3 x3) fun v2 => (W.onS (build? Tab.env 64 [(0, x0), (1, v2)]) fun v3 => (W.onS (lookup? Tab.env m 103 v1 v3 false) fun v4 => (W.onC (.func 58) [v4, x1] m fun v5 m6 b7 => (R [v5] m6 (min (M.n m) b7))))))) := by kernel_rfl

set_option maxRecDepth 100000 in
/-- putlog/draw.Section -/
theorem F18 {W : Words} {x0 x1 : Value} {m : M} {R : List Value → M → Nat → Prop} : vcF Tab.env W Tryz.f18 [x0, x1] m R =
(W.onM (M.push m (.cells (cells x0) 31 none)) fun m1 => (W.onM (M.push m1 (.cells (cells x1) 3 none)) fun m2 => (W.onM (M.push m2 (.cells [(.int .i64 0), (.int .i64 0), (.slice none 0 0)] 27 none)) fun m3 => (W.jn (fun R4 => (W.onS (load? Tab.env m3 31 (ptrTo (M.n m))) fun v8 => (W.onC (.func 47) [v8] m3 fun v9 m10 b11 => (W.onS (un? .not v9) fun v12 => (ifV v12
(R4 [(.bool true)] m10 (min (M.n m) b11))
(W.onS (load? Tab.env m10 3 (ptrTo (M.n m1))) fun v13 => (W.onC (.func 54) [v13, (.int .i64 0), (.int .i64 39)] m10 fun v14 m15 b16 => (W.onS (un? .not v14) fun v17 => (R4 [v17] m15 (min (min (M.n m) b11) b16))))))))))
(fun vs5 m6 lo7 => W.un vs5 fun v18 r19 => (ifV v18
(W.onS (build? Tab.env 27 []) fun v20 => (W.on2 (store? Tab.env m6 27 (ptrTo (M.n m2)) v20) fun m21 b22 => (onS (load? Tab.env m21 27 (ptrTo (M.n m2))) fun v23 => (R [v23, (.int .i64 410)] m21 (min lo7 b22)))))
(W.onS (load? Tab.env m6 31 (ptrTo (M.n m))) fun v24 => (W.onC (.func 55) [v24] m6 fun v25 m26 b27 => (W.onM (M.push m26 (.cells [(.map none)] 103 none)) fun m28 => (W.on2 (store? Tab.env m28 103 (ptrTo (M.n m26)) v25) fun m29 b30 => (W.onC (.func 56) [(.int .i64 8), (.int .i64 40), (.func (.func 60) #[] #[(ptrTo (M.n m26)), (ptrTo (M.n m1))])] m29 fun v31 m32 b33 => (W.on2 (store? Tab.env m32 27 (ptrTo (M.n m2)) v31) fun m34 b35 => (onS (load? Tab.env m34 27 (ptrTo (M.n m2))) fun v36 => (R [v36, (.int .i64 0)] m34 (min (min (min (min lo7 b27) b30) b33) b35))))))))))))))) := by kernel_rfl

set_option maxRecDepth 100000 in
/-- putlog/draw.Section$1 -/
theorem F60 {W : Words} {x0 x1 x2 x3 : Value} {m : M} {R : List Value → M → Nat → Prop} : vcF Tab.env W Tryz.f60 [x0, x1, x2, x3] m R =
(W.onS (load? Tab.env m 103 x2) fun v1 => (W.onS (load? Tab.env m 3 x3) fun v2 => (W.onS (build? Tab.env 64 [(0, v2), (1, x1)]) fun v3 => (W.onS (lookup? Tab.env m 103 v1 v3 false) fun v4 => (W.onC (.func 58) [v4, x0] m fun v5 m6 b7 => (R [v5] m6 (min (M.n m) b7))))))) := by kernel_rfl

set_option maxRecDepth 100000 in
/-- putlog/draw.inside -/
theorem F58 {W : Words} {x0 x1 : Value} {m : M} {R : List Value → M → Nat → Prop} : vcF Tab.env W Tryz.f58 [x0, x1] m R =
(W.onM (M.push m (.cells (cells x1) 3 none)) fun m1 => (W.onC (.func 104) [x0, (.func (.func 105) #[] #[(ptrTo (M.n m))])] m1 fun v2 m3 b4 => (W.onS (bin? Tab.env .lss 3 v2 (.int .i64 0)) fun v5 => (ifV v5
(R [(.int .i64 (-1))] m3 (min (M.n m) b4))
(W.onS (indexAddr? Tab.env 29 x0 v2) fun v6 => (W.onS (fieldAddr? Tab.env 57 v6 0) fun v7 => (W.onS (load? Tab.env m3 3 v7) fun v8 => (R [v8] m3 (min (M.n m) b4))))))))) := by kernel_rfl

set_option maxRecDepth 100000 in
/-- putlog/draw.inside$1 -/
theorem F105 {W : Words} {x0 x1 : Value} {m : M} {R : List Value → M → Nat → Prop} : vcF Tab.env W Tryz.f105 [x0, x1] m R =
(W.onM (M.push m (.cells (cells x0) 57 none)) fun m1 => (W.jn (fun R2 => (W.onS (fieldAddr? Tab.env 57 (ptrTo (M.n m)) 4) fun v6 => (W.onS (load? Tab.env m1 3 v6) fun v7 => (W.onS (load? Tab.env m1 3 x1) fun v8 => (W.onS (bin? Tab.env .leq 3 v7 v8) fun v9 => (ifV v9
(W.onS (load? Tab.env m1 3 x1) fun v10 => (W.onS (fieldAddr? Tab.env 57 (ptrTo (M.n m)) 5) fun v11 => (W.onS (load? Tab.env m1 3 v11) fun v12 => (W.onS (bin? Tab.env .lss 3 v10 v12) fun v13 => (R2 [v13] m1 (M.n m))))))
(R2 [(.bool false)] m1 (M.n m))))))))
(fun vs3 m4 lo5 => W.un vs3 fun v14 r15 => (R [v14] m4 lo5)))) := by kernel_rfl

end Go.Proofs.YtjecgmfildhpiaaGreatDoor

/- draw.inside, draw.Plan, draw.Section. -/
namespace Go.Proofs.YtjecgmfildhpiaaGreatDoor
open Go Go.D
variable {X : CallFn} {m : M}
def insB (z : Int) (u : Un) : Bool := decide (u.back ≤ z) && decide (z < u.front)
/-- The unit that fills a depth of a cell. -/
def insZ (us : List Un) (z : Int) : Int := idZ (us.find? (insB z))
theorem find_first {α : Type} {p : α → Bool} : ∀ {l : List α} {i : Nat} {x : α}, l[i]? = some x → p x = true → (∀ j y, j < i → l[j]? = some y → p y = false) → l.find? p = some x
  | [], i, x, h, _, _ => by simp at h
  | a :: l, 0, x, h, hp, _ => by
    have h : a = x := by simpa using h
    subst h
    rw [List.find?_cons_of_pos hp]
  | a :: l, i + 1, x, h, hp, hf => by
    rw [List.find?_cons_of_neg (by rw [hf 0 a (by omega) rfl]; decide)]
    exact find_first (i := i) (by simpa using h) hp fun j y hj hy => hf (j + 1) y (by omega) (by simpa using hy)
theorem fills_ok (hX : NoX X) {u : Un} {w : Value} {b : Nat} {z : Int} (hb : m.get b = .cells [.int .i64 z] 3 none) : C X (.func 105) [u.v w, ptrTo b] m m.n (.bool (insB z u)) m := by
  refine Cl.flat (hX.no _ rfl) fn_105 rfl rfl ?_
  rw [F105]; dsimp only [plainW]
  refine onM_push fun m1 hn1 hg1 hk1 => ?_
  have hg1 : m1.get m.n = .cells (u.c w) 57 none := hg1
  obtain ⟨-, -, -, -, l4, l5⟩ := unf hg1
  have hb1 : m1.get b = .cells [.int .i64 z] 3 none := by rw [hk1 b (M.lt_of_get hb), hb]
  have lz : load? Tab.env m1 3 (.pointer (some ⟨b, 0, none⟩)) = some (.int .i64 z) := by rw [load_3, cellAt_of hb1]; rfl
  unfold ptrTo
  refine jn_of (fun vs mm lo => vs = [.bool (insB z u)] ∧ m1 = mm ∧ m.n ≤ lo) (fun R hR => ?_) ?_
  · rw [fieldAddr_57_4, onS_some, l4, onS_some, lz, onS_some, bin_leq, onS_some, ifV_bool]
    refine ifB_intro (fun h => ?_) (fun h => ?_)
    · rw [onS_some, fieldAddr_57_5, onS_some, l5, onS_some, bin_lss, onS_some]
      refine hR _ _ _ ⟨?_, rfl, by omega⟩
      unfold insB
      rw [h, Bool.true_and]
    · refine hR _ _ _ ⟨?_, rfl, by omega⟩
      unfold insB
      rw [h, Bool.false_and]
  rintro _ _ lo ⟨rfl, rfl, hlo⟩
  rw [un_cons]
  exact ⟨rfl, hlo⟩
theorem inside_ok (hX : NoX X) {us : List Un} {v : Value} (h : Sl m us v) (hlen : us.length < 1000000) (z : Int) : C X (.func 58) [v, .int .i64 z] m m.n (.int .i64 (insZ us z)) m := by
  refine Cl.flat (hX.no _ rfl) fn_58 rfl rfl ?_
  rw [F58]; dsimp only [plainW]
  refine onM_push fun m1 hn1 hg1 hk1 => ?_
  have hx1 : Ext m m1 := ⟨by omega, hk1⟩
  have h1 := h.keepE hx1
  refine onC_of (indexFunc_ok (m := m1) slt_un (hX.no _ rfl) fn_104 rfl idxF_unit (insB z) (by omega) h1 fun x hx cs hr => by
    obtain ⟨w, rfl, _⟩ := hr
    exact fills_ok hX hg1) ?_
  rcases idx_cases (insB z) us with ⟨e, hno⟩ | ⟨i, x, e, hx, hp, hf⟩
  · rw [e, bin_lss, onS_some, ifV_bool, show decide ((-1 : Int) < 0) = true from rfl, ifB_true]
    have : insZ us z = -1 := by
      unfold insZ
      rw [List.find?_eq_none.2 fun x hx => by rw [hno x hx]; decide]; rfl
    rw [this]
    exact ⟨rfl, by omega⟩
  · rw [e, bin_lss, onS_some, ifV_bool, decide_eq_false (by omega), ifB_false]
    obtain ⟨b, o, bc, g, cs, ea, hb, hr, hle, hj⟩ := h1.indexA slt_un (k := .i64) hx
    obtain ⟨w, rfl, _⟩ := hr
    rw [ea, onS_some, fieldAddr_57_0, onS_some]
    have l0 : load? Tab.env m1 3 (.pointer (some ⟨b, o + 0, none⟩)) = some (.int .i64 x.id) := by rw [load_3, cellAt_of hb, hj 0 (by decide)]; rfl
    rw [l0, onS_some]
    have : insZ us z = x.id := by
      unfold insZ
      rw [find_first hx hp hf]; rfl
    rw [this]
    exact ⟨rfl, by omega⟩
theorem planCell_ok (hX : NoX X) {us : List UW} {b1 b2 r n1 : Nat} {kv : List KV'} {c : Int} (h1 : m.get b1 = .cells [.int .i64 c] 3 none) (h2 : m.get b2 = .cells [.map (some r)] 103 none)
    (hpm : PM n1 m r kv) (hget : ∀ q, getL kv q = covL us q) (hsh : ∀ x ∈ us, Sl m x.u.shape x.w) (hlen : us.length ≤ 1000) {x y : Int} :
    C X (.func 57) [.int .i64 x, .int .i64 y, ptrTo b2, ptrTo b1] m m.n (.int .i64 (insZ (covU (us.map (·.u)) ⟨x, c⟩) y)) m := by
  refine Cl.flat (hX.no _ rfl) fn_57 rfl rfl ?_
  rw [F57]; dsimp only [plainW]
  unfold ptrTo
  have ldm : load? Tab.env m 103 (.pointer (some ⟨b2, 0, none⟩)) = some (.map (some r)) := by rw [load_103, cellAt_of h2]; rfl
  have ldc : load? Tab.env m 3 (.pointer (some ⟨b1, 0, none⟩)) = some (.int .i64 c) := by rw [load_3, cellAt_of h1]; rfl
  rw [ldm, onS_some, ldc, onS_some, build_64_0_1 rfl rfl, onS_some]
  obtain ⟨v5, e5, hs5⟩ := hpm.lookup ⟨x, c⟩
  have e5 : lookup? Tab.env m 103 (.map (some r)) (Pl.v ⟨x, c⟩) false = some v5 := e5
  rw [show (Value.agg (cells (Value.int .i64 x) ++ cells (Value.int .i64 c)).toArray) = Pl.v ⟨x, c⟩ from rfl, e5, onS_some]
  rw [hget] at hs5
  have hsu := hs5.of_uw fun x hx => hsh x (List.mem_filter.1 hx |>.1)
  rw [covL_map] at hsu
  have hl : (covU (us.map (·.u)) ⟨x, c⟩).length < 1000000 := by
    have : (covU (us.map (·.u)) ⟨x, c⟩).length ≤ (us.map (·.u)).length := List.length_filter_le _ _
    rw [List.length_map] at this
    omega
  refine onC_of (inside_ok hX hsu hl y) ?_
  exact ⟨rfl, by omega⟩
theorem plan_ok (hX : NoX X) {l : List UW} {v : Value} (h : FabV m l v) (hP : FabP (us' l)) {c : Int} (hc : 0 ≤ c ∧ c ≤ 39) :
    ∃ v' m', C X (.func 16) [.agg #[v], .int .i64 c] m m.n (.tuple #[drV 40 8 v', .int .i64 0]) m' ∧ Ext m m' ∧ Ow m.n m' (gridZ (fun i j => insZ (covU (us' l) ⟨i, c⟩) j) 40 8) v' := by
  have hl : l.length ≤ 12 := by have := hP.len; rwa [us_len] at this
  have key : ∃ rv m' b, C X (.func 16) [.agg #[v], .int .i64 c] m b rv m' ∧ b = m.n ∧ ∃ v', rv = .tuple #[drV 40 8 v', .int .i64 0] ∧ Ext m m' ∧ Ow m.n m' (gridZ (fun i j => insZ (covU (us' l) ⟨i, c⟩) j) 40 8) v' := by
    refine Cl.heap (R := fun rv m' b => b = m.n ∧ ∃ v', rv = .tuple #[drV 40 8 v', .int .i64 0] ∧ Ext m m' ∧ Ow m.n m' (gridZ (fun i j => insZ (covU (us' l) ⟨i, c⟩) j) 40 8) v') (hX.no _ rfl) fn_16 rfl ?_
    rw [F16]; dsimp only [plainW]
    refine onM_push fun m1 hn1 hg1 hk1 => ?_
    refine onM_push fun m2 hn2 hg2 hk2 => ?_
    refine onM_push fun m3 hn3 hg3 hk3 => ?_
    have hx3 : Ext m m3 := ⟨by omega, fun c hc => by rw [hk3 c (by omega), hk2 c (by omega), hk1 c hc]⟩
    have g0 : m3.get m.n = .cells [v] 31 none := by rw [hk3 _ (by omega), hk2 _ (by omega)]; exact hg1
    have gc : m3.get m1.n = .cells [.int .i64 c] 3 none := by rw [hk3 _ (by omega)]; exact hg2
    have hF := h.keepE hx3
    unfold ptrTo
    have ld : load? Tab.env m3 31 (.pointer (some ⟨m.n, 0, none⟩)) = some (.agg #[v]) := by rw [load_31, loadCells_of g0 (by simp)]; rfl
    have ldc : load? Tab.env m3 3 (.pointer (some ⟨m1.n, 0, none⟩)) = some (.int .i64 c) := by rw [load_3, cellAt_of gc]; rfl
    refine jn_of (fun vs mm lo => vs = [.bool false] ∧ m3 = mm ∧ m.n ≤ lo) (fun R hR => ?_) ?_
    · rw [ld, onS_some]
      refine onC_of (fvalid_ok hX hF (by omega)) ?_
      rw [fabB_true hP, un_not, onS_some, ifV_bool, Bool.not_true, ifB_false, ldc, onS_some]
      refine onC_of (within_ok hX _ _ _) ?_
      have : inB c 0 39 = true := by unfold inB; rw [decide_eq_true hc.1, decide_eq_true hc.2]; rfl
      rw [this, un_not, onS_some]
      exact hR _ _ _ ⟨rfl, rfl, by omega⟩
    rintro _ _ lo7 ⟨rfl, rfl, hlo7⟩
    rw [un_cons, ifV_bool, ifB_false, ld, onS_some]
    obtain ⟨m26, kv, hcv, hx26, hpm, hget⟩ := covers_ok hX hF.sl hF.sh (fun x hx => unB_val (hP.val x.u (List.mem_map.2 ⟨x, hx, rfl⟩))) (by omega)
    refine onC_of hcv ?_
    have n26 := hx26.n
    refine onM_push fun m28 hn28 hg28 hk28 => ?_
    refine on2_storeV ty_103 hg28 rfl rfl rfl fun m29 hn29 hg29 hk29 => ?_
    have hx2629 : Ext m26 m29 := ⟨by omega, fun b hb => by rw [hk29 b (by omega), hk28 b hb]⟩
    have hx329 := hx26.trans hx2629
    obtain ⟨v', m32, hc32, hx32, ho32⟩ := made_ok (m := m29) hX (w := 40) (h := 8) (by omega) (by omega) (g := .func 57) (fi := #[]) (ca := #[.pointer (some ⟨m26.n, 0, none⟩), .pointer (some ⟨m1.n, 0, none⟩)]) (fun i j => insZ (covU (us' l) ⟨i, c⟩) j)
      (fun i j mm hi hj hx => by
        have hx3m := hx329.trans hx
        exact planCell_ok (m := mm) hX (b1 := m1.n) (b2 := m26.n) (hx3m.cells gc) (hx.cells (by rw [hg29]; rfl)) ((hpm.keepE hx2629).keepE hx) hget (fun x hx' => (hF.sh x hx').keepE hx3m) (by omega)) (by omega)
    refine onC_of hc32 ?_
    have hx332 := hx329.trans hx32
    have gd := hx332.cells hg3
    have hone : one v' = true := ho32.sl.one
    have n32 := hx332.n
    refine on2_storeV ty_27 gd rfl rfl (by show (true && (true && (one v' && true))) = true; rw [hone]; rfl) fun m34 hn34 hg34 hk34 => ?_
    have e2 : load? Tab.env m34 27 (.pointer (some ⟨m2.n, 0, none⟩)) = some (drV 40 8 v') := by rw [load_27, loadCells_of hg34 (by simp [cells_agg])]; rfl
    rw [e2, onS_some]
    have ho34 : Ow m29.n m34 (gridZ (fun i j => insZ (covU (us' l) ⟨i, c⟩) j) 40 8) v' := ho32.keep fun b c t g hb ht => by
      by_cases hbm : b = m2.n
      · subst hbm
        rw [gd] at hb
        cases hb
        simp [Rep.ty, Rep.tys] at ht
      · rw [hk34 b hbm, hb]
    refine ⟨.inl ?_, by have := hx329.n; omega, v', rfl, ⟨by omega, fun b hb => by rw [hk34 b (by omega), (hx3.trans hx332).get b hb]⟩, ho34.mono (by have := hx329.n; omega)⟩
    rcases ho34 with ⟨_, h0⟩ | ⟨b, cs, rfl, _⟩
    · have := congrArg List.length h0
      rw [gridZ_len] at this
      simp at this
    · simp [mkres, flat2, flat1, flat0, drV]
  obtain ⟨rv, m', b, hc, rfl, v', rfl, h1, h2⟩ := key
  exact ⟨v', m', hc, h1, h2⟩
theorem sectionCell_ok (hX : NoX X) {us : List UW} {b1 b2 r n1 : Nat} {kv : List KV'} {c : Int} (h1 : m.get b1 = .cells [.int .i64 c] 3 none) (h2 : m.get b2 = .cells [.map (some r)] 103 none)
    (hpm : PM n1 m r kv) (hget : ∀ q, getL kv q = covL us q) (hsh : ∀ x ∈ us, Sl m x.u.shape x.w) (hlen : us.length ≤ 1000) {x y : Int} :
    C X (.func 60) [.int .i64 x, .int .i64 y, ptrTo b2, ptrTo b1] m m.n (.int .i64 (insZ (covU (us.map (·.u)) ⟨c, y⟩) x)) m := by
  refine Cl.flat (hX.no _ rfl) fn_60 rfl rfl ?_
  rw [F60]; dsimp only [plainW]
  unfold ptrTo
  have ldm : load? Tab.env m 103 (.pointer (some ⟨b2, 0, none⟩)) = some (.map (some r)) := by rw [load_103, cellAt_of h2]; rfl
  have ldc : load? Tab.env m 3 (.pointer (some ⟨b1, 0, none⟩)) = some (.int .i64 c) := by rw [load_3, cellAt_of h1]; rfl
  rw [ldm, onS_some, ldc, onS_some, build_64_0_1 rfl rfl, onS_some]
  obtain ⟨v5, e5, hs5⟩ := hpm.lookup ⟨c, y⟩
  have e5 : lookup? Tab.env m 103 (.map (some r)) (Pl.v ⟨c, y⟩) false = some v5 := e5
  rw [show (Value.agg (cells (Value.int .i64 c) ++ cells (Value.int .i64 y)).toArray) = Pl.v ⟨c, y⟩ from rfl, e5, onS_some]
  rw [hget] at hs5
  have hsu := hs5.of_uw fun x hx => hsh x (List.mem_filter.1 hx |>.1)
  rw [covL_map] at hsu
  have hl : (covU (us.map (·.u)) ⟨c, y⟩).length < 1000000 := by
    have : (covU (us.map (·.u)) ⟨c, y⟩).length ≤ (us.map (·.u)).length := List.length_filter_le _ _
    rw [List.length_map] at this
    omega
  refine onC_of (inside_ok hX hsu hl x) ?_
  exact ⟨rfl, by omega⟩
theorem section_ok (hX : NoX X) {l : List UW} {v : Value} (h : FabV m l v) (hP : FabP (us' l)) {c : Int} (hc : 0 ≤ c ∧ c ≤ 39) :
    ∃ v' m', C X (.func 18) [.agg #[v], .int .i64 c] m m.n (.tuple #[drV 8 40 v', .int .i64 0]) m' ∧ Ext m m' ∧ Ow m.n m' (gridZ (fun i j => insZ (covU (us' l) ⟨c, j⟩) i) 8 40) v' := by
  have hl : l.length ≤ 12 := by have := hP.len; rwa [us_len] at this
  have key : ∃ rv m' b, C X (.func 18) [.agg #[v], .int .i64 c] m b rv m' ∧ b = m.n ∧ ∃ v', rv = .tuple #[drV 8 40 v', .int .i64 0] ∧ Ext m m' ∧ Ow m.n m' (gridZ (fun i j => insZ (covU (us' l) ⟨c, j⟩) i) 8 40) v' := by
    refine Cl.heap (R := fun rv m' b => b = m.n ∧ ∃ v', rv = .tuple #[drV 8 40 v', .int .i64 0] ∧ Ext m m' ∧ Ow m.n m' (gridZ (fun i j => insZ (covU (us' l) ⟨c, j⟩) i) 8 40) v') (hX.no _ rfl) fn_18 rfl ?_
    rw [F18]; dsimp only [plainW]
    refine onM_push fun m1 hn1 hg1 hk1 => ?_
    refine onM_push fun m2 hn2 hg2 hk2 => ?_
    refine onM_push fun m3 hn3 hg3 hk3 => ?_
    have hx3 : Ext m m3 := ⟨by omega, fun c hc => by rw [hk3 c (by omega), hk2 c (by omega), hk1 c hc]⟩
    have g0 : m3.get m.n = .cells [v] 31 none := by rw [hk3 _ (by omega), hk2 _ (by omega)]; exact hg1
    have gc : m3.get m1.n = .cells [.int .i64 c] 3 none := by rw [hk3 _ (by omega)]; exact hg2
    have hF := h.keepE hx3
    unfold ptrTo
    have ld : load? Tab.env m3 31 (.pointer (some ⟨m.n, 0, none⟩)) = some (.agg #[v]) := by rw [load_31, loadCells_of g0 (by simp)]; rfl
    have ldc : load? Tab.env m3 3 (.pointer (some ⟨m1.n, 0, none⟩)) = some (.int .i64 c) := by rw [load_3, cellAt_of gc]; rfl
    refine jn_of (fun vs mm lo => vs = [.bool false] ∧ m3 = mm ∧ m.n ≤ lo) (fun R hR => ?_) ?_
    · rw [ld, onS_some]
      refine onC_of (fvalid_ok hX hF (by omega)) ?_
      rw [fabB_true hP, un_not, onS_some, ifV_bool, Bool.not_true, ifB_false, ldc, onS_some]
      refine onC_of (within_ok hX _ _ _) ?_
      have : inB c 0 39 = true := by unfold inB; rw [decide_eq_true hc.1, decide_eq_true hc.2]; rfl
      rw [this, un_not, onS_some]
      exact hR _ _ _ ⟨rfl, rfl, by omega⟩
    rintro _ _ lo7 ⟨rfl, rfl, hlo7⟩
    rw [un_cons, ifV_bool, ifB_false, ld, onS_some]
    obtain ⟨m26, kv, hcv, hx26, hpm, hget⟩ := covers_ok hX hF.sl hF.sh (fun x hx => unB_val (hP.val x.u (List.mem_map.2 ⟨x, hx, rfl⟩))) (by omega)
    refine onC_of hcv ?_
    have n26 := hx26.n
    refine onM_push fun m28 hn28 hg28 hk28 => ?_
    refine on2_storeV ty_103 hg28 rfl rfl rfl fun m29 hn29 hg29 hk29 => ?_
    have hx2629 : Ext m26 m29 := ⟨by omega, fun b hb => by rw [hk29 b (by omega), hk28 b hb]⟩
    have hx329 := hx26.trans hx2629
    obtain ⟨v', m32, hc32, hx32, ho32⟩ := made_ok (m := m29) hX (w := 8) (h := 40) (by omega) (by omega) (g := .func 60) (fi := #[]) (ca := #[.pointer (some ⟨m26.n, 0, none⟩), .pointer (some ⟨m1.n, 0, none⟩)]) (fun i j => insZ (covU (us' l) ⟨c, j⟩) i)
      (fun i j mm hi hj hx => by
        have hx3m := hx329.trans hx
        exact sectionCell_ok (m := mm) hX (b1 := m1.n) (b2 := m26.n) (hx3m.cells gc) (hx.cells (by rw [hg29]; rfl)) ((hpm.keepE hx2629).keepE hx) hget (fun x hx' => (hF.sh x hx').keepE hx3m) (by omega)) (by omega)
    refine onC_of hc32 ?_
    have hx332 := hx329.trans hx32
    have gd := hx332.cells hg3
    have hone : one v' = true := ho32.sl.one
    have n32 := hx332.n
    refine on2_storeV ty_27 gd rfl rfl (by show (true && (true && (one v' && true))) = true; rw [hone]; rfl) fun m34 hn34 hg34 hk34 => ?_
    have e2 : load? Tab.env m34 27 (.pointer (some ⟨m2.n, 0, none⟩)) = some (drV 8 40 v') := by rw [load_27, loadCells_of hg34 (by simp [cells_agg])]; rfl
    rw [e2, onS_some]
    have ho34 : Ow m29.n m34 (gridZ (fun i j => insZ (covU (us' l) ⟨c, j⟩) i) 8 40) v' := ho32.keep fun b c t g hb ht => by
      by_cases hbm : b = m2.n
      · subst hbm
        rw [gd] at hb
        cases hb
        simp [Rep.ty, Rep.tys] at ht
      · rw [hk34 b hbm, hb]
    refine ⟨.inl ?_, by have := hx329.n; omega, v', rfl, ⟨by omega, fun b hb => by rw [hk34 b (by omega), (hx3.trans hx332).get b hb]⟩, ho34.mono (by have := hx329.n; omega)⟩
    rcases ho34 with ⟨_, h0⟩ | ⟨b, cs, rfl, _⟩
    · have := congrArg List.length h0
      rw [gridZ_len] at this
      simp at this
    · simp [mkres, flat2, flat1, flat0, drV]
  obtain ⟨rv, m', b, hc, rfl, v', rfl, h1, h2⟩ := key
  exact ⟨v', m', hc, h1, h2⟩
end Go.Proofs.YtjecgmfildhpiaaGreatDoor

/- The plain law of DrawViews. -/
namespace Go.Proofs.YtjecgmfildhpiaaGreatDoor
open Go Go.D
theorem FabP.depth {us : List Un} (h : FabP us) {u : Un} (hu : u ∈ us) : 0 ≤ u.back ∧ u.back < u.front ∧ u.front ≤ 8 := by
  have := h.val u hu
  simp only [unB, inB, Bool.and_eq_true, decide_eq_true_eq] at this
  omega
theorem insZ_in {us : List Un} (h : FabP us) (q : Pl) (z : Int) : -1 ≤ insZ (covU us q) z ∧ insZ (covU us q) z ≤ 99 := by
  unfold insZ
  cases e : (covU us q).find? (insB z) with
  | none => exact ⟨Int.le_refl _, by decide⟩
  | some u =>
    have := h.id0 (List.mem_filter.1 (List.mem_of_find?_eq_some e)).1
    show -1 ≤ u.id ∧ u.id ≤ 99
    omega
theorem grid_valid {g : Nat → Nat → Int} {w h : Nat} (hw : 1 ≤ w ∧ w ≤ 40) (hh : 1 ≤ h ∧ h ≤ 40) (hg : ∀ i j, -1 ≤ g i j ∧ g i j ≤ 99) : drB w h (gridZ g w h) = true := by
  unfold drB
  simp only [Bool.and_eq_true, decide_eq_true_eq]
  refine ⟨⟨⟨by unfold inB; rw [decide_eq_true (by omega), decide_eq_true (by omega)]; rfl, by unfold inB; rw [decide_eq_true (by omega), decide_eq_true (by omega)]; rfl⟩, by rw [gridZ_len, Nat.mul_comm]; push_cast; rfl⟩, ?_⟩
  rw [Bool.not_eq_true', List.any_eq_false]
  intro n hn
  obtain ⟨i, j, rfl⟩ := gridZ_mem hn
  have := hg i j
  simp only [inB]
  simp
  omega
end Go.Proofs.YtjecgmfildhpiaaGreatDoor

/- The plain law of DrawMoves: what is moved shows the same. -/
namespace Go.Proofs.YtjecgmfildhpiaaGreatDoor
open Go Go.D
def Pl.mv (dx dy : Int) (p : Pl) : Pl := ⟨p.x + dx, p.y + dy⟩
def Un.mv (dx dy : Int) (u : Un) : Un := { u with shape := u.shape.map (Pl.mv dx dy) }
theorem turn_mv {dx dy : Int} (a b c : Pl) : turnZ (a.mv dx dy) (b.mv dx dy) (c.mv dx dy) = turnZ a b c := by
  unfold turnZ Pl.mv
  dsimp only
  rw [show b.x + dx - (a.x + dx) = b.x - a.x by omega, show c.y + dy - (a.y + dy) = c.y - a.y by omega, show b.y + dy - (a.y + dy) = b.y - a.y by omega, show c.x + dx - (a.x + dx) = c.x - a.x by omega]
theorem row_mv {dx dy : Int} {l : List Pl} {i : Nat} (hi : i < l.length) : rowB (l.map (Pl.mv dx dy)) i = rowB l i := by
  have hm : (i + 1) % l.length < l.length := Nat.mod_lt _ (by omega)
  have ha : l[i]? = some l[i] := List.getElem?_eq_getElem hi
  have hb : l[(i + 1) % l.length]? = some l[(i + 1) % l.length] := List.getElem?_eq_getElem hm
  rw [Bool.eq_iff_iff, row_iff ha hb, row_iff (l := l.map (Pl.mv dx dy)) (a := Pl.mv dx dy l[i]) (b := Pl.mv dx dy l[(i + 1) % l.length]) (by rw [List.getElem?_map, ha]; rfl) (by rw [List.length_map, List.getElem?_map, hb]; rfl), List.length_map]
  constructor
  · intro h k c hc
    have := h k (Pl.mv dx dy c) (by rw [List.getElem?_map, hc]; rfl)
    rwa [turn_mv] at this
  · intro h k c hc
    rw [List.getElem?_map, Option.map_eq_some_iff] at hc
    obtain ⟨c', hc', rfl⟩ := hc
    rw [turn_mv]
    exact h k c' hc'
theorem valid_mv {dx dy : Int} {l : List Pl} (h : validB l = true) (ho : (l.map (Pl.mv dx dy)).any Pl.off = false) : validB (l.map (Pl.mv dx dy)) = true := by
  unfold validB at h ⊢
  simp only [Bool.and_eq_true, decide_eq_true_eq] at h
  obtain ⟨⟨⟨h1, h2⟩, h3⟩, h4⟩ := h
  simp only [Bool.and_eq_true, decide_eq_true_eq, List.length_map, ho]
  refine ⟨⟨⟨h1, h2⟩, rfl⟩, ?_⟩
  unfold convB at h4 ⊢
  rw [List.all_eq_true] at h4 ⊢
  intro i hi
  rw [List.length_map] at hi
  rw [row_mv (List.mem_range.1 hi)]
  exact h4 i hi
theorem least_mv {dx dy : Int} {l : List Pl} {x y : Int} : ∀ n, leastZ ((l.map (Pl.mv dx dy)).map Pl.dbl) ⟨2 * (x + dx) + 1, 2 * (y + dy) + 1⟩ n = leastZ (l.map Pl.dbl) ⟨2 * x + 1, 2 * y + 1⟩ n
  | 0 => rfl
  | n + 1 => by
    have hl : ((l.map (Pl.mv dx dy)).map Pl.dbl).length = (l.map Pl.dbl).length := by simp
    have ht : ∀ a b : Pl, turnZ (a.mv dx dy).dbl (b.mv dx dy).dbl ⟨2 * (x + dx) + 1, 2 * (y + dy) + 1⟩ = turnZ a.dbl b.dbl ⟨2 * x + 1, 2 * y + 1⟩ := fun a b => by
      unfold turnZ Pl.mv Pl.dbl
      dsimp only
      rw [show 2 * (b.x + dx) - 2 * (a.x + dx) = 2 * b.x - 2 * a.x by omega, show 2 * (y + dy) + 1 - 2 * (a.y + dy) = 2 * y + 1 - 2 * a.y by omega, show 2 * (b.y + dy) - 2 * (a.y + dy) = 2 * b.y - 2 * a.y by omega, show 2 * (x + dx) + 1 - 2 * (a.x + dx) = 2 * x + 1 - 2 * a.x by omega]
    have ih := least_mv (dx := dx) (dy := dy) (l := l) (x := x) (y := y) n
    rw [leastZ, leastZ, hl, ih]
    simp only [List.getElem?_map]
    cases l[n]? with
    | none => rfl
    | some a =>
      cases l[(n + 1) % (l.map Pl.dbl).length]? with
      | none => rfl
      | some b => simp only [Option.map_some]; rw [ht]
theorem cell_mv {dx dy : Int} {l : List Pl} {x y : Int} (h : validB l = true) (h' : validB (l.map (Pl.mv dx dy)) = true) (hx : 0 ≤ x ∧ x < 40) (hy : 0 ≤ y ∧ y < 40) (hx' : 0 ≤ x + dx ∧ x + dx < 40) (hy' : 0 ≤ y + dy ∧ y + dy < 40) :
    cellZ (l.map (Pl.mv dx dy)) (x + dx) (y + dy) = cellZ l x y := by
  unfold cellZ
  rw [h, h', decide_eq_true (show 0 ≤ min x y by omega), decide_eq_true (show max x y < 40 by omega), decide_eq_true (show 0 ≤ min (x + dx) (y + dy) by omega), decide_eq_true (show max (x + dx) (y + dy) < 40 by omega)]
  simp only [Bool.and_self, if_true]
  unfold sideZ
  rw [show ((l.map (Pl.mv dx dy)).map Pl.dbl).length = (l.map Pl.dbl).length by simp, least_mv]
theorem covU_mv {dx dy : Int} {us : List Un} {x y : Int} (h : ∀ u ∈ us, validB u.shape = true) (h' : ∀ u ∈ us, validB (u.mv dx dy).shape = true) (hx : 0 ≤ x ∧ x < 40) (hy : 0 ≤ y ∧ y < 40) (hx' : 0 ≤ x + dx ∧ x + dx < 40) (hy' : 0 ≤ y + dy ∧ y + dy < 40) :
    covU (us.map (Un.mv dx dy)) ⟨x + dx, y + dy⟩ = (covU us ⟨x, y⟩).map (Un.mv dx dy) := by
  unfold covU
  rw [List.filter_map]
  congr 1
  refine List.filter_congr fun u hu => ?_
  rw [Function.comp_apply, Bool.eq_iff_iff, cov_iff, cov_iff, show (u.mv dx dy).shape = u.shape.map (Pl.mv dx dy) from rfl, cell_mv (h u hu) (h' u hu) hx hy hx' hy']
theorem firstU_map {bf : Un → Un → Bool} {f : Un → Un} (hbf : ∀ a b, bf (f a) (f b) = bf a b) : ∀ (L : List Un) (o : Option Un), firstU bf (L.map f) (o.map f) = (firstU bf L o).map f
  | [], o => rfl
  | x :: L, none => firstU_map hbf L (some x)
  | x :: L, some b => by
    rw [List.map_cons, Option.map_some, firstU, firstU, hbf, ← firstU_map hbf L]
    congr 1
    cases bf x b <;> rfl
theorem idZ_mv {dx dy : Int} (o : Option Un) : idZ (o.map (Un.mv dx dy)) = idZ o := by cases o <;> rfl
theorem first_mv {dx dy : Int} {bf : Un → Un → Bool} (hbf : ∀ a b : Un, bf (a.mv dx dy) (b.mv dx dy) = bf a b) (L : List Un) : idZ (firstU bf (L.map (Un.mv dx dy)) none) = idZ (firstU bf L none) := by
  have := firstU_map (f := Un.mv dx dy) hbf L none
  rw [Option.map_none] at this
  rw [this, idZ_mv]
theorem insZ_mv {dx dy : Int} (L : List Un) (z : Int) : insZ (L.map (Un.mv dx dy)) z = insZ L z := by
  unfold insZ
  rw [List.find?_map, idZ_mv]
  rfl
theorem elev_mv {dx dy : Int} {us : List Un} {x y : Int} (h : ∀ u ∈ us, validB u.shape = true) (h' : ∀ u ∈ us, validB (u.mv dx dy).shape = true) (hx : 0 ≤ x ∧ x < 40) (hy : 0 ≤ y ∧ y < 40) (hx' : 0 ≤ x + dx ∧ x + dx < 40) (hy' : 0 ≤ y + dy ∧ y + dy < 40) :
    elevZ (us.map (Un.mv dx dy)) false (x + dx) (y + dy) = elevZ us false x y ∧ elevZ (us.map (Un.mv dx dy)) true (39 - x - dx) (y + dy) = elevZ us true (39 - x) y := by
  have hc := covU_mv h h' hx hy hx' hy'
  constructor
  · unfold elevZ
    rw [if_neg (by decide), if_neg (by decide), hc]
    exact first_mv (fun a b => rfl) _
  · unfold elevZ
    rw [if_pos rfl, if_pos rfl, show (39 : Int) - (39 - x - dx) = x + dx by omega, show (39 : Int) - (39 - x) = x by omega, hc]
    exact first_mv (fun a b => rfl) _
theorem sep_mv {dx dy : Int} {a b : List Pl} {i : Nat} : sepB (a.map (Pl.mv dx dy)) (b.map (Pl.mv dx dy)) i = sepB a b i := by
  unfold sepB
  rw [List.length_map, List.getElem?_map, List.getElem?_map]
  cases a[i]? with
  | none => rfl
  | some p =>
    cases a[(i + 1) % a.length]? with
    | none => rfl
    | some q =>
      simp only [Option.map_some, List.any_map]
      congr 2
      funext c
      rw [Function.comp_apply, turn_mv]
theorem firstE_mv {dx dy : Int} {a b : List Pl} : firstE (a.map (Pl.mv dx dy)) (b.map (Pl.mv dx dy)) = firstE a b := by
  unfold firstE
  rw [List.length_map, show sepB (a.map (Pl.mv dx dy)) (b.map (Pl.mv dx dy)) = sepB a b from funext fun i => sep_mv]
theorem FabP.mv {dx dy : Int} {us : List Un} (h : FabP us) (ho : ∀ u ∈ us, (u.mv dx dy).shape.any Pl.off = false) : FabP (us.map (Un.mv dx dy)) := by
  have hv : ∀ u ∈ us, unB (u.mv dx dy) = true := fun u hu => by
    have h1 := h.val u hu
    have h2 := valid_mv (unB_val h1) (ho u hu)
    unfold unB at h1 ⊢
    simp only [Bool.and_eq_true] at h1 ⊢
    exact ⟨h1.1, h2⟩
  refine ⟨by rw [List.length_map]; exact h.len, fun u hu => ?_, fun i a b ha hb => ?_, fun i k a b hik ha hb => ?_⟩
  · obtain ⟨w, hw, rfl⟩ := List.mem_map.1 hu
    exact hv w hw
  · rw [List.getElem?_map, Option.map_eq_some_iff] at ha hb
    obtain ⟨a', ha', rfl⟩ := ha
    obtain ⟨b', hb', rfl⟩ := hb
    exact h.asc i a' b' ha' hb'
  · rw [List.getElem?_map, Option.map_eq_some_iff] at ha hb
    obtain ⟨a', ha', rfl⟩ := ha
    obtain ⟨b', hb', rfl⟩ := hb
    have h1 := h.apart i k a' b' hik ha' hb'
    have ma := List.mem_of_getElem? ha'
    have mb := List.mem_of_getElem? hb'
    unfold overU comB overB at h1 ⊢
    rw [h.val a' ma, h.val b' mb, unB_val (h.val a' ma), unB_val (h.val b' mb)] at h1
    rw [hv a' ma, hv b' mb, unB_val (hv a' ma), unB_val (hv b' mb), show (a'.mv dx dy).shape = a'.shape.map (Pl.mv dx dy) from rfl, show (b'.mv dx dy).shape = b'.shape.map (Pl.mv dx dy) from rfl, firstE_mv, firstE_mv]
    exact h1
end Go.Proofs.YtjecgmfildhpiaaGreatDoor

/- What functions of the program come to, their temporaries gone (made off the translation; each proved by the kernel, word by word). -/
namespace Go.Proofs.YtjecgmfildhpiaaGreatDoor
open Go Go.D

set_option maxRecDepth 100000 in
/-- putlog/putloglaw41.DrawMoves -/
theorem F8 {W : Words} {x0 x1 x2 x3 : Value} {m : M} {R : List Value → M → Nat → Prop} : vcF Tab.env W Tryz.f8 [x0, x1, x2, x3] m R =
(W.onC (.func 9) [] m fun v1 m2 b3 => (W.onS (un? .not v1) fun v4 => (ifV v4
(R [(.bool false)] m2 (min (M.n m) b3))
(W.onC (.func 10) [x0] m2 fun v5 m6 b7 => (W.onM (M.push m6 (.cells [(.slice none 0 0)] 31 none)) fun m8 => (W.on2 (store? Tab.env m8 31 (ptrTo (M.n m6)) v5) fun m9 b10 => (W.onC (.func 15) [x1, (.int .i64 17)] m9 fun v11 m12 b13 => (W.onS (bin? Tab.env .sub 3 v11 (.int .i64 8)) fun v14 => (W.onS (load? Tab.env m12 31 (ptrTo (M.n m6))) fun v15 => (W.onC (.func 35) [v15, v14, (.int .i64 0)] m12 fun v16 m17 b18 => (W.onS (extr? v16 0) fun v19 => (W.onS (extr? v16 1) fun v20 => (W.onM (M.push m17 (.cells [(.slice none 0 0)] 31 none)) fun m21 => (W.on2 (store? Tab.env m21 31 (ptrTo (M.n m17)) v19) fun m22 b23 => (W.onS (bin? Tab.env .neq 35 v20 (.int .i64 0)) fun v24 => (ifV v24
(W.onS (bin? Tab.env .eql 35 v20 (.int .i64 120)) fun v25 => (R [v25] m22 (min (min (min (min (min (min (M.n m) b3) b7) b10) b13) b18) b23)))
(W.onC (.func 15) [x2, (.int .i64 40)] m22 fun v26 m27 b28 => (W.onC (.func 15) [x3, (.int .i64 40)] m27 fun v29 m30 b31 => (W.jn (fun R32 => (W.onS (bin? Tab.env .add 3 v26 v14) fun v36 => (W.onS (bin? Tab.env .lss 3 v36 (.int .i64 0)) fun v37 => (ifV v37
(R32 [(.bool true)] m30 (min (min (min (min (min (min (min (min (M.n m) b3) b7) b10) b13) b18) b23) b28) b31))
(W.onS (bin? Tab.env .add 3 v26 v14) fun v38 => (W.onS (bin? Tab.env .geq 3 v38 (.int .i64 40)) fun v39 => (R32 [v39] m30 (min (min (min (min (min (min (min (min (M.n m) b3) b7) b10) b13) b18) b23) b28) b31))))))))
(fun vs33 m34 lo35 => W.un vs33 fun v40 r41 => (ifV v40
(R [v1] m34 lo35)
(W.onS (load? Tab.env m34 31 (ptrTo (M.n m6))) fun v42 => (W.onC (.func 12) [v42, (.bool false)] m34 fun v43 m44 b45 => (W.onS (extr? v43 0) fun v46 => (W.onS (extr? v43 1) fun v47 => (W.onM (M.push m44 (.cells [(.int .i64 0), (.int .i64 0), (.slice none 0 0)] 27 none)) fun m48 => (W.on2 (store? Tab.env m48 27 (ptrTo (M.n m44)) v46) fun m49 b50 => (W.onS (load? Tab.env m49 31 (ptrTo (M.n m17))) fun v51 => (W.onC (.func 12) [v51, (.bool false)] m49 fun v52 m53 b54 => (W.onS (extr? v52 0) fun v55 => (W.onS (extr? v52 1) fun v56 => (W.onM (M.push m53 (.cells [(.int .i64 0), (.int .i64 0), (.slice none 0 0)] 27 none)) fun m57 => (W.on2 (store? Tab.env m57 27 (ptrTo (M.n m53)) v55) fun m58 b59 => (W.onS (load? Tab.env m58 31 (ptrTo (M.n m6))) fun v60 => (W.onC (.func 12) [v60, (.bool true)] m58 fun v61 m62 b63 => (W.onS (extr? v61 0) fun v64 => (W.onS (extr? v61 1) fun v65 => (W.onM (M.push m62 (.cells [(.int .i64 0), (.int .i64 0), (.slice none 0 0)] 27 none)) fun m66 => (W.on2 (store? Tab.env m66 27 (ptrTo (M.n m62)) v64) fun m67 b68 => (W.onS (load? Tab.env m67 31 (ptrTo (M.n m17))) fun v69 => (W.onC (.func 12) [v69, (.bool true)] m67 fun v70 m71 b72 => (W.onS (extr? v70 0) fun v73 => (W.onS (extr? v70 1) fun v74 => (W.onM (M.push m71 (.cells [(.int .i64 0), (.int .i64 0), (.slice none 0 0)] 27 none)) fun m75 => (W.on2 (store? Tab.env m75 27 (ptrTo (M.n m71)) v73) fun m76 b77 => (W.jn (fun R78 => (W.onS (bin? Tab.env .neq 35 v47 (.int .i64 0)) fun v82 => (ifV v82
(R78 [(.bool true)] m76 (min (min (min (min (min (min (min (min lo35 b45) b50) b54) b59) b63) b68) b72) b77))
(W.onS (bin? Tab.env .neq 35 v56 (.int .i64 0)) fun v83 => (ifV v83
(R78 [(.bool true)] m76 (min (min (min (min (min (min (min (min lo35 b45) b50) b54) b59) b63) b68) b72) b77))
(W.onS (bin? Tab.env .neq 35 v65 (.int .i64 0)) fun v84 => (ifV v84
(R78 [(.bool true)] m76 (min (min (min (min (min (min (min (min lo35 b45) b50) b54) b59) b63) b68) b72) b77))
(W.onS (bin? Tab.env .neq 35 v74 (.int .i64 0)) fun v85 => (ifV v85
(R78 [(.bool true)] m76 (min (min (min (min (min (min (min (min lo35 b45) b50) b54) b59) b63) b68) b72) b77))
(W.onS (load? Tab.env m76 27 (ptrTo (M.n m44))) fun v86 => (W.onC (.func 31) [v86, v26, v29] m76 fun v87 m88 b89 => ((M.n m76 ≤ b89) ∧ (W.onS (load? Tab.env m88 27 (ptrTo (M.n m53))) fun v90 => (W.onS (bin? Tab.env .add 3 v26 v14) fun v91 => (W.onC (.func 31) [v90, v91, v29] m88 fun v92 m93 b94 => (W.onS (bin? Tab.env .neq 3 v87 v92) fun v95 => (ifV v95
(R78 [(.bool true)] m93 (min (min (min (min (min (min (min (min (min (min lo35 b45) b50) b54) b59) b63) b68) b72) b77) b89) b94))
(W.onS (load? Tab.env m93 27 (ptrTo (M.n m62))) fun v96 => (W.onS (bin? Tab.env .sub 3 (.int .i64 39) v26) fun v97 => (W.onC (.func 31) [v96, v97, v29] m93 fun v98 m99 b100 => ((M.n m93 ≤ b100) ∧ (W.onS (load? Tab.env m99 27 (ptrTo (M.n m71))) fun v101 => (W.onS (bin? Tab.env .sub 3 (.int .i64 39) v26) fun v102 => (W.onS (bin? Tab.env .sub 3 v102 v14) fun v103 => (W.onC (.func 31) [v101, v103, v29] m99 fun v104 m105 b106 => (W.onS (bin? Tab.env .neq 3 v98 v104) fun v107 => (R78 [v107] m105 (min (min (min (min (min (min (min (min (min (min (min (min lo35 b45) b50) b54) b59) b63) b68) b72) b77) b89) b94) b100) b106))))))))))))))))))))))))))))
(fun vs79 m80 lo81 => W.un vs79 fun v108 r109 => (ifV v108
(R [(.bool false)] m80 lo81)
(W.onS (load? Tab.env m80 31 (ptrTo (M.n m6))) fun v110 => (W.onC (.func 16) [v110, v29] m80 fun v111 m112 b113 => (W.onS (extr? v111 0) fun v114 => (W.onS (extr? v111 1) fun v115 => (W.onM (M.push m112 (.cells [(.int .i64 0), (.int .i64 0), (.slice none 0 0)] 27 none)) fun m116 => (W.on2 (store? Tab.env m116 27 (ptrTo (M.n m112)) v114) fun m117 b118 => (W.onS (load? Tab.env m117 31 (ptrTo (M.n m17))) fun v119 => (W.onC (.func 16) [v119, v29] m117 fun v120 m121 b122 => (W.onS (extr? v120 0) fun v123 => (W.onS (extr? v120 1) fun v124 => (W.onM (M.push m121 (.cells [(.int .i64 0), (.int .i64 0), (.slice none 0 0)] 27 none)) fun m125 => (W.on2 (store? Tab.env m125 27 (ptrTo (M.n m121)) v123) fun m126 b127 => (W.onS (load? Tab.env m126 31 (ptrTo (M.n m6))) fun v128 => (W.onC (.func 18) [v128, v26] m126 fun v129 m130 b131 => (W.onS (extr? v129 0) fun v132 => (W.onS (extr? v129 1) fun v133 => (W.onM (M.push m130 (.cells [(.int .i64 0), (.int .i64 0), (.slice none 0 0)] 27 none)) fun m134 => (W.on2 (store? Tab.env m134 27 (ptrTo (M.n m130)) v132) fun m135 b136 => (W.onS (load? Tab.env m135 31 (ptrTo (M.n m17))) fun v137 => (W.onS (bin? Tab.env .add 3 v26 v14) fun v138 => (W.onC (.func 18) [v137, v138] m135 fun v139 m140 b141 => (W.onS (extr? v139 0) fun v142 => (W.onS (extr? v139 1) fun v143 => (W.onM (M.push m140 (.cells [(.int .i64 0), (.int .i64 0), (.slice none 0 0)] 27 none)) fun m144 => (W.on2 (store? Tab.env m144 27 (ptrTo (M.n m140)) v142) fun m145 b146 => (W.onS (bin? Tab.env .add 3 v26 v29) fun v147 => (W.onC (.func 15) [v147, (.int .i64 8)] m145 fun v148 m149 b150 => (W.jn (fun R151 => (W.onS (bin? Tab.env .eql 35 v115 (.int .i64 0)) fun v155 => (ifV v155
(W.onS (bin? Tab.env .eql 35 v124 (.int .i64 0)) fun v156 => (ifV v156
(W.onS (bin? Tab.env .eql 35 v133 (.int .i64 0)) fun v157 => (ifV v157
(W.onS (bin? Tab.env .eql 35 v143 (.int .i64 0)) fun v158 => (ifV v158
(W.onS (load? Tab.env m149 27 (ptrTo (M.n m112))) fun v159 => (W.onC (.func 31) [v159, v26, v148] m149 fun v160 m161 b162 => ((M.n m149 ≤ b162) ∧ (W.onS (load? Tab.env m161 27 (ptrTo (M.n m121))) fun v163 => (W.onS (bin? Tab.env .add 3 v26 v14) fun v164 => (W.onC (.func 31) [v163, v164, v148] m161 fun v165 m166 b167 => (W.onS (bin? Tab.env .eql 3 v160 v165) fun v168 => (ifV v168
(W.onS (load? Tab.env m166 27 (ptrTo (M.n m130))) fun v169 => (W.onS (load? Tab.env m166 27 (ptrTo (M.n m140))) fun v170 => (W.onC (.func 14) [v169, v170] m166 fun v171 m172 b173 => (R151 [v171] m172 (min (min (min (min (min (min (min (min (min (min (min (min lo81 b113) b118) b122) b127) b131) b136) b141) b146) b150) b162) b167) b173)))))
(R151 [(.bool false)] m166 (min (min (min (min (min (min (min (min (min (min (min lo81 b113) b118) b122) b127) b131) b136) b141) b146) b150) b162) b167))))))))))
(R151 [(.bool false)] m149 (min (min (min (min (min (min (min (min (min lo81 b113) b118) b122) b127) b131) b136) b141) b146) b150))))
(R151 [(.bool false)] m149 (min (min (min (min (min (min (min (min (min lo81 b113) b118) b122) b127) b131) b136) b141) b146) b150))))
(R151 [(.bool false)] m149 (min (min (min (min (min (min (min (min (min lo81 b113) b118) b122) b127) b131) b136) b141) b146) b150))))
(R151 [(.bool false)] m149 (min (min (min (min (min (min (min (min (min lo81 b113) b118) b122) b127) b131) b136) b141) b146) b150)))))
(fun vs152 m153 lo154 => W.un vs152 fun v174 r175 => (R [v174] m153 lo154)))))))))))))))))))))))))))))))))))))))))))))))))))))))))))))))))))))))))))))) := by kernel_rfl

set_option maxRecDepth 100000 in
/-- putlog/fabric.Move -/
theorem F35 {W : Words} {x0 x1 x2 : Value} {m : M} {R : List Value → M → Nat → Prop} : vcF Tab.env W Tryz.f35 [x0, x1, x2] m R =
(W.onM (M.push m (.cells (cells x0) 31 none)) fun m1 => (W.onM (M.push m1 (.cells [(.slice none 0 0)] 31 none)) fun m2 => (W.onS (load? Tab.env m2 31 (ptrTo (M.n m))) fun v3 => (W.onC (.func 47) [v3] m2 fun v4 m5 b6 => (W.onS (un? .not v4) fun v7 => (ifV v7
(W.onS (build? Tab.env 31 []) fun v8 => (W.on2 (store? Tab.env m5 31 (ptrTo (M.n m1)) v8) fun m9 b10 => (onS (load? Tab.env m9 31 (ptrTo (M.n m1))) fun v11 => (R [v11, (.int .i64 120)] m9 (min (min (M.n m) b6) b10)))))
(W.onM (M.push m5 (.cells [(.slice none 0 0)] 31 none)) fun m12 => (W.onS (fieldAddr? Tab.env 31 (ptrTo (M.n m)) 0) fun v13 => (W.onS (load? Tab.env m12 29 v13) fun v14 => (W.on2 (builtin? Tab.env m12 .len [29] [v14]) fun v15 _ => (W.Lp (fun P16 vs17 m18 lo19 => W.un vs17 fun v20 r21 => W.un r21 fun v22 r23 => (W.onS (bin? Tab.env .lss 3 v22 v15) fun v24 => (ifV v24
(W.onS (indexAddr? Tab.env 29 v14 v22) fun v25 => (W.onS (load? Tab.env m18 57 v25) fun v26 => (W.onM (M.push m18 (.cells [(.int .i64 0), (.int .i64 0), (.int .i64 0), (.slice none 0 0), (.int .i64 0), (.int .i64 0)] 57 none)) fun m27 => (W.on2 (store? Tab.env m27 57 (ptrTo (M.n m18)) v26) fun m28 b29 => (W.onS (load? Tab.env m28 57 (ptrTo (M.n m18))) fun v30 => (W.onC (.func 79) [v30, x1, x2] m28 fun v31 m32 b33 => (W.onS (extr? v31 0) fun v34 => (W.onS (extr? v31 1) fun v35 => (W.onM (M.push m32 (.cells [(.int .i64 0), (.int .i64 0), (.int .i64 0), (.slice none 0 0), (.int .i64 0), (.int .i64 0)] 57 none)) fun m36 => (W.on2 (store? Tab.env m36 57 (ptrTo (M.n m32)) v34) fun m37 b38 => (W.onS (bin? Tab.env .neq 35 v35 (.int .i64 0)) fun v39 => (ifV v39
(W.onS (build? Tab.env 31 []) fun v40 => (W.on2 (store? Tab.env m37 31 (ptrTo (M.n m1)) v40) fun m41 b42 => (onS (load? Tab.env m41 31 (ptrTo (M.n m1))) fun v43 => (R [v43, (.int .i64 120)] m41 (min (min (min (min lo19 b29) b33) b38) b42)))))
(W.onS (fieldAddr? Tab.env 31 (ptrTo (M.n m5)) 0) fun v44 => (W.onS (load? Tab.env m37 29 v44) fun v45 => (W.onS (load? Tab.env m37 57 (ptrTo (M.n m32))) fun v46 => (W.on2 (buildSlice? Tab.env m37 29 1 [(0, v46)]) fun v47 m48 => (W.on2 (builtin? Tab.env (M.wl m48 (M.n m48)) .append [29, 29] [v45, v47]) fun v49 m50 => (W.onS (fieldAddr? Tab.env 31 (ptrTo (M.n m5)) 0) fun v51 => (W.on2 (store? Tab.env m50 29 v51 v49) fun m52 b53 => (W.onS (bin? Tab.env .add 3 v22 (.int .i64 1)) fun v54 => (P16 [v20, v54] m52 (min (min (min (min (min lo19 b29) b33) b38) (M.low m50)) b53))))))))))))))))))))))
(W.onS (load? Tab.env m18 31 (ptrTo (M.n m5))) fun v55 => (W.on2 (store? Tab.env m18 31 (ptrTo (M.n m1)) v55) fun m56 b57 => (onS (load? Tab.env m56 31 (ptrTo (M.n m1))) fun v58 => (R [v58, (.int .i64 0)] m56 (min lo19 b57)))))))) [(.int .i64 0), (.int .i64 0)] m12 (min (M.n m) b6)))))))))))) := by kernel_rfl

set_option maxRecDepth 100000 in
/-- putlog/unit.Move -/
theorem F79 {W : Words} {x0 x1 x2 : Value} {m : M} {R : List Value → M → Nat → Prop} : vcF Tab.env W Tryz.f79 [x0, x1, x2] m R =
(W.onM (M.push m (.cells (cells x0) 57 none)) fun m1 => (W.onM (M.push m1 (.cells [(.int .i64 0), (.int .i64 0), (.int .i64 0), (.slice none 0 0), (.int .i64 0), (.int .i64 0)] 57 none)) fun m2 => (W.onS (fieldAddr? Tab.env 57 (ptrTo (M.n m)) 3) fun v3 => (W.onS (load? Tab.env m2 45 v3) fun v4 => (W.onC (.func 116) [v4, x1, x2] m2 fun v5 m6 b7 => (W.onS (extr? v5 0) fun v8 => (W.onS (extr? v5 1) fun v9 => (W.jn (fun R10 => (W.onS (bin? Tab.env .neq 35 v9 (.int .i64 0)) fun v14 => (ifV v14
(R10 [(.bool true)] m6 (min (M.n m) b7))
(W.onS (load? Tab.env m6 57 (ptrTo (M.n m))) fun v15 => (W.onC (.func 93) [v15] m6 fun v16 m17 b18 => (W.onS (un? .not v16) fun v19 => (R10 [v19] m17 (min (min (M.n m) b7) b18))))))))
(fun vs11 m12 lo13 => W.un vs11 fun v20 r21 => (ifV v20
(W.onS (build? Tab.env 57 []) fun v22 => (W.on2 (store? Tab.env m12 57 (ptrTo (M.n m1)) v22) fun m23 b24 => (onS (load? Tab.env m23 57 (ptrTo (M.n m1))) fun v25 => (R [v25, (.int .i64 80)] m23 (min lo13 b24)))))
(W.onS (fieldAddr? Tab.env 57 (ptrTo (M.n m)) 3) fun v26 => (W.on2 (store? Tab.env m12 45 v26 v8) fun m27 b28 => (W.onS (load? Tab.env m27 57 (ptrTo (M.n m))) fun v29 => (W.on2 (store? Tab.env m27 57 (ptrTo (M.n m1)) v29) fun m30 b31 => (onS (load? Tab.env m30 57 (ptrTo (M.n m1))) fun v32 => (R [v32, (.int .i64 0)] m30 (min (min lo13 b28) b31))))))))))))))))) := by kernel_rfl

set_option maxRecDepth 100000 in
/-- putlog/plane.Move -/
theorem F116 {W : Words} {x0 x1 x2 : Value} {m : M} {R : List Value → M → Nat → Prop} : vcF Tab.env W Tryz.f116 [x0, x1, x2] m R =
(W.jn (fun R1 => (W.onC (.func 77) [x0] m fun v5 m6 b7 => (W.onS (un? .not v5) fun v8 => (ifV v8
(R1 [(.bool true)] m6 (min (M.n m) b7))
(W.on2 (builtin? Tab.env m6 .max [3, 3] [x1, x2]) fun v9 _ => (W.onS (bin? Tab.env .gtr 3 v9 (.int .i64 40)) fun v10 => (ifV v10
(R1 [(.bool true)] m6 (min (M.n m) b7))
(W.on2 (builtin? Tab.env m6 .min [3, 3] [x1, x2]) fun v11 _ => (W.onS (bin? Tab.env .lss 3 v11 (.int .i64 (-40))) fun v12 => (R1 [v12] m6 (min (M.n m) b7)))))))))))
(fun vs2 m3 lo4 => W.un vs2 fun v13 r14 => (ifV v13
(R [(.slice none 0 0), (.int .i64 70)] m3 lo4)
(W.onC (.func 76) [x0] m3 fun v15 m16 b17 => (W.on2 (builtin? Tab.env m16 .len [45] [v15]) fun v18 _ => (W.Lp (fun P19 vs20 m21 lo22 => W.un vs20 fun v23 r24 => (W.onS (bin? Tab.env .lss 3 v23 v18) fun v25 => (ifV v25
(W.onS (indexAddr? Tab.env 45 v15 v23) fun v26 => (W.onS (fieldAddr? Tab.env 64 v26 0) fun v27 => (W.onS (load? Tab.env m21 3 v27) fun v28 => (W.onS (bin? Tab.env .add 3 v28 x1) fun v29 => (W.onS (indexAddr? Tab.env 45 v15 v23) fun v30 => (W.onS (fieldAddr? Tab.env 64 v30 0) fun v31 => (W.on2 (store? Tab.env m21 3 v31 v29) fun m32 b33 => (W.onS (indexAddr? Tab.env 45 v15 v23) fun v34 => (W.onS (fieldAddr? Tab.env 64 v34 1) fun v35 => (W.onS (load? Tab.env m32 3 v35) fun v36 => (W.onS (bin? Tab.env .add 3 v36 x2) fun v37 => (W.onS (indexAddr? Tab.env 45 v15 v23) fun v38 => (W.onS (fieldAddr? Tab.env 64 v38 1) fun v39 => (W.on2 (store? Tab.env m32 3 v39 v37) fun m40 b41 => (W.onS (bin? Tab.env .add 3 v23 (.int .i64 1)) fun v42 => (P19 [v42] m40 (min (min lo22 b33) b41)))))))))))))))))
(W.onC (.func 112) [v15, (.func (.func 113) #[] #[])] m21 fun v43 m44 b45 => (ifV v43
(R [(.slice none 0 0), (.int .i64 70)] m44 (min lo22 b45))
(R [v15, (.int .i64 0)] m44 (min lo22 b45))))))) [(.int .i64 0)] m16 (min lo4 b17))))))) := by kernel_rfl

end Go.Proofs.YtjecgmfildhpiaaGreatDoor

/- plane.Move, unit.Move. -/
namespace Go.Proofs.YtjecgmfildhpiaaGreatDoor
open Go Go.D
variable {X : CallFn} {m : M}
/-- The first i mapped. -/
def mixF (f : Pl → Pl) (l : List Pl) (i : Nat) : List Pl := (l.take i).map f ++ l.drop i
theorem mixF_at {f : Pl → Pl} {l : List Pl} {i : Nat} {p : Pl} (h : l[i]? = some p) : (mixF f l i)[i]? = some p := by
  have hi := (List.getElem?_eq_some_iff.1 h).1
  unfold mixF
  rw [List.getElem?_append_right (by simp; omega)]
  simp only [List.length_map, List.length_take, List.getElem?_drop]
  rw [show i + (i - min i l.length) = i by omega, h]
theorem mixF_len {f : Pl → Pl} {l : List Pl} {i : Nat} (h : i ≤ l.length) : (mixF f l i).length = l.length := by
  unfold mixF
  simp; omega
theorem mixF_next {f : Pl → Pl} {l : List Pl} {i : Nat} {p : Pl} (h : l[i]? = some p) : (mixF f l i).set i (f p) = mixF f l (i + 1) := by
  have hi := (List.getElem?_eq_some_iff.1 h).1
  unfold mixF
  rw [List.set_append_right (h := by simp; omega)]
  simp only [List.length_map, List.length_take]
  rw [show i - min i l.length = 0 by omega, List.take_add_one, h, Option.toList_some, List.map_append, List.append_assoc]
  congr 1
  rw [List.drop_eq_getElem_cons hi, List.set_cons_zero]
  rfl
/-- What Move answers. -/
def MvR (m : M) (l : List Pl) (dx dy : Int) (rv : Value) : Prop :=
  if (l.map (Pl.mv dx dy)).any Pl.off = true then rv = .tuple #[.slice none 0 0, .int .i64 70] else ∃ v', rv = .tuple #[v', .int .i64 0] ∧ Sl m (l.map (Pl.mv dx dy)) v' ∧ ∃ a n c, v' = .slice (some a) n c
set_option maxRecDepth 100000 in
theorem pmove_ok (hX : NoX X) {l : List Pl} {v : Value} (hl : Sl m l v) (hv : validB l = true) {dx dy : Int} (hdx : -40 ≤ dx ∧ dx ≤ 40) (hdy : -40 ≤ dy ∧ dy ≤ 40) :
    ∃ rv m', C X (.func 116) [v, .int .i64 dx, .int .i64 dy] m m.n rv m' ∧ Ext m m' ∧ MvR m' l dx dy rv := by
  have hlen := valid_len hv
  have hne : l ≠ [] := by rintro rfl; simp at hlen
  have key : ∃ rv m' b, C X (.func 116) [v, .int .i64 dx, .int .i64 dy] m b rv m' ∧ b = m.n ∧ Ext m m' ∧ MvR m' l dx dy rv := by
    refine Cl.gen (R := fun rv m' b => b = m.n ∧ Ext m m' ∧ MvR m' l dx dy rv) (hX.no _ rfl) fn_116 rfl ?_
    rw [F116]; dsimp only [plainW]
    refine jn_of (fun vs mm lo => vs = [.bool false] ∧ m = mm ∧ m.n ≤ lo) (fun R hR => ?_) ?_
    · refine onC_of (valid_ok hX hl (by omega)) ?_
      rw [hv, un_not, onS_some, ifV_bool, Bool.not_true, ifB_false, max_two, on2_some, bin_gtr, onS_some, ifV_bool, decide_eq_false (by omega), ifB_false, min_two, on2_some, bin_lss, onS_some, decide_eq_false (by omega)]
      exact hR _ _ _ ⟨rfl, rfl, by omega⟩
    rintro _ _ lo4 ⟨rfl, rfl, hlo4⟩
    rw [un_cons, ifV_bool, ifB_false]
    obtain ⟨v', m2, hc, hOw, hx⟩ := clonePl_ok hX hl hne (by omega)
    refine onC_of hc ?_
    have hx2 := hx.n
    rcases hOw with ⟨_, rfl⟩ | ⟨b, cs, rfl, hpos, hbn, hg, hcl, hch⟩
    · exact absurd rfl hne
    obtain rfl : cs = plC l := plC_of hcl hch
    have hm0 : mixF (Pl.mv dx dy) l 0 = l := by unfold mixF; simp
    have hlen2 : ∀ mm : M, builtin? Tab.env mm .len [45] [.slice (some ⟨b, 0, none⟩) l.length l.length] = some (.int .i64 l.length, mm) := fun mm => len_45
    rw [hlen2, on2_some]
    refine Lp.intro (γ := Nat) (fun i => l.length - i) (fun i vs m1 lo => vs = [.int .i64 i] ∧ i ≤ l.length ∧ Ext m m1 ∧ m1.get b = .cells (plC (mixF (Pl.mv dx dy) l i)) 64 (some 2) ∧ m.n ≤ lo) 0 ⟨rfl, Nat.zero_le _, hx, by rw [hm0]; exact hg, by omega⟩ ?_
    rintro i vs m1 lo1 ⟨rfl, hi, hxi, hgi, hlo⟩
    have hni := hxi.n
    rw [un_cons, bin_lss, onS_some, ifV_bool]
    refine ifB_intro (fun hlt => ?_) (fun hge => ?_)
    · have hlt : i < l.length := by simpa using hlt
      obtain ⟨p, hp⟩ : ∃ p, l[i]? = some p := ⟨_, List.getElem?_eq_getElem hlt⟩
      have hsm := Pl.on (valid_on hv p (List.mem_of_getElem? hp))
      have hat := mixF_at (f := Pl.mv dx dy) hp
      have hmlen := mixF_len (f := Pl.mv dx dy) (l := l) (i := i) (by omega)
      simp only [idx_pl hlt, onS_some, fieldAddr_64_0, fieldAddr_64_1, Nat.add_zero]
      rw [load_3, cellAt_of hgi, plC_x hat, onS_some, bin_add, onS_some, wrap64 (by omega) (by omega)]
      refine on2_store ty_3 hgi rfl (by rw [plC_len, hmlen]; show i * 2 + 1 ≤ _; omega) rfl fun m3 hn3 hg3 hk3 => ?_
      have hg3' : m3.get b = .cells (plC ((mixF (Pl.mv dx dy) l i).set i ⟨p.x + dx, p.y⟩)) 64 (some 2) := by
        rw [hg3, ← plC_setx _ hat, ← set_split (by rw [plC_len, hmlen]; omega)]; rfl
      have hat3 : ((mixF (Pl.mv dx dy) l i).set i ⟨p.x + dx, p.y⟩)[i]? = some ⟨p.x + dx, p.y⟩ := by rw [List.getElem?_set_self (by rw [hmlen]; exact hlt)]
      rw [load_3, cellAt_of hg3', plC_y hat3, onS_some]
      simp only [bin_add, onS_some]
      rw [wrap64 (x := p.y + dy) (by omega) (by omega)]
      refine on2_store ty_3 hg3' rfl (by rw [plC_len, List.length_set, hmlen]; show i * 2 + 1 + 1 ≤ _; omega) rfl fun m4 hn4 hg4 hk4 => ?_
      have hg4' : m4.get b = .cells (plC (mixF (Pl.mv dx dy) l (i + 1))) 64 (some 2) := by
        rw [hg4, ← mixF_next hp, show Pl.mv dx dy p = ⟨p.x + dx, p.y + dy⟩ from rfl,
          show (mixF (Pl.mv dx dy) l i).set i ⟨p.x + dx, p.y + dy⟩ = ((mixF (Pl.mv dx dy) l i).set i ⟨p.x + dx, p.y⟩).set i ⟨p.x + dx, p.y + dy⟩ by rw [List.set_set], ← plC_sety _ hat3, ← set_split (by rw [plC_len, List.length_set, hmlen]; omega)]; rfl
      rw [wrap64 (by omega) (by omega)]
      exact ⟨i + 1, by omega, by simp, by omega, ⟨by omega, fun c hc => by rw [hk4 c (by omega), hk3 c (by omega), hxi.get c hc]⟩, hg4', by omega⟩
    · have hi' : i = l.length := by
        have : ¬ (i : Int) < (l.length : Int) := by simpa using hge
        omega
      have hm : mixF (Pl.mv dx dy) l i = l.map (Pl.mv dx dy) := by unfold mixF; rw [hi', List.take_length, List.drop_length, List.append_nil]
      rw [hm] at hgi
      have hs := sl_plC (c := l.length) hgi
      rw [List.length_map] at hs
      refine onC_of (containsPl_ok hX Pl.off (by rw [List.length_map]; omega) hs fun x _ => isOff_ok hX x) ?_
      rw [ifV_bool]
      refine ifB_intro (fun ho => ?_) (fun ho => ?_)
      · refine .inl ⟨rfl, by omega, rfl, .refl, ?_⟩
        unfold MvR
        rw [if_pos ho]; rfl
      · refine .inr ⟨.inl (by simp [mkres, flat2, flat1, flat0]), by omega, hxi, ?_⟩
        unfold MvR
        rw [if_neg (by rw [ho]; decide)]
        exact ⟨_, rfl, hs, _, _, _, rfl⟩
  obtain ⟨rv, m', b, hc, rfl, h1, h2⟩ := key
  exact ⟨rv, m', hc, h1, h2⟩
def MvU (m : M) (u : Un) (dx dy : Int) (rv : Value) : Prop :=
  if (u.mv dx dy).shape.any Pl.off = true then rv = .tuple #[.agg Un.zc.toArray, .int .i64 80] else ∃ w', rv = .tuple #[(u.mv dx dy).v w', .int .i64 0] ∧ Sl m (u.mv dx dy).shape w' ∧ ∃ a n c, w' = .slice (some a) n c
set_option maxRecDepth 100000 in
theorem umove_ok (hX : NoX X) {u : Un} {w : Value} (hw : Sl m u.shape w) (hu : unB u = true) {dx dy : Int} (hdx : -40 ≤ dx ∧ dx ≤ 40) (hdy : -40 ≤ dy ∧ dy ≤ 40) :
    ∃ rv m', C X (.func 79) [u.v w, .int .i64 dx, .int .i64 dy] m m.n rv m' ∧ Ext m m' ∧ MvU m' u dx dy rv := by
  have hv := unB_val hu
  have hlen := valid_len hv
  have key : ∃ rv m' b, C X (.func 79) [u.v w, .int .i64 dx, .int .i64 dy] m b rv m' ∧ b = m.n ∧ Ext m m' ∧ MvU m' u dx dy rv := by
    refine Cl.gen (R := fun rv m' b => b = m.n ∧ Ext m m' ∧ MvU m' u dx dy rv) (hX.no _ rfl) fn_79 rfl ?_
    rw [F79]; dsimp only [plainW]
    refine onM_push fun m1 hn1 hg1 hk1 => ?_
    refine onM_push fun m2 hn2 hg2 hk2 => ?_
    have hg1 : m1.get m.n = .cells (u.c w) 57 none := hg1
    have hx2 : Ext m m2 := ⟨by omega, fun c hc => by rw [hk2 c (by omega), hk1 c hc]⟩
    have g1 : m2.get m.n = .cells (u.c w) 57 none := by rw [hk2 _ (by omega), hg1]
    obtain ⟨-, -, -, l3, -, -⟩ := unf g1
    unfold ptrTo
    rw [fieldAddr_57_3, onS_some, l3, onS_some]
    obtain ⟨rv, m6, hc6, hx6, hr6⟩ := pmove_ok (m := m2) hX (hw.keepE hx2) hv hdx hdy
    refine onC_of hc6 ?_
    have n6 := hx6.n
    have g16 := hx6.cells g1
    have g26 : m6.get m1.n = .cells Un.zc 57 none := by rw [hx6.get _ (by omega), hg2]
    have hx26 := hx2.trans hx6
    unfold MvR at hr6
    by_cases ho : (u.shape.map (Pl.mv dx dy)).any Pl.off = true
    · rw [if_pos ho] at hr6
      subst hr6
      rw [extr_tuple, extr_tuple]
      simp only [List.getElem?_cons_zero, List.getElem?_cons_succ, onS_some]
      refine jn_of (fun vs mm lo => vs = [.bool true] ∧ m6 = mm ∧ m.n ≤ lo) (fun R hR => ?_) ?_
      · rw [bin_neq, onS_some, ifV_bool, show (!(decide ((70 : Int) = 0))) = true from rfl, ifB_true]
        exact hR _ _ _ ⟨rfl, rfl, by omega⟩
      rintro _ _ lo ⟨rfl, rfl, hlo⟩
      have bld : build? Tab.env 57 [] = some (.agg Un.zc.toArray) := build_57_
      rw [un_cons, ifV_bool, ifB_true, bld, onS_some]
      refine on2_storeV ty_57 g26 rfl rfl rfl fun m9 hn9 hg9 hk9 => ?_
      rw [load_57, loadCells_of hg9 (by simp [cells_agg])]
      refine .inl ⟨by kernel_rfl, by omega, trivial, .refl, ?_⟩
      unfold MvU
      rw [if_pos (show (u.mv dx dy).shape.any Pl.off = true from ho)]; rfl
    · rw [if_neg ho] at hr6
      obtain ⟨v', rfl, hs', a, n, c, rfl⟩ := hr6
      rw [extr_tuple, extr_tuple]
      simp only [List.getElem?_cons_zero, List.getElem?_cons_succ, onS_some]
      refine jn_of (fun vs mm lo => vs = [.bool false] ∧ m6 = mm ∧ m.n ≤ lo) (fun R hR => ?_) ?_
      · rw [bin_neq, onS_some, ifV_bool, show (!(decide ((0 : Int) = 0))) = false from rfl, ifB_false, load_un g16, onS_some]
        refine onC_of (uvalid_ok hX ((hw.keepE hx2).keepE hx6) (by omega)) ?_
        rw [hu, un_not, onS_some]
        exact hR _ _ _ ⟨rfl, rfl, by omega⟩
      rintro _ _ lo ⟨rfl, rfl, hlo⟩
      rw [un_cons, ifV_bool, ifB_false]
      refine on2_store ty_45 g16 rfl (by show 3 + 1 ≤ 6; omega) rfl fun m27 hn27 hg27 hk27 => ?_
      have hg27 : m27.get m.n = .cells ((u.mv dx dy).c (.slice (some a) n c)) 57 none := by rw [hg27]; rfl
      rw [load_un hg27, onS_some]
      have g227 : m27.get m1.n = .cells Un.zc 57 none := by rw [hk27 _ (by omega), g26]
      refine on2_storeV ty_57 g227 rfl rfl (Un.c_one rfl) fun m30 hn30 hg30 hk30 => ?_
      have hg30 : m30.get m1.n = .cells ((u.mv dx dy).c (.slice (some a) n c)) 57 none := hg30
      rw [load_un hg30, onS_some]
      have hsl : Sl m30 (u.shape.map (Pl.mv dx dy)) (.slice (some a) n c) := hs'.keep fun b cs t g hb ht => by
        have h1 : b ≠ m.n := fun e => by subst e; rw [g16] at hb; cases hb; simp [Rep.ty, Rep.tys] at ht
        rw [hk30 b (fun e => by subst e; rw [g26] at hb; cases hb; simp [Rep.ty, Rep.tys] at ht), hk27 b h1, hb]
      refine .inr ⟨.inl (by simp [mkres, flat2, flat1, flat0, Un.c]), by omega, ⟨by omega, fun c hc => by rw [hk30 c (by omega), hk27 c (by omega), hx26.get c hc]⟩, ?_⟩
      unfold MvU
      rw [if_neg (show ¬ (u.mv dx dy).shape.any Pl.off = true from ho)]
      exact ⟨_, rfl, hsl, _, _, _, rfl⟩
  obtain ⟨rv, m', b, hc, rfl, h1, h2⟩ := key
  exact ⟨rv, m', hc, h1, h2⟩
/-- What a fabric that is moved comes to. -/
def MvF (m : M) (l : List UW) (dx dy : Int) (rv : Value) : Prop :=
  (∃ l' r', rv = .tuple #[.agg #[r'], .int .i64 0] ∧ us' l' = (us' l).map (Un.mv dx dy) ∧ FabV m l' r' ∧ ∀ u ∈ us' l, (u.mv dx dy).shape.any Pl.off = false) ∨ rv = .tuple #[.agg #[.slice none 0 0], .int .i64 120]
set_option maxRecDepth 100000 in
theorem fmove_ok (hX : NoX X) {l : List UW} {v : Value} (h : FabV m l v) (hP : FabP (us' l)) {dx dy : Int} (hdx : -40 ≤ dx ∧ dx ≤ 40) (hdy : -40 ≤ dy ∧ dy ≤ 40) :
    ∃ rv m', C X (.func 35) [.agg #[v], .int .i64 dx, .int .i64 dy] m m.n rv m' ∧ Ext m m' ∧ MvF m' l dx dy rv := by
  have hl : l.length ≤ 12 := by have := hP.len; rwa [us_len] at this
  have key : ∃ rv m' b, C X (.func 35) [.agg #[v], .int .i64 dx, .int .i64 dy] m b rv m' ∧ b = m.n ∧ Ext m m' ∧ MvF m' l dx dy rv := by
    refine Cl.gen (R := fun rv m' b => b = m.n ∧ Ext m m' ∧ MvF m' l dx dy rv) (hX.no _ rfl) fn_35 rfl ?_
    rw [F35]; dsimp only [plainW]
    refine onM_push fun m1 hn1 hg1 hk1 => ?_
    refine onM_push fun m2 hn2 hg2 hk2 => ?_
    have hx2 : Ext m m2 := ⟨by omega, fun c hc => by rw [hk2 c (by omega), hk1 c hc]⟩
    have g1 : m2.get m.n = .cells [v] 31 none := by rw [hk2 _ (by omega)]; exact hg1
    have hF := h.keepE hx2
    unfold ptrTo
    have ld : load? Tab.env m2 31 (.pointer (some ⟨m.n, 0, none⟩)) = some (.agg #[v]) := by rw [load_31, loadCells_of g1 (by simp)]; rfl
    rw [ld, onS_some]
    refine onC_of (fvalid_ok hX hF (by omega)) ?_
    rw [fabB_true hP, un_not, onS_some, ifV_bool, Bool.not_true, ifB_false]
    refine onM_push fun m12 hn12 hg12 hk12 => ?_
    obtain ⟨oc, hoc⟩ : ∃ oc, oc = m2.n := ⟨_, rfl⟩
    rw [← hoc] at hg12 ⊢
    have g112 : m12.get m.n = .cells [v] 31 none := by rw [hk12 _ (by omega), g1]
    have g212 : m12.get m1.n = .cells [.slice none 0 0] 31 none := by rw [hk12 _ (by omega)]; exact hg2
    have hx12 : Ext m m12 := ⟨by omega, fun c hc => by rw [hk12 c (by omega), hx2.get c hc]⟩
    have ldv : load? Tab.env m12 29 (.pointer (some ⟨m.n, 0 + 0, none⟩)) = some v := by rw [load_29, cellAt_of g112]; rfl
    rw [fieldAddr_31_0, onS_some, ldv, onS_some, (h.keepE hx12).sl.len slt_uw, on2_some]
    refine Lp.intro (γ := Nat) (fun i => l.length - i) (fun i vs mm lo => ∃ (w0 : Value) (acc : List UW) (r : Value), vs = [w0, .int .i64 i] ∧ i ≤ l.length ∧ GrU oc mm acc r ∧ (∀ c, c < oc → mm.get c = m12.get c) ∧ m.n ≤ lo ∧ m12.n ≤ mm.n ∧
      us' acc = ((us' l).take i).map (Un.mv dx dy) ∧ (∀ u ∈ (us' l).take i, (u.mv dx dy).shape.any Pl.off = false) ∧ acc.length ≤ i) 0
      ⟨_, [], _, rfl, Nat.zero_le _, ⟨hg12, .nil, fun x hx => (by cases hx), fun x hx => (by cases hx)⟩, fun c hc => rfl, by omega, Nat.le_refl _, rfl, fun u hu => (by simp at hu), Nat.zero_le _⟩ ?_
    rintro i vs mm lo19 ⟨w0, acc, r, rfl, hi, hgr, hk, hlo, hnm, hus, hoff, hal⟩
    have hxm : Ext m mm := ⟨by omega, fun c hc => by rw [hk c (by omega), hx12.get c hc]⟩
    rw [un_cons, un_cons, bin_lss, onS_some, ifV_bool]
    refine ifB_intro (fun hlt => ?_) (fun hge => ?_)
    · have hlt : i < l.length := by simpa using hlt
      obtain ⟨x, hx⟩ : ∃ x, l[i]? = some x := ⟨_, List.getElem?_eq_getElem hlt⟩
      have hxl := List.mem_of_getElem? hx
      have hxu : x.u ∈ us' l := List.mem_map.2 ⟨x, hxl, rfl⟩
      have htk : (us' l).take (i + 1) = (us' l).take i ++ [x.u] := by rw [List.take_add_one, us_at hx]; rfl
      obtain ⟨q, q1, q2, hone⟩ := (h.keepE hxm).sl.at_uw (k := .i64) hx
      rw [q1, onS_some, q2, onS_some]
      refine onM_push fun m27 hn27 hg27 hk27 => ?_
      refine on2_storeV ty_57 hg27 rfl rfl (Un.c_one hone) fun m28 hn28 hg28 hk28 => ?_
      have hg28 : m28.get mm.n = .cells x.c 57 none := hg28
      have hx28 : Ext mm m28 := ⟨by omega, fun c hc => by rw [hk28 c (by omega), hk27 c hc]⟩
      rw [load_uw hg28, onS_some]
      obtain ⟨rv, m32, hc32, hx32, hr32⟩ := umove_ok (m := m28) hX (w := x.w) (((h.keepE hxm).sh x hxl).keepE hx28) (hP.val x.u hxu) hdx hdy
      refine onC_of hc32 ?_
      have n32 := hx32.n
      have hx2832 := hx28.trans hx32
      unfold MvU at hr32
      by_cases ho : (x.u.mv dx dy).shape.any Pl.off = true
      · rw [if_pos ho] at hr32
        subst hr32
        rw [extr_tuple, extr_tuple]
        simp only [List.getElem?_cons_zero, List.getElem?_cons_succ, onS_some]
        refine onM_push fun m36 hn36 hg36 hk36 => ?_
        refine on2_storeV ty_57 hg36 rfl rfl rfl fun m37 hn37 hg37 hk37 => ?_
        rw [bin_neq, onS_some, ifV_bool, show (!(decide ((80 : Int) = 0))) = true from rfl, ifB_true]
        have bld : build? Tab.env 31 [] = some (.agg #[.slice none 0 0]) := build_31_
        rw [bld, onS_some]
        have g2 : m37.get m1.n = .cells [.slice none 0 0] 31 none := by rw [hk37 _ (by omega), hk36 _ (by omega), hx2832.get _ (by omega), hk _ (by omega), g212]
        refine on2_storeV ty_31 g2 rfl rfl rfl fun m41 hn41 hg41 hk41 => ?_
        have hg41 : m41.get m1.n = .cells [.slice none 0 0] 31 none := hg41
        rw [load_31, loadCells_of hg41 (by simp)]
        show onS (some (Value.agg #[.slice none 0 0])) _
        rw [onS_some]
        exact .inl ⟨rfl, by omega, trivial, .refl, .inr rfl⟩
      · rw [if_neg ho] at hr32
        obtain ⟨w', rfl, hs', _⟩ := hr32
        have ho : (x.u.mv dx dy).shape.any Pl.off = false := by simpa using ho
        rw [extr_tuple, extr_tuple]
        simp only [List.getElem?_cons_zero, List.getElem?_cons_succ, onS_some]
        refine onM_push fun m36 hn36 hg36 hk36 => ?_
        refine on2_storeV ty_57 hg36 rfl rfl (Un.c_one hs'.one) fun m37 hn37 hg37 hk37 => ?_
        have hg37 : m37.get m32.n = .cells ((x.u.mv dx dy).c w') 57 none := hg37
        have hx3237 : Ext m32 m37 := ⟨by omega, fun c hc => by rw [hk37 c (by omega), hk36 c hc]⟩
        have hxx := hx2832.trans hx3237
        have hgr37 := hgr.keepE hxx
        have ldO : load? Tab.env m37 29 (.pointer (some ⟨oc, 0 + 0, none⟩)) = some r := by rw [load_29, cellAt_of hgr37.cell]; rfl
        have hln : (x.u.mv dx dy).shape.length < 1000000 := by
          have := h.ln x hxl
          show (x.u.shape.map (Pl.mv dx dy)).length < _
          rw [List.length_map]; exact this
        obtain ⟨m81, r', m83, m85, a1, a2, a3, a4, a5, a6⟩ := push_un hgr37 (hs'.keepE hx3237) hln (by omega)
        rw [bin_neq, onS_some, ifV_bool, show (!(decide ((0 : Int) = 0))) = false from rfl, ifB_false, fieldAddr_31_0, onS_some, ldO, onS_some, load_un hg37, onS_some, a1, on2_some, a2, on2_some, onS_some, a3, on2_some, bin_add, onS_some, wrap64 (by omega) (by omega)]
        have n37 := hxx.n
        have n85 := a6.n
        refine ⟨i + 1, by omega, w0, _, r', rfl, by omega, a5, fun c hc => by rw [a6.lo c hc, hxx.get c (by omega), hk c hc], by omega, by omega, ?_, ?_, by rw [List.length_append]; simp; omega⟩
        · rw [htk, List.map_append, ← hus]
          unfold us'
          rw [List.map_append]; rfl
        · intro u hu
          rw [htk] at hu
          rcases List.mem_append.1 hu with hu | hu
          · exact hoff u hu
          · rw [List.mem_singleton] at hu; subst hu; exact ho
    · have hi' : i = l.length := by
        have : ¬ (i : Int) < (l.length : Int) := by simpa using hge
        omega
      subst hi'
      rw [List.take_of_length_le (by rw [us_len]; exact Nat.le_refl _)] at hus hoff
      have ldO : load? Tab.env mm 31 (.pointer (some ⟨oc, 0, none⟩)) = some (.agg #[r]) := by rw [load_31, loadCells_of hgr.cell (by simp)]; rfl
      rw [ldO, onS_some]
      have g2 : mm.get m1.n = .cells [.slice none 0 0] 31 none := by rw [hk _ (by omega), g212]
      refine on2_storeV ty_31 g2 rfl rfl (by show (one r && true) = true; rw [hgr.ow.sl.one]; rfl) fun m56 hn56 hg56 hk56 => ?_
      have hg56 : m56.get m1.n = .cells [r] 31 none := hg56
      rw [load_31, loadCells_of hg56 (by simp)]
      show onS (some (Value.agg #[r])) _
      rw [onS_some]
      have hfab : FabV m56 acc r := hgr.fab.keep fun c cs t g hb ht => by
        rw [hk56 c (fun e => by subst e; rw [g2] at hb; cases hb; rcases ht with ht | ht <;> exact absurd ht (by decide)), hb]
      by_cases he : acc = []
      · subst he
        rcases hgr.ow with ⟨rfl, _⟩ | ⟨b, cs, _, h0, _⟩
        · exact .inl ⟨rfl, by omega, rfl, .refl, .inl ⟨[], _, rfl, hus, ⟨.nil, fun x hx => (by cases hx), fun x hx => (by cases hx), .inl rfl⟩, hoff⟩⟩
        · simp at h0
      · refine .inr ⟨.inl ?_, by omega, ⟨by omega, fun c hc => by rw [hk56 c (by omega), hxm.get c hc]⟩, .inl ⟨acc, r, rfl, hus, hfab, hoff⟩⟩
        rcases hfab.cap with h0 | ⟨bb, o, c, bc, g, rfl, _⟩
        · exact absurd h0 he
        · simp [mkres, flat2, flat1, flat0]
  obtain ⟨rv, m', b, hc, rfl, h1, h2⟩ := key
  exact ⟨rv, m', hc, h1, h2⟩
end Go.Proofs.YtjecgmfildhpiaaGreatDoor

/- DrawMoves: the walk. -/
namespace Go.Proofs.YtjecgmfildhpiaaGreatDoor
open Go Go.D
variable {X : CallFn} {m : M}
theorem gridZ_congr {g g' : Nat → Nat → Int} {w : Nat} : ∀ {h : Nat}, (∀ i j, i < w → j < h → g i j = g' i j) → gridZ g w h = gridZ g' w h
  | 0, _ => rfl
  | h + 1, hg => by
    rw [gridZ_succ, gridZ_succ, gridZ_congr (h := h) fun i j hi hj => hg i j hi (by omega)]
    congr 1
    unfold rowZ
    exact List.map_congr_left fun i hi => hg i h (List.mem_range.1 hi) (by omega)
set_option maxRecDepth 100000 in
theorem drawMoves_ok (hX : NoX X) (hS : ∀ m1 : M, 2 < m1.n → C X (.func 9) [] m1 m1.n (.bool true) m1) (hm : 2 < m.n) {xs : List I6} {v : Value} (hv : SlR m xs v) (hok : ∀ x ∈ xs, x.ok) (hlen : xs.length < 9223372036854775808) {cd cx cy : Int} (rd : R64 cd) (rx : R64 cx) (ry : R64 cy) :
    C X (.func 8) [v, .int .i64 cd, .int .i64 cx, .int .i64 cy] m m.n (.bool true) m := by
  refine Cl.flat (hX.no _ rfl) fn_8 rfl rfl ?_
  rw [F8]; dsimp only [plainW]
  refine onC_of (hS m hm) ?_
  rw [un_not, onS_some, ifV_bool, Bool.not_true, ifB_false]
  obtain ⟨l, r, m6, hc6, hx6, hF6, hP⟩ := made12_ok (m := m) hX hv hok hlen
  refine onC_of hc6 ?_
  have n6 := hx6.n
  refine onM_push fun m8 hn8 hg8 hk8 => ?_
  have or : one r = true := hF6.sl.one
  unfold ptrTo
  refine on2_storeV ty_31 hg8 rfl rfl (by show (one r && true) = true; rw [or]; rfl) fun m9 hn9 hg9 hk9 => ?_
  have hg9 : m9.get m6.n = .cells [r] 31 none := hg9
  have hx69 : Ext m6 m9 := ⟨by omega, fun c hc => by rw [hk9 c (by omega), hk8 c hc]⟩
  refine onC_of (pickLaw_ok hX rd (by omega)) ?_
  have pd := pickZ_lt (c := cd) (n := 17) (by omega)
  generalize pickZ cd 17 = qd at *
  rw [bin_sub, onS_some, wrap64 (by omega) (by omega)]
  obtain ⟨dx, hdx⟩ : ∃ dx : Int, dx = qd - 8 := ⟨_, rfl⟩
  rw [← hdx]
  have ldF : ∀ (mm : M) (b : Nat) (r : Value), mm.get b = .cells [r] 31 none → load? Tab.env mm 31 (.pointer (some ⟨b, 0, none⟩)) = some (.agg #[r]) := fun mm b r h => by rw [load_31, loadCells_of h (by simp)]; rfl
  rw [ldF m9 _ _ hg9, onS_some]
  have hF9 := hF6.keepE hx69
  obtain ⟨rv, m17, hc17, hx17, hr17⟩ := fmove_ok (m := m9) hX hF9 hP (dx := dx) (dy := 0) (by omega) (by omega)
  refine onC_of hc17 ?_
  have n17 := hx17.n
  rcases hr17 with ⟨l', r', rfl, hus, hF17, hoff⟩ | rfl
  rotate_left
  · rw [extr_tuple, extr_tuple]
    simp only [List.getElem?_cons_zero, List.getElem?_cons_succ, onS_some]
    refine onM_push fun m21 hn21 hg21 hk21 => ?_
    refine on2_storeV ty_31 hg21 rfl rfl rfl fun m22 hn22 hg22 hk22 => ?_
    rw [bin_neq, onS_some, ifV_bool, show (!(decide ((120 : Int) = 0))) = true from rfl, ifB_true, bin_eql, onS_some]
    exact ⟨rfl, by omega⟩
  rw [extr_tuple, extr_tuple]
  simp only [List.getElem?_cons_zero, List.getElem?_cons_succ, onS_some]
  refine onM_push fun m21 hn21 hg21 hk21 => ?_
  have or' : one r' = true := hF17.sl.one
  refine on2_storeV ty_31 hg21 rfl rfl (by show (one r' && true) = true; rw [or']; rfl) fun m22 hn22 hg22 hk22 => ?_
  have gG : m22.get m17.n = .cells [r'] 31 none := hg22
  have hx1722 : Ext m17 m22 := ⟨by omega, fun c hc => by rw [hk22 c (by omega), hk21 c hc]⟩
  have hx922 := hx17.trans hx1722
  have gF : m22.get m6.n = .cells [r] 31 none := hx922.cells hg9
  have hF := hF9.keepE hx922
  have hG := hF17.keepE hx1722
  have hQ : FabP (us' l') := by rw [hus]; exact hP.mv hoff
  rw [bin_neq, onS_some, ifV_bool, show (!(decide ((0 : Int) = 0))) = false from rfl, ifB_false]
  refine onC_of (pickLaw_ok hX rx (by omega)) ?_
  refine onC_of (pickLaw_ok hX ry (by omega)) ?_
  have px := pickZ_lt (c := cx) (n := 40) (by omega)
  have py := pickZ_lt (c := cy) (n := 40) (by omega)
  generalize pickZ cx 40 = qx at *
  generalize pickZ cy 40 = qy at *
  obtain ⟨kx, rfl⟩ : ∃ k : Nat, qx = (k : Int) := ⟨qx.toNat, by omega⟩
  obtain ⟨ky, rfl⟩ : ∃ k : Nat, qy = (k : Int) := ⟨qy.toNat, by omega⟩
  refine jn_of (fun vs mm lo => vs = [.bool (decide ((kx : Int) + dx < 0) || decide (40 ≤ (kx : Int) + dx))] ∧ m22 = mm ∧ m.n ≤ lo) (fun R hR => ?_) ?_
  · rw [bin_add, onS_some, wrap64 (by omega) (by omega), bin_lss, onS_some, ifV_bool]
    refine ifB_intro (fun h => hR _ _ _ ⟨by rw [h, Bool.true_or], rfl, by omega⟩) (fun h => ?_)
    rw [onS_some, bin_geq, onS_some]
    exact hR _ _ _ ⟨by rw [h, Bool.false_or], rfl, by omega⟩
  rintro _ _ lo35 ⟨rfl, rfl, hlo35⟩
  rw [un_cons, ifV_bool]
  refine ifB_intro (fun _ => ⟨rfl, hlo35⟩) (fun hin => ?_)
  rw [Bool.or_eq_false_iff] at hin
  have hin1 : ¬ (kx : Int) + dx < 0 := by simpa using hin.1
  have hin2 : ¬ 40 ≤ (kx : Int) + dx := by simpa using hin.2
  obtain ⟨nx, hnx⟩ : ∃ k : Nat, (kx : Int) + dx = (k : Int) := ⟨((kx : Int) + dx).toNat, by omega⟩
  rw [ldF m22 _ _ (gF), onS_some]
  obtain ⟨va, m44, hcm44, hxm44, hova⟩ := elev_ok (m := m22) hX hF hP false
  refine onC_of hcm44 ?_
  rw [extr_tuple, extr_tuple]
  simp only [List.getElem?_cons_zero, List.getElem?_cons_succ, onS_some]
  have nm44 := hxm44.n
  refine onM_push fun m48 hnm48 hgm48 hkm48 => ?_
  refine on2_storeV ty_27 hgm48 rfl rfl (by show (true && (true && (one va && true))) = true; rw [hova.sl.one]; rfl) fun m49 hnm49 hgm49 hkm49 => ?_
  have hym49 : Ext m44 m49 := ⟨by omega, fun c hc => by rw [hkm49 c (by omega), hkm48 c hc]⟩
  have hxm49 : Ext m22 m49 := hxm44.trans hym49
  rw [ldF m49 _ _ ((hxm49).cells gG), onS_some]
  obtain ⟨vb, m53, hcm53, hxm53, hovb⟩ := elev_ok (m := m49) hX (hG.keepE (hxm49)) hQ false
  refine onC_of hcm53 ?_
  rw [extr_tuple, extr_tuple]
  simp only [List.getElem?_cons_zero, List.getElem?_cons_succ, onS_some]
  have nm53 := hxm53.n
  refine onM_push fun m57 hnm57 hgm57 hkm57 => ?_
  refine on2_storeV ty_27 hgm57 rfl rfl (by show (true && (true && (one vb && true))) = true; rw [hovb.sl.one]; rfl) fun m58 hnm58 hgm58 hkm58 => ?_
  have hym58 : Ext m53 m58 := ⟨by omega, fun c hc => by rw [hkm58 c (by omega), hkm57 c hc]⟩
  have hxm58 : Ext m49 m58 := hxm53.trans hym58
  have b58 := hxm49.trans hxm58
  rw [ldF m58 _ _ ((b58).cells gF), onS_some]
  obtain ⟨vc, m62, hcm62, hxm62, hovc⟩ := elev_ok (m := m58) hX (hF.keepE (b58)) hP true
  refine onC_of hcm62 ?_
  rw [extr_tuple, extr_tuple]
  simp only [List.getElem?_cons_zero, List.getElem?_cons_succ, onS_some]
  have nm62 := hxm62.n
  refine onM_push fun m66 hnm66 hgm66 hkm66 => ?_
  refine on2_storeV ty_27 hgm66 rfl rfl (by show (true && (true && (one vc && true))) = true; rw [hovc.sl.one]; rfl) fun m67 hnm67 hgm67 hkm67 => ?_
  have hym67 : Ext m62 m67 := ⟨by omega, fun c hc => by rw [hkm67 c (by omega), hkm66 c hc]⟩
  have hxm67 : Ext m58 m67 := hxm62.trans hym67
  have b67 := b58.trans hxm67
  rw [ldF m67 _ _ ((b67).cells gG), onS_some]
  obtain ⟨vd, m71, hcm71, hxm71, hovd⟩ := elev_ok (m := m67) hX (hG.keepE (b67)) hQ true
  refine onC_of hcm71 ?_
  rw [extr_tuple, extr_tuple]
  simp only [List.getElem?_cons_zero, List.getElem?_cons_succ, onS_some]
  have nm71 := hxm71.n
  refine onM_push fun m75 hnm75 hgm75 hkm75 => ?_
  refine on2_storeV ty_27 hgm75 rfl rfl (by show (true && (true && (one vd && true))) = true; rw [hovd.sl.one]; rfl) fun m76 hnm76 hgm76 hkm76 => ?_
  have hym76 : Ext m71 m76 := ⟨by omega, fun c hc => by rw [hkm76 c (by omega), hkm75 c hc]⟩
  have hxm76 : Ext m67 m76 := hxm71.trans hym76
  have b76 := b67.trans hxm76
  have t67 := hxm67.trans hxm76
  have t58 := hxm58.trans t67
  have hSA : Sl m76 (elevL (us' l) false) va := (hova.sl.keepE hym49).keepE t58
  have hSB : Sl m76 (elevL (us' l') false) vb := (hovb.sl.keepE hym58).keepE t67
  have hSC : Sl m76 (elevL (us' l) true) vc := (hovc.sl.keepE hym67).keepE hxm76
  have hSD : Sl m76 (elevL (us' l') true) vd := hovd.sl.keepE hym76
  have gA : m76.get m44.n = .cells [.int .i64 40, .int .i64 40, va] 27 none := t58.cells hgm49
  have gB : m76.get m53.n = .cells [.int .i64 40, .int .i64 40, vb] 27 none := t67.cells hgm58
  have gC : m76.get m62.n = .cells [.int .i64 40, .int .i64 40, vc] 27 none := hxm76.cells hgm67
  have gD : m76.get m71.n = .cells [.int .i64 40, .int .i64 40, vd] 27 none := hgm76
  have ldD : ∀ (mm : M) (w h : Int) (b : Nat) (vv : Value), mm.get b = .cells [.int .i64 w, .int .i64 h, vv] 27 none → load? Tab.env mm 27 (.pointer (some ⟨b, 0, none⟩)) = some (drV w h vv) := fun mm w h b vv hh => by rw [load_27, loadCells_of hh (by simp)]; rfl
  have hval : ∀ u ∈ us' l, validB u.shape = true := fun u hu => unB_val (hP.val u hu)
  have hval' : ∀ u ∈ us' l, validB (u.mv dx 0).shape = true := fun u hu => unB_val (hQ.val (u.mv dx 0) (by rw [hus]; exact List.mem_map.2 ⟨u, hu, rfl⟩))
  obtain ⟨he1, he2⟩ := elev_mv (x := (kx : Int)) (y := (ky : Int)) hval hval' (by omega) (by omega) (by omega) (by omega)
  rw [← hus, Int.add_zero, hnx] at he1
  rw [← hus, Int.add_zero, show (39 : Int) - (kx : Int) - dx = ((39 - nx : Nat) : Int) by omega, show (39 : Int) - (kx : Int) = ((39 - kx : Nat) : Int) by omega] at he2
  have hcov : ∀ j : Nat, j < 40 → covU (us' l') ⟨nx, j⟩ = (covU (us' l) ⟨kx, j⟩).map (Un.mv dx 0) := fun j hj => by
    have := covU_mv (x := (kx : Int)) (y := (j : Int)) hval hval' (by omega) (by omega) (by omega) (by omega)
    rw [← hus, Int.add_zero, hnx] at this
    exact this
  have shA := shown_ok (m := m76) hX hSA (elevL_valid hP false) (x := kx) (y := ky) (i := ky * 40 + kx) ⟨by omega, by omega⟩ ⟨by omega, by omega⟩ (by push_cast; rfl) (gridZ_at (by omega) (by omega))
  have shB := shown_ok (m := m76) hX hSB (elevL_valid hQ false) (x := nx) (y := ky) (i := ky * 40 + nx) ⟨by omega, by omega⟩ ⟨by omega, by omega⟩ (by push_cast; rfl) (gridZ_at (by omega) (by omega))
  have shC := shown_ok (m := m76) hX hSC (elevL_valid hP true) (x := ((39 - kx : Nat) : Int)) (y := ky) (i := ky * 40 + (39 - kx)) ⟨by omega, by omega⟩ ⟨by omega, by omega⟩ (by push_cast; rfl) (gridZ_at (by omega) (by omega))
  have shD := shown_ok (m := m76) hX hSD (elevL_valid hQ true) (x := ((39 - nx : Nat) : Int)) (y := ky) (i := ky * 40 + (39 - nx)) ⟨by omega, by omega⟩ ⟨by omega, by omega⟩ (by push_cast; rfl) (gridZ_at (by omega) (by omega))
  rw [he1] at shB
  rw [he2] at shD
  refine jn_of (fun vs mm lo => vs = [.bool false] ∧ m76 = mm ∧ m.n ≤ lo) (fun R hR => ?_) ?_
  · rw [bin_neq, onS_some, ifV_bool, show (!(decide ((0 : Int) = 0))) = false from rfl, ifB_false, onS_some, ifV_bool, ifB_false, onS_some, ifV_bool, ifB_false, onS_some, ifV_bool, ifB_false, ldD m76 _ _ _ _ gA, onS_some]
    refine onC_of shA ⟨Nat.le_refl _, ?_⟩
    rw [ldD m76 _ _ _ _ gB, onS_some, bin_add, onS_some, wrap64 (by omega) (by omega), hnx]
    refine onC_of shB ?_
    rw [bin_neq, onS_some, decide_eq_true rfl, ifV_bool, Bool.not_true, ifB_false, ldD m76 _ _ _ _ gC, onS_some, bin_sub, onS_some, wrap64 (by omega) (by omega), show (39 : Int) - (kx : Int) = ((39 - kx : Nat) : Int) by omega]
    refine onC_of shC ⟨Nat.le_refl _, ?_⟩
    rw [ldD m76 _ _ _ _ gD, onS_some, onS_some, bin_sub, onS_some, wrap64 (by omega) (by omega), show ((39 - kx : Nat) : Int) - dx = ((39 - nx : Nat) : Int) by omega]
    refine onC_of shD ?_
    rw [bin_neq, onS_some, decide_eq_true rfl]
    exact hR _ _ _ ⟨rfl, rfl, by omega⟩
  rintro _ _ lo81 ⟨rfl, rfl, hlo81⟩
  rw [un_cons, ifV_bool, ifB_false]
  rw [ldF m76 _ _ ((b76).cells gF), onS_some]
  obtain ⟨ve, m112, hcm112, hxm112, hove⟩ := plan_ok (m := m76) hX (hF.keepE (b76)) hP (c := ky) ⟨by omega, by omega⟩
  refine onC_of hcm112 ?_
  rw [extr_tuple, extr_tuple]
  simp only [List.getElem?_cons_zero, List.getElem?_cons_succ, onS_some]
  have nm112 := hxm112.n
  refine onM_push fun m116 hnm116 hgm116 hkm116 => ?_
  refine on2_storeV ty_27 hgm116 rfl rfl (by show (true && (true && (one ve && true))) = true; rw [hove.sl.one]; rfl) fun m117 hnm117 hgm117 hkm117 => ?_
  have hym117 : Ext m112 m117 := ⟨by omega, fun c hc => by rw [hkm117 c (by omega), hkm116 c hc]⟩
  have hxm117 : Ext m76 m117 := hxm112.trans hym117
  have b117 := b76.trans hxm117
  rw [ldF m117 _ _ ((b117).cells gG), onS_some]
  obtain ⟨vf, m121, hcm121, hxm121, hovf⟩ := plan_ok (m := m117) hX (hG.keepE (b117)) hQ (c := ky) ⟨by omega, by omega⟩
  refine onC_of hcm121 ?_
  rw [extr_tuple, extr_tuple]
  simp only [List.getElem?_cons_zero, List.getElem?_cons_succ, onS_some]
  have nm121 := hxm121.n
  refine onM_push fun m125 hnm125 hgm125 hkm125 => ?_
  refine on2_storeV ty_27 hgm125 rfl rfl (by show (true && (true && (one vf && true))) = true; rw [hovf.sl.one]; rfl) fun m126 hnm126 hgm126 hkm126 => ?_
  have hym126 : Ext m121 m126 := ⟨by omega, fun c hc => by rw [hkm126 c (by omega), hkm125 c hc]⟩
  have hxm126 : Ext m117 m126 := hxm121.trans hym126
  have b126 := b117.trans hxm126
  rw [ldF m126 _ _ ((b126).cells gF), onS_some]
  obtain ⟨vg, m130, hcm130, hxm130, hovg⟩ := section_ok (m := m126) hX (hF.keepE (b126)) hP (c := kx) ⟨by omega, by omega⟩
  refine onC_of hcm130 ?_
  rw [extr_tuple, extr_tuple]
  simp only [List.getElem?_cons_zero, List.getElem?_cons_succ, onS_some]
  have nm130 := hxm130.n
  refine onM_push fun m134 hnm134 hgm134 hkm134 => ?_
  refine on2_storeV ty_27 hgm134 rfl rfl (by show (true && (true && (one vg && true))) = true; rw [hovg.sl.one]; rfl) fun m135 hnm135 hgm135 hkm135 => ?_
  have hym135 : Ext m130 m135 := ⟨by omega, fun c hc => by rw [hkm135 c (by omega), hkm134 c hc]⟩
  have hxm135 : Ext m126 m135 := hxm130.trans hym135
  have b135 := b126.trans hxm135
  rw [ldF m135 _ _ ((b135).cells gG), onS_some, bin_add, onS_some, wrap64 (by omega) (by omega), hnx]
  obtain ⟨vh, m140, hcm140, hxm140, hovh⟩ := section_ok (m := m135) hX (hG.keepE (b135)) hQ (c := nx) ⟨by omega, by omega⟩
  refine onC_of hcm140 ?_
  rw [extr_tuple, extr_tuple]
  simp only [List.getElem?_cons_zero, List.getElem?_cons_succ, onS_some]
  have nm140 := hxm140.n
  refine onM_push fun m144 hnm144 hgm144 hkm144 => ?_
  refine on2_storeV ty_27 hgm144 rfl rfl (by show (true && (true && (one vh && true))) = true; rw [hovh.sl.one]; rfl) fun m145 hnm145 hgm145 hkm145 => ?_
  have hym145 : Ext m140 m145 := ⟨by omega, fun c hc => by rw [hkm145 c (by omega), hkm144 c hc]⟩
  have hxm145 : Ext m135 m145 := hxm140.trans hym145
  have t135 := hxm135.trans hxm145
  have t126 := hxm126.trans t135
  have hSE := (hove.sl.keepE hym117).keepE t126
  have hSF := (hovf.sl.keepE hym126).keepE t135
  have hSG := (hovg.sl.keepE hym135).keepE hxm145
  have hSH := hovh.sl.keepE hym145
  have gE : m145.get m112.n = .cells [.int .i64 40, .int .i64 8, ve] 27 none := t126.cells hgm117
  have gF' : m145.get m121.n = .cells [.int .i64 40, .int .i64 8, vf] 27 none := t135.cells hgm126
  have gG' : m145.get m130.n = .cells [.int .i64 8, .int .i64 40, vg] 27 none := hxm145.cells hgm135
  have gH : m145.get m140.n = .cells [.int .i64 8, .int .i64 40, vh] 27 none := hgm145
  have vE : drB 40 8 (gridZ (fun i j => insZ (covU (us' l) ⟨i, ky⟩) j) 40 8) = true := grid_valid (w := 40) (h := 8) (g := fun i j => insZ (covU (us' l) ⟨i, ky⟩) j) (by omega) (by omega) (fun i j => insZ_in hP _ _)
  have vF : drB 40 8 (gridZ (fun i j => insZ (covU (us' l') ⟨i, ky⟩) j) 40 8) = true := grid_valid (w := 40) (h := 8) (g := fun i j => insZ (covU (us' l') ⟨i, ky⟩) j) (by omega) (by omega) (fun i j => insZ_in hQ _ _)
  have hsec : gridZ (fun i j => insZ (covU (us' l') ⟨nx, j⟩) i) 8 40 = gridZ (fun i j => insZ (covU (us' l) ⟨kx, j⟩) i) 8 40 := gridZ_congr fun i j _ hj => by rw [hcov j hj, insZ_mv]
  rw [bin_add, onS_some, wrap64 (by omega) (by omega)]
  refine onC_of (pickLaw_ok hX (show R64 ((kx : Int) + (ky : Int)) from ⟨by omega, by omega⟩) (by omega)) ?_
  have pz := pickZ_lt (c := (kx : Int) + (ky : Int)) (n := 8) (by omega)
  generalize pickZ ((kx : Int) + (ky : Int)) 8 = qz at *
  obtain ⟨kz, rfl⟩ : ∃ k : Nat, qz = (k : Int) := ⟨qz.toNat, by omega⟩
  have shE := shown_ok (m := m145) hX hSE vE (x := kx) (y := kz) (i := kz * 40 + kx) ⟨by omega, by omega⟩ ⟨by omega, by omega⟩ (by push_cast; rfl) (gridZ_at (by omega) (by omega))
  have shF := shown_ok (m := m145) hX hSF vF (x := nx) (y := kz) (i := kz * 40 + nx) ⟨by omega, by omega⟩ ⟨by omega, by omega⟩ (by push_cast; rfl) (gridZ_at (by omega) (by omega))
  rw [hcov ky (by omega), insZ_mv] at shF
  rw [hsec] at hSH
  refine jn_of (fun vs mm lo => vs = [.bool true] ∧ m145 = mm ∧ m.n ≤ lo) (fun R hR => ?_) ?_
  · rw [bin_eql, onS_some, ifV_bool, decide_eq_true rfl, ifB_true, onS_some, ifV_bool, ifB_true, onS_some, ifV_bool, ifB_true, onS_some, ifV_bool, ifB_true, ldD m145 _ _ _ _ gE, onS_some]
    refine onC_of shE ⟨Nat.le_refl _, ?_⟩
    rw [ldD m145 _ _ _ _ gF', onS_some]
    refine onC_of shF ?_
    rw [bin_eql, onS_some, decide_eq_true rfl, ifV_bool, ifB_true, ldD m145 _ _ _ _ gG', onS_some, ldD m145 _ _ _ _ gH, onS_some]
    refine onC_of (sameDr_ok hX hSG hSH (by rw [gridZ_len]; decide)) ?_
    refine hR _ _ _ ⟨?_, rfl, by omega⟩
    simp
  rintro _ _ lo ⟨rfl, rfl, hlo⟩
  rw [un_cons]
  exact ⟨rfl, hlo⟩
end Go.Proofs.YtjecgmfildhpiaaGreatDoor
