/- What is known beforehand of the laws: sane(). What is known beforehand of DrawChanges: sane(). slices.BinarySearchFunc over units, fabric.Find, draw.Elevation. fabric.Find, draw.Elevation. The plain law of DrawShows. What functions of the program come to, their temporaries gone (made off the translation; each proved by the kernel, word by word). draw.inside, draw.Plan, draw.Section. The plain law of DrawViews. DrawViews: the walk. -/
import Derived.Test.YtjecgmfildhpiaaGreatDoorSnJ
import Derived.Test.YtjecgmfildhpiaaGreatDoorG7J
import Derived.Test.YtjecgmfildhpiaaGreatDoorG22J
import Derived.Test.YtjecgmfildhpiaaGreatDoorG13J
import Derived.Test.YtjecgmfildhpiaaGreatDoorG12J
import Derived.Test.YtjecgmfildhpiaaGreatDoorG11J
import Derived.Test.YtjecgmfildhpiaaGreatDoorG8J
/- What is known beforehand of the laws: sane(). -/
namespace Go.Proofs.YtjecgmfildhpiaaGreatDoor
open Go Go.D Go.Proofs
noncomputable def saneX : CallFn := fun fn args m =>
  match fn with
  | .func f =>
    bif Nat.beq f 9 then
      match args with
      | [] => bif Nat.blt 2 m.n then some (.bool true, m) else none
      | _ => none
    else none
  | _ => none
theorem saneX_ok : CallOK Tryz.prog saneX := by
  refine ⟨fun f args m v m' hx σ w args' hs hl => ?_, fun l args m v m' hx => by simp [saneX] at hx, fun f args m v m' hx => ?_, fun a m v m' b hx => by
    have e : saneX (.func stN) [.pointer (some a)] m = none := rfl
    rw [e] at hx
    cases hx⟩
  · unfold saneX at hx
    dsimp only at hx
    cases hf : Nat.beq f 9 with
    | false => rw [hf] at hx; simp at hx
    | true =>
      obtain rfl := Nat.eq_of_beq_eq_true hf
      rw [hf] at hx
      simp only [cond_true] at hx
      cases args with
      | cons _ _ => cases hx
      | nil =>
        dsimp only at hx
        cases hn : Nat.blt 2 m.n with
        | false => rw [hn] at hx; cases hx
        | true =>
          rw [hn] at hx
          simp only [cond_true, Option.some.injEq, Prod.mk.injEq] at hx
          obtain ⟨rfl, rfl⟩ := hx
          have hgs : Tryz.prog.globals.size = 3 := by kernel_rfl
          have hg0 : ∀ g, g < 3 → σ g = some ⟨g, none⟩ := fun g hg => hs.glob g (by rw [hgs]; exact hg)
          have dead : ∀ b, (M.get { st := .e, n := 3, low := 3 } b) = .dead := fun b => by
            unfold M.get
            cases Nat.blt b 3 <;> rfl
          have hs0 : Sim Tryz.prog (fun b => if b < 3 then some ⟨b, none⟩ else none) { st := .e, n := 3, low := 3 } w := by
            refine ⟨fun b i hb => ?_, fun b i hb => ?_, fun b i hb => ?_, fun b b' i i' hb hb' hd => ?_, fun g hg => ?_⟩
            · by_cases h : b < 3
              · exact h
              · rw [if_neg h] at hb; cases hb
            · rw [dead]; trivial
            · by_cases h : b < 3
              · rw [if_pos h] at hb
                cases hb
                exact hs.lt b _ (hg0 b h)
              · rw [if_neg h] at hb; cases hb
            · exact absurd (dead b) hd
            · rw [hgs] at hg
              rw [if_pos hg]
          have hargs : args' = #[] := by
            have := hl.nil_eq
            simpa using this
          subst hargs
          refine ⟨?_, enters_of Tryz.func9 (by kernel_rfl) rfl _ _⟩
          obtain ⟨nr, hrun⟩ := Sane.run
          have hc := calls_of_run Tab.ok Sane.SX_ok hrun hs0 (args' := #[]) LRel.nil
          refine (callsIn_wide.2 hc).mono fun e w' he => ?_
          obtain ⟨v', σ', rfl, hv, hev⟩ := he
          have hv' := hv.eq_of_flat0 rfl
          subst hv'
          refine ⟨.bool true, σ, rfl, .flat _ rfl, Ev.kept hs (fun B hB => hev.heap B hB fun b i hb _ => ?_) hev.hle hev.os hev.tape hev.output⟩
          by_cases h : b < 3
          · exact h
          · rw [if_neg h] at hb; cases hb
  · unfold saneX at hx
    cases f with
    | func f =>
      dsimp only at hx
      rw [cond_eq_ite] at hx
      split at hx
      · split at hx
        · rw [cond_eq_ite] at hx
          split at hx
          · cases hx; exact LK.refl
          · cases hx
        · cases hx
      · cases hx
    | _ => cases hx
theorem saneX_no {f : Nat} (h : Nat.beq f 9 = false) (args : List Value) (m : M) : saneX (.func f) args m = none := by
  simp only [saneX, h, cond_false]
theorem saneX_sane (m : M) (h : 2 < m.n) : saneX (.func 9) [] m = some (.bool true, m) := by
  have h9 : Nat.beq 9 9 = true := rfl
  have hn : Nat.blt 2 m.n = true := by rw [Nat.blt_eq]; exact h
  simp only [saneX, h9, hn, cond_true]
end Go.Proofs.YtjecgmfildhpiaaGreatDoor

/- What is known beforehand of DrawChanges: sane(). -/
namespace Go.Proofs.YtjecgmfildhpiaaGreatDoor
open Go Go.D Go.Proofs
noncomputable abbrev XP : CallFn := saneX
theorem XP_ok : CallOK Tryz.prog XP := saneX_ok
theorem XP_no : NoX XP := ⟨fun f hf args m => by
  simp only [Bool.or_eq_false_iff] at hf
  exact saneX_no hf.1.1.1.1 args m⟩
theorem XP_sane (m : M) (h : 2 < m.n) : C XP (.func 9) [] m m.n (.bool true) m :=
  Cl.known (fun l => saneX_sane (m.wl l) h) (Nat.le_refl _) ⟨_, rfl⟩
end Go.Proofs.YtjecgmfildhpiaaGreatDoor

/- slices.BinarySearchFunc over units, fabric.Find, draw.Elevation. -/
namespace Go.Proofs.YtjecgmfildhpiaaGreatDoor
open Go Go.D
variable {X : CallFn} {m : M}
theorem FabP.lt {us : List Un} (h : FabP us) : ∀ (d i : Nat) (a b : Un), us[i]? = some a → us[i + d + 1]? = some b → a.id < b.id
  | 0, i, a, b, ha, hb => h.asc i a b ha hb
  | d + 1, i, a, b, ha, hb => by
    obtain ⟨c, hc⟩ : ∃ c, us[i + d + 1]? = some c := ⟨_, List.getElem?_eq_getElem (by have := (List.getElem?_eq_some_iff.1 hb).1; omega)⟩
    have h1 := h.lt d i a c ha hc
    have h2 := h.asc (i + d + 1) c b hc (by rw [← hb]; congr 1)
    omega
theorem FabP.lt' {us : List Un} (h : FabP us) {i k : Nat} {a b : Un} (hik : i < k) (ha : us[i]? = some a) (hb : us[k]? = some b) : a.id < b.id :=
  h.lt (k - i - 1) i a b ha (by rw [← hb]; congr 1; omega)
end Go.Proofs.YtjecgmfildhpiaaGreatDoor

/- fabric.Find, draw.Elevation. -/
namespace Go.Proofs.YtjecgmfildhpiaaGreatDoor
open Go Go.D
variable {X : CallFn} {m : M}
theorem unB_val {u : Un} (h : unB u = true) : validB u.shape = true := by
  simp only [unB, Bool.and_eq_true] at h
  exact h.2
/-- The unit with a number. -/
def findU (us : List Un) (id : Int) : Option Un := us.find? fun u => decide (u.id = id)
theorem findU_eq {us : List Un} (hP : FabP us) {i : Nat} {a : Un} (h : us[i]? = some a) : findU us a.id = some a := by
  unfold findU
  cases e : us.find? fun u => decide (u.id = a.id) with
  | none =>
    have := List.find?_eq_none.1 e a (List.mem_of_getElem? h)
    simp at this
  | some b =>
    have h1 := List.find?_some e
    have h1 : b.id = a.id := by simpa using h1
    obtain ⟨k, hk⟩ := List.getElem?_of_mem (List.mem_of_find?_eq_some e)
    rcases Nat.lt_trichotomy i k with hlt | rfl | hlt
    · have := hP.lt' hlt h hk; omega
    · rw [h] at hk; cases hk; rfl
    · have := hP.lt' hlt hk h; omega
theorem elev_ok (hX : NoX X) {l : List UW} {v : Value} (h : FabV m l v) (hP : FabP (us' l)) (behind : Bool) :
    ∃ v' m', C X (.func 12) [.agg #[v], .bool behind] m m.n (.tuple #[drV 40 40 v', .int .i64 0]) m' ∧ Ext m m' ∧ Ow m.n m' (elevL (us' l) behind) v' := by
  have hl : l.length ≤ 12 := by have := hP.len; rwa [us_len] at this
  have key : ∃ rv m' b, C X (.func 12) [.agg #[v], .bool behind] m b rv m' ∧ b = m.n ∧ ∃ v', rv = .tuple #[drV 40 40 v', .int .i64 0] ∧ Ext m m' ∧ Ow m.n m' (elevL (us' l) behind) v' := by
    refine Cl.heap (R := fun rv m' b => b = m.n ∧ ∃ v', rv = .tuple #[drV 40 40 v', .int .i64 0] ∧ Ext m m' ∧ Ow m.n m' (elevL (us' l) behind) v') (hX.no _ rfl) fn_12 rfl ?_
    rw [F12]; dsimp only [plainW]
    refine onM_push fun m1 hn1 hg1 hk1 => ?_
    refine onM_push fun m2 hn2 hg2 hk2 => ?_
    have hx2 : Ext m m2 := ⟨by omega, fun c hc => by rw [hk2 c (by omega), hk1 c hc]⟩
    have g1 : m2.get m.n = .cells [v] 31 none := by rw [hk2 _ (by omega)]; exact hg1
    have hF := h.keepE hx2
    unfold ptrTo
    have ld : load? Tab.env m2 31 (.pointer (some ⟨m.n, 0, none⟩)) = some (.agg #[v]) := by rw [load_31, loadCells_of g1 (by simp)]; rfl
    rw [ld, onS_some]
    refine onC_of (fvalid_ok hX hF (by omega)) ?_
    rw [fabB_true hP, un_not, onS_some, ifV_bool, Bool.not_true, ifB_false, ld, onS_some]
    obtain ⟨v', m14, hc, hx14, ho⟩ := elevation_ok (m := m2) hX (us := us' l) (behind := behind) (hF.sl.of_uw hF.sh) (fun u hu => unB_val (hP.val u hu)) (by rw [us_len]; omega)
    refine onC_of hc ?_
    have n14 := hx14.n
    have g214 := hx14.cells hg2
    have hone : one v' = true := ho.sl.one
    refine on2_storeV ty_27 g214 rfl rfl (by show (true && (true && (one v' && true))) = true; rw [hone]; rfl) fun m16 hn16 hg16 hk16 => ?_
    have e2 : load? Tab.env m16 27 (.pointer (some ⟨m1.n, 0, none⟩)) = some (drV 40 40 v') := by rw [load_27, loadCells_of hg16 (by simp [cells_agg])]; rfl
    rw [e2, onS_some]
    have ho16 : Ow m2.n m16 (elevL (us' l) behind) v' := ho.keep fun b c t g hb ht => by
      by_cases hbm : b = m1.n
      · subst hbm
        rw [g214] at hb
        cases hb
        simp [Rep.ty, Rep.tys] at ht
      · rw [hk16 b hbm, hb]
    have hne : elevL (us' l) behind ≠ [] := fun e => by
      have := congrArg List.length e
      unfold elevL at this
      rw [gridZ_len] at this
      simp at this
    refine ⟨.inl ?_, by omega, v', rfl, ⟨by omega, fun c hc => by rw [hk16 c (by omega), hx14.get c (by omega), hx2.get c hc]⟩, ho16.mono (by omega)⟩
    rcases ho16 with ⟨_, h0⟩ | ⟨b, cs, rfl, _⟩
    · exact absurd h0 hne
    · simp [mkres, flat2, flat1, flat0, drV]
  obtain ⟨rv, m', b, hc, rfl, v', rfl, h1, h2⟩ := key
  exact ⟨v', m', hc, h1, h2⟩
end Go.Proofs.YtjecgmfildhpiaaGreatDoor

/- The plain law of DrawShows. -/
namespace Go.Proofs.YtjecgmfildhpiaaGreatDoor
open Go Go.D Go.Plane
/-- What 'first' picks. -/
theorem firstU_best {bf : Un → Un → Bool} {k : Un → Int} (hbf : ∀ x b, bf x b = true ↔ k x < k b) : ∀ (L : List Un) (b : Un), (∀ x ∈ L, b.id < x.id) → L.Pairwise (fun a b => a.id < b.id) →
    ∃ u, firstU bf L (some b) = some u ∧ (u = b ∨ u ∈ L) ∧ ∀ w, w = b ∨ w ∈ L → k u < k w ∨ (k u = k w ∧ u.id ≤ w.id)
  | [], b, _, _ => ⟨b, rfl, .inl rfl, fun w hw => hw.elim (fun e => e ▸ .inr ⟨rfl, Int.le_refl _⟩) (fun hw => by cases hw)⟩
  | x :: L, b, hb, hp => by
    rw [List.pairwise_cons] at hp
    rw [firstU]
    by_cases h : bf x b = true
    · rw [if_pos h]
      obtain ⟨u, e, hu, hw⟩ := firstU_best hbf L x hp.1 hp.2
      refine ⟨u, e, .inr (hu.elim (fun e => e ▸ List.mem_cons_self) (List.mem_cons_of_mem _)), fun w hw' => ?_⟩
      have hx := hw x (.inl rfl)
      have hlt := (hbf _ _).1 h
      rcases hw' with rfl | hw'
      · omega
      · rcases List.mem_cons.1 hw' with rfl | hw'
        · exact hx
        · exact hw w (.inr hw')
    · rw [if_neg h]
      obtain ⟨u, e, hu, hw⟩ := firstU_best hbf L b (fun y hy => hb y (List.mem_cons_of_mem _ hy)) hp.2
      refine ⟨u, e, hu.imp id (List.mem_cons_of_mem _), fun w hw' => ?_⟩
      have hb' := hw b (.inl rfl)
      have hlt : ¬ k x < k b := fun h' => h ((hbf _ _).2 h')
      have hid := hb x List.mem_cons_self
      rcases hw' with rfl | hw'
      · exact hb'
      · rcases List.mem_cons.1 hw' with rfl | hw'
        · omega
        · exact hw w (.inr hw')
theorem firstU_all {bf : Un → Un → Bool} {k : Un → Int} (hbf : ∀ x b, bf x b = true ↔ k x < k b) {L : List Un} (hp : L.Pairwise (fun a b => a.id < b.id)) :
    (L = [] ∧ firstU bf L none = none) ∨ ∃ u, firstU bf L none = some u ∧ u ∈ L ∧ ∀ w ∈ L, k u < k w ∨ (k u = k w ∧ u.id ≤ w.id) := by
  cases L with
  | nil => exact .inl ⟨rfl, rfl⟩
  | cons x L =>
    rw [List.pairwise_cons] at hp
    obtain ⟨u, e, hu, hw⟩ := firstU_best hbf L x hp.1 hp.2
    exact .inr ⟨u, e, hu.elim (fun e => e ▸ List.mem_cons_self) (List.mem_cons_of_mem _), fun w hw' => hw w (List.mem_cons.1 hw')⟩
theorem FabP.pair {us : List Un} (h : FabP us) : us.Pairwise (fun a b => a.id < b.id) := by
  rw [List.pairwise_iff_getElem]
  intro i j hi hj hij
  exact h.lt' hij (List.getElem?_eq_getElem hi) (List.getElem?_eq_getElem hj)
theorem FabP.find {us : List Un} (h : FabP us) {u : Un} (hu : u ∈ us) : findU us u.id = some u := by
  obtain ⟨i, hi⟩ := List.getElem?_of_mem hu
  exact findU_eq h hi
theorem FabP.id0 {us : List Un} (h : FabP us) {u : Un} (hu : u ∈ us) : 0 ≤ u.id ∧ u.id ≤ 99 := by
  have := h.val u hu
  simp only [unB, inB, Bool.and_eq_true, decide_eq_true_eq] at this
  omega
def anyB (us : List Un) (x y : Int) : Bool := us.any fun w => decide (0 ≤ cellZ w.shape x y)
/-- What the two elevations show in a cell. -/
structure Shows (us : List Un) (x y : Int) (front back : Int) : Prop where
  n1 : (findU us front).isSome = decide (0 ≤ front)
  n2 : (findU us back).isSome = decide (0 ≤ back)
  same : (findU us front).isSome = (findU us back).isSome
  any : (findU us front).isSome = anyB us x y
  out : ∀ w ∈ us, cellZ w.shape x y < 0 → w.id ≠ front ∧ w.id ≠ back
  best : ∀ w ∈ us, 0 ≤ cellZ w.shape x y → ∃ u v, findU us front = some u ∧ findU us back = some v ∧ ¬ u.front < w.front ∧ (w.front = u.front → front ≤ w.id) ∧ ¬ w.back < v.back ∧ (w.back = v.back → back ≤ w.id)
theorem gridZ_at {g : Nat → Nat → Int} {w x : Nat} (hx : x < w) : ∀ {h y : Nat}, y < h → (gridZ g w h)[y * w + x]? = some (g x y)
  | h + 1, y, hy => by
    rw [gridZ_succ]
    by_cases e : y = h
    · subst e
      rw [List.getElem?_append_right (by rw [gridZ_len]; omega), gridZ_len, Nat.add_sub_cancel_left]
      unfold rowZ
      rw [List.getElem?_map, List.getElem?_range hx]; rfl
    · have hlt : y * w + x < h * w := by
        have : (y + 1) * w ≤ h * w := Nat.mul_le_mul_right _ (by omega)
        rw [Nat.add_mul, Nat.one_mul] at this
        omega
      rw [List.getElem?_append_left (by rw [gridZ_len]; exact hlt)]
      exact gridZ_at hx (by omega)
theorem gridZ_mem {g : Nat → Nat → Int} {w h : Nat} {n : Int} (hn : n ∈ gridZ g w h) : ∃ i j, n = g i j := by
  unfold gridZ at hn
  rw [List.mem_flatMap] at hn
  obtain ⟨j, _, hn⟩ := hn
  unfold rowZ at hn
  rw [List.mem_map] at hn
  obtain ⟨i, _, rfl⟩ := hn
  exact ⟨i, j, rfl⟩
theorem firstU_mem {bf : Un → Un → Bool} : ∀ (L : List Un) (o : Option Un) (u : Un), firstU bf L o = some u → o = some u ∨ u ∈ L
  | [], o, u, h => .inl h
  | x :: L, none, u, h => by
    rcases firstU_mem L (some x) u h with h | h
    · cases h; exact .inr List.mem_cons_self
    · exact .inr (List.mem_cons_of_mem _ h)
  | x :: L, some b, u, h => by
    rcases firstU_mem L _ u h with h | h
    · by_cases hb : bf x b = true
      · rw [if_pos hb] at h; cases h; exact .inr List.mem_cons_self
      · rw [if_neg hb] at h; exact .inl h
    · exact .inr (List.mem_cons_of_mem _ h)
theorem elevZ_in {us : List Un} (h : FabP us) (b : Bool) (x y : Int) : -1 ≤ elevZ us b x y ∧ elevZ us b x y ≤ 99 := by
  have key : ∀ (bf : Un → Un → Bool) (q : Pl), -1 ≤ idZ (firstU bf (covU us q) none) ∧ idZ (firstU bf (covU us q) none) ≤ 99 := by
    intro bf q
    cases e : firstU bf (covU us q) none with
    | none => exact ⟨Int.le_refl _, by decide⟩
    | some u =>
      rcases firstU_mem _ _ _ e with h1 | h1
      · cases h1
      · have := h.id0 (List.mem_filter.1 h1).1
        show -1 ≤ u.id ∧ u.id ≤ 99
        omega
  unfold elevZ
  split
  · exact key _ _
  · exact key _ _
theorem elevL_valid {us : List Un} (h : FabP us) (b : Bool) : drB 40 40 (elevL us b) = true := by
  unfold drB
  have h1 : (elevL us b).length = 1600 := by unfold elevL; rw [gridZ_len]
  simp only [Bool.and_eq_true, decide_eq_true_eq]
  refine ⟨⟨⟨by decide, by decide⟩, by rw [h1]; decide⟩, ?_⟩
  rw [Bool.not_eq_true', List.any_eq_false]
  intro n hn
  obtain ⟨i, j, rfl⟩ := gridZ_mem hn
  have := elevZ_in h b i j
  simp only [inB, Bool.not_eq_true', Bool.not_eq_false', Bool.and_eq_true, decide_eq_true_eq, Bool.not_eq_true, Bool.and_eq_false_iff, decide_eq_false_iff_not]
  simp
  omega
end Go.Proofs.YtjecgmfildhpiaaGreatDoor

/- What functions of the program come to, their temporaries gone (made off the translation; each proved by the kernel, word by word). -/
namespace Go.Proofs.YtjecgmfildhpiaaGreatDoor
open Go Go.D

set_option maxRecDepth 100000 in
/-- putlog/putloglaw41.DrawViews -/
theorem F5 {W : Words} {x0 x1 x2 : Value} {m : M} {R : List Value → M → Nat → Prop} : vcF Tab.env W Tryz.f5 [x0, x1, x2] m R =
(W.onC (.func 9) [] m fun v1 m2 b3 => (W.onS (un? .not v1) fun v4 => (ifV v4
(R [(.bool false)] m2 (min (M.n m) b3))
(W.onC (.func 10) [x0] m2 fun v5 m6 b7 => (W.onM (M.push m6 (.cells [(.slice none 0 0)] 31 none)) fun m8 => (W.on2 (store? Tab.env m8 31 (ptrTo (M.n m6)) v5) fun m9 b10 => (W.onC (.func 15) [x1, (.int .i64 40)] m9 fun v11 m12 b13 => (W.onC (.func 15) [x2, (.int .i64 40)] m12 fun v14 m15 b16 => (W.onS (load? Tab.env m15 31 (ptrTo (M.n m6))) fun v17 => (W.onC (.func 12) [v17, (.bool false)] m15 fun v18 m19 b20 => (W.onS (extr? v18 0) fun v21 => (W.onS (extr? v18 1) fun v22 => (W.onM (M.push m19 (.cells [(.int .i64 0), (.int .i64 0), (.slice none 0 0)] 27 none)) fun m23 => (W.on2 (store? Tab.env m23 27 (ptrTo (M.n m19)) v21) fun m24 b25 => (W.onS (load? Tab.env m24 31 (ptrTo (M.n m6))) fun v26 => (W.onC (.func 12) [v26, (.bool true)] m24 fun v27 m28 b29 => (W.onS (extr? v27 0) fun v30 => (W.onS (extr? v27 1) fun v31 => (W.onM (M.push m28 (.cells [(.int .i64 0), (.int .i64 0), (.slice none 0 0)] 27 none)) fun m32 => (W.on2 (store? Tab.env m32 27 (ptrTo (M.n m28)) v30) fun m33 b34 => (W.onS (load? Tab.env m33 31 (ptrTo (M.n m6))) fun v35 => (W.onC (.func 16) [v35, v14] m33 fun v36 m37 b38 => (W.onS (extr? v36 0) fun v39 => (W.onS (extr? v36 1) fun v40 => (W.onM (M.push m37 (.cells [(.int .i64 0), (.int .i64 0), (.slice none 0 0)] 27 none)) fun m41 => (W.on2 (store? Tab.env m41 27 (ptrTo (M.n m37)) v39) fun m42 b43 => (W.onS (load? Tab.env m42 31 (ptrTo (M.n m6))) fun v44 => (W.onC (.func 18) [v44, v11] m42 fun v45 m46 b47 => (W.onS (extr? v45 0) fun v48 => (W.onS (extr? v45 1) fun v49 => (W.onM (M.push m46 (.cells [(.int .i64 0), (.int .i64 0), (.slice none 0 0)] 27 none)) fun m50 => (W.on2 (store? Tab.env m50 27 (ptrTo (M.n m46)) v48) fun m51 b52 => (W.jn (fun R53 => (W.onS (bin? Tab.env .neq 35 v22 (.int .i64 0)) fun v57 => (ifV v57
(R53 [(.bool true)] m51 (min (min (min (min (min (min (min (min (min (min (min (min (min (M.n m) b3) b7) b10) b13) b16) b20) b25) b29) b34) b38) b43) b47) b52))
(W.onS (bin? Tab.env .neq 35 v31 (.int .i64 0)) fun v58 => (ifV v58
(R53 [(.bool true)] m51 (min (min (min (min (min (min (min (min (min (min (min (min (min (M.n m) b3) b7) b10) b13) b16) b20) b25) b29) b34) b38) b43) b47) b52))
(W.onS (bin? Tab.env .neq 35 v40 (.int .i64 0)) fun v59 => (ifV v59
(R53 [(.bool true)] m51 (min (min (min (min (min (min (min (min (min (min (min (min (min (M.n m) b3) b7) b10) b13) b16) b20) b25) b29) b34) b38) b43) b47) b52))
(W.onS (bin? Tab.env .neq 35 v49 (.int .i64 0)) fun v60 => (ifV v60
(R53 [(.bool true)] m51 (min (min (min (min (min (min (min (min (min (min (min (min (min (M.n m) b3) b7) b10) b13) b16) b20) b25) b29) b34) b38) b43) b47) b52))
(W.onS (load? Tab.env m51 27 (ptrTo (M.n m37))) fun v61 => (W.onC (.func 26) [v61] m51 fun v62 m63 b64 => (W.onS (un? .not v62) fun v65 => (ifV v65
(R53 [(.bool true)] m63 (min (min (min (min (min (min (min (min (min (min (min (min (min (min (M.n m) b3) b7) b10) b13) b16) b20) b25) b29) b34) b38) b43) b47) b52) b64))
(W.onS (load? Tab.env m63 27 (ptrTo (M.n m46))) fun v66 => (W.onC (.func 26) [v66] m63 fun v67 m68 b69 => (W.onS (un? .not v67) fun v70 => (ifV v70
(R53 [(.bool true)] m68 (min (min (min (min (min (min (min (min (min (min (min (min (min (min (min (M.n m) b3) b7) b10) b13) b16) b20) b25) b29) b34) b38) b43) b47) b52) b64) b69))
(W.onS (fieldAddr? Tab.env 27 (ptrTo (M.n m37)) 0) fun v71 => (W.onS (load? Tab.env m68 3 v71) fun v72 => (W.onS (bin? Tab.env .neq 3 v72 (.int .i64 40)) fun v73 => (ifV v73
(R53 [(.bool true)] m68 (min (min (min (min (min (min (min (min (min (min (min (min (min (min (min (M.n m) b3) b7) b10) b13) b16) b20) b25) b29) b34) b38) b43) b47) b52) b64) b69))
(W.onS (fieldAddr? Tab.env 27 (ptrTo (M.n m37)) 1) fun v74 => (W.onS (load? Tab.env m68 3 v74) fun v75 => (W.onS (bin? Tab.env .neq 3 v75 (.int .i64 8)) fun v76 => (ifV v76
(R53 [(.bool true)] m68 (min (min (min (min (min (min (min (min (min (min (min (min (min (min (min (M.n m) b3) b7) b10) b13) b16) b20) b25) b29) b34) b38) b43) b47) b52) b64) b69))
(W.onS (fieldAddr? Tab.env 27 (ptrTo (M.n m46)) 0) fun v77 => (W.onS (load? Tab.env m68 3 v77) fun v78 => (W.onS (bin? Tab.env .neq 3 v78 (.int .i64 8)) fun v79 => (ifV v79
(R53 [(.bool true)] m68 (min (min (min (min (min (min (min (min (min (min (min (min (min (min (min (M.n m) b3) b7) b10) b13) b16) b20) b25) b29) b34) b38) b43) b47) b52) b64) b69))
(W.onS (fieldAddr? Tab.env 27 (ptrTo (M.n m46)) 1) fun v80 => (W.onS (load? Tab.env m68 3 v80) fun v81 => (W.onS (bin? Tab.env .neq 3 v81 (.int .i64 40)) fun v82 => (R53 [v82] m68 (min (min (min (min (min (min (min (min (min (min (min (min (min (min (min (M.n m) b3) b7) b10) b13) b16) b20) b25) b29) b34) b38) b43) b47) b52) b64) b69))))))))))))))))))))))))))))))))))
(fun vs54 m55 lo56 => W.un vs54 fun v83 r84 => (ifV v83
(R [(.bool false)] m55 lo56)
(W.Lp (fun P85 vs86 m87 lo88 => W.un vs86 fun v89 r90 => W.un r90 fun v91 r92 => W.un r92 fun v93 r94 => W.un r94 fun v95 r96 => (W.onS (bin? Tab.env .lss 3 v95 (.int .i64 8)) fun v97 => (ifV v97
(W.onS (load? Tab.env m87 27 (ptrTo (M.n m46))) fun v98 => (W.onC (.func 31) [v98, v95, v14] m87 fun v99 m100 b101 => (W.onS (load? Tab.env m100 27 (ptrTo (M.n m37))) fun v102 => (W.onC (.func 31) [v102, v11, v95] m100 fun v103 m104 b105 => (W.onS (bin? Tab.env .neq 3 v103 v99) fun v106 => (ifV v106
(R [(.bool false)] m104 (min (min lo88 b101) b105))
(W.onS (bin? Tab.env .geq 3 v99 (.int .i64 0)) fun v107 => (ifV v107
(W.onS (bin? Tab.env .lss 3 v93 (.int .i64 0)) fun v108 => (ifV v108
(W.onS (bin? Tab.env .add 3 v95 (.int .i64 1)) fun v109 => (P85 [v89, v99, v99, v109] m104 (min (min lo88 b101) b105)))
(W.onS (bin? Tab.env .add 3 v95 (.int .i64 1)) fun v110 => (P85 [v89, v99, v93, v110] m104 (min (min lo88 b101) b105)))))
(W.onS (bin? Tab.env .add 3 v95 (.int .i64 1)) fun v111 => (P85 [v89, v91, v93, v111] m104 (min (min lo88 b101) b105)))))))))))
(W.jn (fun R112 => (W.onS (load? Tab.env m87 27 (ptrTo (M.n m19))) fun v116 => (W.onC (.func 31) [v116, v11, v14] m87 fun v117 m118 b119 => (W.onS (bin? Tab.env .eql 3 v117 v91) fun v120 => (ifV v120
(W.onS (load? Tab.env m118 27 (ptrTo (M.n m28))) fun v121 => (W.onS (bin? Tab.env .sub 3 (.int .i64 39) v11) fun v122 => (W.onC (.func 31) [v121, v122, v14] m118 fun v123 m124 b125 => (W.onS (bin? Tab.env .eql 3 v123 v93) fun v126 => (R112 [v126] m124 (min (min lo88 b119) b125))))))
(R112 [(.bool false)] m118 (min lo88 b119)))))))
(fun vs113 m114 lo115 => W.un vs113 fun v127 r128 => (R [v127] m114 lo115)))))) [(.bool false), (.int .i64 (-1)), (.int .i64 (-1)), (.int .i64 0)] m55 lo56)))))))))))))))))))))))))))))))))))) := by kernel_rfl

set_option maxRecDepth 100000 in
/-- putlog/draw.Plan -/
theorem F16 {W : Words} {x0 x1 : Value} {m : M} {R : List Value → M → Nat → Prop} : vcF Tab.env W Tryz.f16 [x0, x1] m R =
(W.onM (M.push m (.cells (cells x0) 31 none)) fun m1 => (W.onM (M.push m1 (.cells (cells x1) 3 none)) fun m2 => (W.onM (M.push m2 (.cells [(.int .i64 0), (.int .i64 0), (.slice none 0 0)] 27 none)) fun m3 => (W.jn (fun R4 => (W.onS (load? Tab.env m3 31 (ptrTo (M.n m))) fun v8 => (W.onC (.func 47) [v8] m3 fun v9 m10 b11 => (W.onS (un? .not v9) fun v12 => (ifV v12
(R4 [(.bool true)] m10 (min (M.n m) b11))
(W.onS (load? Tab.env m10 3 (ptrTo (M.n m1))) fun v13 => (W.onC (.func 54) [v13, (.int .i64 0), (.int .i64 39)] m10 fun v14 m15 b16 => (W.onS (un? .not v14) fun v17 => (R4 [v17] m15 (min (min (M.n m) b11) b16))))))))))
(fun vs5 m6 lo7 => W.un vs5 fun v18 r19 => (ifV v18
(W.onS (build? Tab.env 27 []) fun v20 => (W.on2 (store? Tab.env m6 27 (ptrTo (M.n m2)) v20) fun m21 b22 => (onS (load? Tab.env m21 27 (ptrTo (M.n m2))) fun v23 => (R [v23, (.int .i64 410)] m21 (min lo7 b22)))))
(W.onS (load? Tab.env m6 31 (ptrTo (M.n m))) fun v24 => (W.onC (.func 55) [v24] m6 fun v25 m26 b27 => (W.onM (M.push m26 (.cells [(.map none)] 103 none)) fun m28 => (W.on2 (store? Tab.env m28 103 (ptrTo (M.n m26)) v25) fun m29 b30 => (W.onC (.func 56) [(.int .i64 40), (.int .i64 8), (.func (.func 57) #[] #[(ptrTo (M.n m26)), (ptrTo (M.n m1))])] m29 fun v31 m32 b33 => (W.on2 (store? Tab.env m32 27 (ptrTo (M.n m2)) v31) fun m34 b35 => (onS (load? Tab.env m34 27 (ptrTo (M.n m2))) fun v36 => (R [v36, (.int .i64 0)] m34 (min (min (min (min lo7 b27) b30) b33) b35))))))))))))))) := by kernel_rfl

set_option maxRecDepth 100000 in
/-- putlog/draw.Plan$1 -/
theorem F57 {W : Words} {x0 x1 x2 x3 : Value} {m : M} {R : List Value → M → Nat → Prop} : vcF Tab.env W Tryz.f57 [x0, x1, x2, x3] m R =
(W.onS (load? Tab.env m 103 x2) fun v1 => (W.onS (load? Tab.env m 3 x3) fun v2 => (W.onS (build? Tab.env 64 [(0, x0), (1, v2)]) fun v3 => (W.onS (lookup? Tab.env m 103 v1 v3 false) fun v4 => (W.onC (.func 58) [v4, x1] m fun v5 m6 b7 => (R [v5] m6 (min (M.n m) b7))))))) := by kernel_rfl

set_option maxRecDepth 100000 in
/-- putlog/draw.Section -/
theorem F18 {W : Words} {x0 x1 : Value} {m : M} {R : List Value → M → Nat → Prop} : vcF Tab.env W Tryz.f18 [x0, x1] m R =
(W.onM (M.push m (.cells (cells x0) 31 none)) fun m1 => (W.onM (M.push m1 (.cells (cells x1) 3 none)) fun m2 => (W.onM (M.push m2 (.cells [(.int .i64 0), (.int .i64 0), (.slice none 0 0)] 27 none)) fun m3 => (W.jn (fun R4 => (W.onS (load? Tab.env m3 31 (ptrTo (M.n m))) fun v8 => (W.onC (.func 47) [v8] m3 fun v9 m10 b11 => (W.onS (un? .not v9) fun v12 => (ifV v12
(R4 [(.bool true)] m10 (min (M.n m) b11))
(W.onS (load? Tab.env m10 3 (ptrTo (M.n m1))) fun v13 => (W.onC (.func 54) [v13, (.int .i64 0), (.int .i64 39)] m10 fun v14 m15 b16 => (W.onS (un? .not v14) fun v17 => (R4 [v17] m15 (min (min (M.n m) b11) b16))))))))))
(fun vs5 m6 lo7 => W.un vs5 fun v18 r19 => (ifV v18
(W.onS (build? Tab.env 27 []) fun v20 => (W.on2 (store? Tab.env m6 27 (ptrTo (M.n m2)) v20) fun m21 b22 => (onS (load? Tab.env m21 27 (ptrTo (M.n m2))) fun v23 => (R [v23, (.int .i64 410)] m21 (min lo7 b22)))))
(W.onS (load? Tab.env m6 31 (ptrTo (M.n m))) fun v24 => (W.onC (.func 55) [v24] m6 fun v25 m26 b27 => (W.onM (M.push m26 (.cells [(.map none)] 103 none)) fun m28 => (W.on2 (store? Tab.env m28 103 (ptrTo (M.n m26)) v25) fun m29 b30 => (W.onC (.func 56) [(.int .i64 8), (.int .i64 40), (.func (.func 60) #[] #[(ptrTo (M.n m26)), (ptrTo (M.n m1))])] m29 fun v31 m32 b33 => (W.on2 (store? Tab.env m32 27 (ptrTo (M.n m2)) v31) fun m34 b35 => (onS (load? Tab.env m34 27 (ptrTo (M.n m2))) fun v36 => (R [v36, (.int .i64 0)] m34 (min (min (min (min lo7 b27) b30) b33) b35))))))))))))))) := by kernel_rfl

set_option maxRecDepth 100000 in
/-- putlog/draw.Section$1 -/
theorem F60 {W : Words} {x0 x1 x2 x3 : Value} {m : M} {R : List Value → M → Nat → Prop} : vcF Tab.env W Tryz.f60 [x0, x1, x2, x3] m R =
(W.onS (load? Tab.env m 103 x2) fun v1 => (W.onS (load? Tab.env m 3 x3) fun v2 => (W.onS (build? Tab.env 64 [(0, v2), (1, x1)]) fun v3 => (W.onS (lookup? Tab.env m 103 v1 v3 false) fun v4 => (W.onC (.func 58) [v4, x0] m fun v5 m6 b7 => (R [v5] m6 (min (M.n m) b7))))))) := by kernel_rfl

set_option maxRecDepth 100000 in
/-- putlog/draw.inside -/
theorem F58 {W : Words} {x0 x1 : Value} {m : M} {R : List Value → M → Nat → Prop} : vcF Tab.env W Tryz.f58 [x0, x1] m R =
(W.onM (M.push m (.cells (cells x1) 3 none)) fun m1 => (W.onC (.func 104) [x0, (.func (.func 105) #[] #[(ptrTo (M.n m))])] m1 fun v2 m3 b4 => (W.onS (bin? Tab.env .lss 3 v2 (.int .i64 0)) fun v5 => (ifV v5
(R [(.int .i64 (-1))] m3 (min (M.n m) b4))
(W.onS (indexAddr? Tab.env 29 x0 v2) fun v6 => (W.onS (fieldAddr? Tab.env 57 v6 0) fun v7 => (W.onS (load? Tab.env m3 3 v7) fun v8 => (R [v8] m3 (min (M.n m) b4))))))))) := by kernel_rfl

set_option maxRecDepth 100000 in
/-- putlog/draw.inside$1 -/
theorem F105 {W : Words} {x0 x1 : Value} {m : M} {R : List Value → M → Nat → Prop} : vcF Tab.env W Tryz.f105 [x0, x1] m R =
(W.onM (M.push m (.cells (cells x0) 57 none)) fun m1 => (W.jn (fun R2 => (W.onS (fieldAddr? Tab.env 57 (ptrTo (M.n m)) 4) fun v6 => (W.onS (load? Tab.env m1 3 v6) fun v7 => (W.onS (load? Tab.env m1 3 x1) fun v8 => (W.onS (bin? Tab.env .leq 3 v7 v8) fun v9 => (ifV v9
(W.onS (load? Tab.env m1 3 x1) fun v10 => (W.onS (fieldAddr? Tab.env 57 (ptrTo (M.n m)) 5) fun v11 => (W.onS (load? Tab.env m1 3 v11) fun v12 => (W.onS (bin? Tab.env .lss 3 v10 v12) fun v13 => (R2 [v13] m1 (M.n m))))))
(R2 [(.bool false)] m1 (M.n m))))))))
(fun vs3 m4 lo5 => W.un vs3 fun v14 r15 => (R [v14] m4 lo5)))) := by kernel_rfl

end Go.Proofs.YtjecgmfildhpiaaGreatDoor

/- draw.inside, draw.Plan, draw.Section. -/
namespace Go.Proofs.YtjecgmfildhpiaaGreatDoor
open Go Go.D
variable {X : CallFn} {m : M}
def insB (z : Int) (u : Un) : Bool := decide (u.back ≤ z) && decide (z < u.front)
/-- The unit that fills a depth of a cell. -/
def insZ (us : List Un) (z : Int) : Int := idZ (us.find? (insB z))
theorem find_first {α : Type} {p : α → Bool} : ∀ {l : List α} {i : Nat} {x : α}, l[i]? = some x → p x = true → (∀ j y, j < i → l[j]? = some y → p y = false) → l.find? p = some x
  | [], i, x, h, _, _ => by simp at h
  | a :: l, 0, x, h, hp, _ => by
    have h : a = x := by simpa using h
    subst h
    rw [List.find?_cons_of_pos hp]
  | a :: l, i + 1, x, h, hp, hf => by
    rw [List.find?_cons_of_neg (by rw [hf 0 a (by omega) rfl]; decide)]
    exact find_first (i := i) (by simpa using h) hp fun j y hj hy => hf (j + 1) y (by omega) (by simpa using hy)
theorem fills_ok (hX : NoX X) {u : Un} {w : Value} {b : Nat} {z : Int} (hb : m.get b = .cells [.int .i64 z] 3 none) : C X (.func 105) [u.v w, ptrTo b] m m.n (.bool (insB z u)) m := by
  refine Cl.flat (hX.no _ rfl) fn_105 rfl rfl ?_
  rw [F105]; dsimp only [plainW]
  refine onM_push fun m1 hn1 hg1 hk1 => ?_
  have hg1 : m1.get m.n = .cells (u.c w) 57 none := hg1
  obtain ⟨-, -, -, -, l4, l5⟩ := unf hg1
  have hb1 : m1.get b = .cells [.int .i64 z] 3 none := by rw [hk1 b (M.lt_of_get hb), hb]
  have lz : load? Tab.env m1 3 (.pointer (some ⟨b, 0, none⟩)) = some (.int .i64 z) := by rw [load_3, cellAt_of hb1]; rfl
  unfold ptrTo
  refine jn_of (fun vs mm lo => vs = [.bool (insB z u)] ∧ m1 = mm ∧ m.n ≤ lo) (fun R hR => ?_) ?_
  · rw [fieldAddr_57_4, onS_some, l4, onS_some, lz, onS_some, bin_leq, onS_some, ifV_bool]
    refine ifB_intro (fun h => ?_) (fun h => ?_)
    · rw [onS_some, fieldAddr_57_5, onS_some, l5, onS_some, bin_lss, onS_some]
      refine hR _ _ _ ⟨?_, rfl, by omega⟩
      unfold insB
      rw [h, Bool.true_and]
    · refine hR _ _ _ ⟨?_, rfl, by omega⟩
      unfold insB
      rw [h, Bool.false_and]
  rintro _ _ lo ⟨rfl, rfl, hlo⟩
  rw [un_cons]
  exact ⟨rfl, hlo⟩
theorem inside_ok (hX : NoX X) {us : List Un} {v : Value} (h : Sl m us v) (hlen : us.length < 1000000) (z : Int) : C X (.func 58) [v, .int .i64 z] m m.n (.int .i64 (insZ us z)) m := by
  refine Cl.flat (hX.no _ rfl) fn_58 rfl rfl ?_
  rw [F58]; dsimp only [plainW]
  refine onM_push fun m1 hn1 hg1 hk1 => ?_
  have hx1 : Ext m m1 := ⟨by omega, hk1⟩
  have h1 := h.keepE hx1
  refine onC_of (indexFunc_ok (m := m1) slt_un (hX.no _ rfl) fn_104 rfl idxF_unit (insB z) (by omega) h1 fun x hx cs hr => by
    obtain ⟨w, rfl, _⟩ := hr
    exact fills_ok hX hg1) ?_
  rcases idx_cases (insB z) us with ⟨e, hno⟩ | ⟨i, x, e, hx, hp, hf⟩
  · rw [e, bin_lss, onS_some, ifV_bool, show decide ((-1 : Int) < 0) = true from rfl, ifB_true]
    have : insZ us z = -1 := by
      unfold insZ
      rw [List.find?_eq_none.2 fun x hx => by rw [hno x hx]; decide]; rfl
    rw [this]
    exact ⟨rfl, by omega⟩
  · rw [e, bin_lss, onS_some, ifV_bool, decide_eq_false (by omega), ifB_false]
    obtain ⟨b, o, bc, g, cs, ea, hb, hr, hle, hj⟩ := h1.indexA slt_un (k := .i64) hx
    obtain ⟨w, rfl, _⟩ := hr
    rw [ea, onS_some, fieldAddr_57_0, onS_some]
    have l0 : load? Tab.env m1 3 (.pointer (some ⟨b, o + 0, none⟩)) = some (.int .i64 x.id) := by rw [load_3, cellAt_of hb, hj 0 (by decide)]; rfl
    rw [l0, onS_some]
    have : insZ us z = x.id := by
      unfold insZ
      rw [find_first hx hp hf]; rfl
    rw [this]
    exact ⟨rfl, by omega⟩
theorem planCell_ok (hX : NoX X) {us : List UW} {b1 b2 r n1 : Nat} {kv : List KV'} {c : Int} (h1 : m.get b1 = .cells [.int .i64 c] 3 none) (h2 : m.get b2 = .cells [.map (some r)] 103 none)
    (hpm : PM n1 m r kv) (hget : ∀ q, getL kv q = covL us q) (hsh : ∀ x ∈ us, Sl m x.u.shape x.w) (hlen : us.length ≤ 1000) {x y : Int} :
    C X (.func 57) [.int .i64 x, .int .i64 y, ptrTo b2, ptrTo b1] m m.n (.int .i64 (insZ (covU (us.map (·.u)) ⟨x, c⟩) y)) m := by
  refine Cl.flat (hX.no _ rfl) fn_57 rfl rfl ?_
  rw [F57]; dsimp only [plainW]
  unfold ptrTo
  have ldm : load? Tab.env m 103 (.pointer (some ⟨b2, 0, none⟩)) = some (.map (some r)) := by rw [load_103, cellAt_of h2]; rfl
  have ldc : load? Tab.env m 3 (.pointer (some ⟨b1, 0, none⟩)) = some (.int .i64 c) := by rw [load_3, cellAt_of h1]; rfl
  rw [ldm, onS_some, ldc, onS_some, build_64_0_1 rfl rfl, onS_some]
  obtain ⟨v5, e5, hs5⟩ := hpm.lookup ⟨x, c⟩
  have e5 : lookup? Tab.env m 103 (.map (some r)) (Pl.v ⟨x, c⟩) false = some v5 := e5
  rw [show (Value.agg (cells (Value.int .i64 x) ++ cells (Value.int .i64 c)).toArray) = Pl.v ⟨x, c⟩ from rfl, e5, onS_some]
  rw [hget] at hs5
  have hsu := hs5.of_uw fun x hx => hsh x (List.mem_filter.1 hx |>.1)
  rw [covL_map] at hsu
  have hl : (covU (us.map (·.u)) ⟨x, c⟩).length < 1000000 := by
    have : (covU (us.map (·.u)) ⟨x, c⟩).length ≤ (us.map (·.u)).length := List.length_filter_le _ _
    rw [List.length_map] at this
    omega
  refine onC_of (inside_ok hX hsu hl y) ?_
  exact ⟨rfl, by omega⟩
theorem plan_ok (hX : NoX X) {l : List UW} {v : Value} (h : FabV m l v) (hP : FabP (us' l)) {c : Int} (hc : 0 ≤ c ∧ c ≤ 39) :
    ∃ v' m', C X (.func 16) [.agg #[v], .int .i64 c] m m.n (.tuple #[drV 40 8 v', .int .i64 0]) m' ∧ Ext m m' ∧ Ow m.n m' (gridZ (fun i j => insZ (covU (us' l) ⟨i, c⟩) j) 40 8) v' := by
  have hl : l.length ≤ 12 := by have := hP.len; rwa [us_len] at this
  have key : ∃ rv m' b, C X (.func 16) [.agg #[v], .int .i64 c] m b rv m' ∧ b = m.n ∧ ∃ v', rv = .tuple #[drV 40 8 v', .int .i64 0] ∧ Ext m m' ∧ Ow m.n m' (gridZ (fun i j => insZ (covU (us' l) ⟨i, c⟩) j) 40 8) v' := by
    refine Cl.heap (R := fun rv m' b => b = m.n ∧ ∃ v', rv = .tuple #[drV 40 8 v', .int .i64 0] ∧ Ext m m' ∧ Ow m.n m' (gridZ (fun i j => insZ (covU (us' l) ⟨i, c⟩) j) 40 8) v') (hX.no _ rfl) fn_16 rfl ?_
    rw [F16]; dsimp only [plainW]
    refine onM_push fun m1 hn1 hg1 hk1 => ?_
    refine onM_push fun m2 hn2 hg2 hk2 => ?_
    refine onM_push fun m3 hn3 hg3 hk3 => ?_
    have hx3 : Ext m m3 := ⟨by omega, fun c hc => by rw [hk3 c (by omega), hk2 c (by omega), hk1 c hc]⟩
    have g0 : m3.get m.n = .cells [v] 31 none := by rw [hk3 _ (by omega), hk2 _ (by omega)]; exact hg1
    have gc : m3.get m1.n = .cells [.int .i64 c] 3 none := by rw [hk3 _ (by omega)]; exact hg2
    have hF := h.keepE hx3
    unfold ptrTo
    have ld : load? Tab.env m3 31 (.pointer (some ⟨m.n, 0, none⟩)) = some (.agg #[v]) := by rw [load_31, loadCells_of g0 (by simp)]; rfl
    have ldc : load? Tab.env m3 3 (.pointer (some ⟨m1.n, 0, none⟩)) = some (.int .i64 c) := by rw [load_3, cellAt_of gc]; rfl
    refine jn_of (fun vs mm lo => vs = [.bool false] ∧ m3 = mm ∧ m.n ≤ lo) (fun R hR => ?_) ?_
    · rw [ld, onS_some]
      refine onC_of (fvalid_ok hX hF (by omega)) ?_
      rw [fabB_true hP, un_not, onS_some, ifV_bool, Bool.not_true, ifB_false, ldc, onS_some]
      refine onC_of (within_ok hX _ _ _) ?_
      have : inB c 0 39 = true := by unfold inB; rw [decide_eq_true hc.1, decide_eq_true hc.2]; rfl
      rw [this, un_not, onS_some]
      exact hR _ _ _ ⟨rfl, rfl, by omega⟩
    rintro _ _ lo7 ⟨rfl, rfl, hlo7⟩
    rw [un_cons, ifV_bool, ifB_false, ld, onS_some]
    obtain ⟨m26, kv, hcv, hx26, hpm, hget⟩ := covers_ok hX hF.sl hF.sh (fun x hx => unB_val (hP.val x.u (List.mem_map.2 ⟨x, hx, rfl⟩))) (by omega)
    refine onC_of hcv ?_
    have n26 := hx26.n
    refine onM_push fun m28 hn28 hg28 hk28 => ?_
    refine on2_storeV ty_103 hg28 rfl rfl rfl fun m29 hn29 hg29 hk29 => ?_
    have hx2629 : Ext m26 m29 := ⟨by omega, fun b hb => by rw [hk29 b (by omega), hk28 b hb]⟩
    have hx329 := hx26.trans hx2629
    obtain ⟨v', m32, hc32, hx32, ho32⟩ := made_ok (m := m29) hX (w := 40) (h := 8) (by omega) (by omega) (g := .func 57) (fi := #[]) (ca := #[.pointer (some ⟨m26.n, 0, none⟩), .pointer (some ⟨m1.n, 0, none⟩)]) (fun i j => insZ (covU (us' l) ⟨i, c⟩) j)
      (fun i j mm hi hj hx => by
        have hx3m := hx329.trans hx
        exact planCell_ok (m := mm) hX (b1 := m1.n) (b2 := m26.n) (hx3m.cells gc) (hx.cells (by rw [hg29]; rfl)) ((hpm.keepE hx2629).keepE hx) hget (fun x hx' => (hF.sh x hx').keepE hx3m) (by omega)) (by omega)
    refine onC_of hc32 ?_
    have hx332 := hx329.trans hx32
    have gd := hx332.cells hg3
    have hone : one v' = true := ho32.sl.one
    have n32 := hx332.n
    refine on2_storeV ty_27 gd rfl rfl (by show (true && (true && (one v' && true))) = true; rw [hone]; rfl) fun m34 hn34 hg34 hk34 => ?_
    have e2 : load? Tab.env m34 27 (.pointer (some ⟨m2.n, 0, none⟩)) = some (drV 40 8 v') := by rw [load_27, loadCells_of hg34 (by simp [cells_agg])]; rfl
    rw [e2, onS_some]
    have ho34 : Ow m29.n m34 (gridZ (fun i j => insZ (covU (us' l) ⟨i, c⟩) j) 40 8) v' := ho32.keep fun b c t g hb ht => by
      by_cases hbm : b = m2.n
      · subst hbm
        rw [gd] at hb
        cases hb
        simp [Rep.ty, Rep.tys] at ht
      · rw [hk34 b hbm, hb]
    refine ⟨.inl ?_, by have := hx329.n; omega, v', rfl, ⟨by omega, fun b hb => by rw [hk34 b (by omega), (hx3.trans hx332).get b hb]⟩, ho34.mono (by have := hx329.n; omega)⟩
    rcases ho34 with ⟨_, h0⟩ | ⟨b, cs, rfl, _⟩
    · have := congrArg List.length h0
      rw [gridZ_len] at this
      simp at this
    · simp [mkres, flat2, flat1, flat0, drV]
  obtain ⟨rv, m', b, hc, rfl, v', rfl, h1, h2⟩ := key
  exact ⟨v', m', hc, h1, h2⟩
theorem sectionCell_ok (hX : NoX X) {us : List UW} {b1 b2 r n1 : Nat} {kv : List KV'} {c : Int} (h1 : m.get b1 = .cells [.int .i64 c] 3 none) (h2 : m.get b2 = .cells [.map (some r)] 103 none)
    (hpm : PM n1 m r kv) (hget : ∀ q, getL kv q = covL us q) (hsh : ∀ x ∈ us, Sl m x.u.shape x.w) (hlen : us.length ≤ 1000) {x y : Int} :
    C X (.func 60) [.int .i64 x, .int .i64 y, ptrTo b2, ptrTo b1] m m.n (.int .i64 (insZ (covU (us.map (·.u)) ⟨c, y⟩) x)) m := by
  refine Cl.flat (hX.no _ rfl) fn_60 rfl rfl ?_
  rw [F60]; dsimp only [plainW]
  unfold ptrTo
  have ldm : load? Tab.env m 103 (.pointer (some ⟨b2, 0, none⟩)) = some (.map (some r)) := by rw [load_103, cellAt_of h2]; rfl
  have ldc : load? Tab.env m 3 (.pointer (some ⟨b1, 0, none⟩)) = some (.int .i64 c) := by rw [load_3, cellAt_of h1]; rfl
  rw [ldm, onS_some, ldc, onS_some, build_64_0_1 rfl rfl, onS_some]
  obtain ⟨v5, e5, hs5⟩ := hpm.lookup ⟨c, y⟩
  have e5 : lookup? Tab.env m 103 (.map (some r)) (Pl.v ⟨c, y⟩) false = some v5 := e5
  rw [show (Value.agg (cells (Value.int .i64 c) ++ cells (Value.int .i64 y)).toArray) = Pl.v ⟨c, y⟩ from rfl, e5, onS_some]
  rw [hget] at hs5
  have hsu := hs5.of_uw fun x hx => hsh x (List.mem_filter.1 hx |>.1)
  rw [covL_map] at hsu
  have hl : (covU (us.map (·.u)) ⟨c, y⟩).length < 1000000 := by
    have : (covU (us.map (·.u)) ⟨c, y⟩).length ≤ (us.map (·.u)).length := List.length_filter_le _ _
    rw [List.length_map] at this
    omega
  refine onC_of (inside_ok hX hsu hl x) ?_
  exact ⟨rfl, by omega⟩
theorem section_ok (hX : NoX X) {l : List UW} {v : Value} (h : FabV m l v) (hP : FabP (us' l)) {c : Int} (hc : 0 ≤ c ∧ c ≤ 39) :
    ∃ v' m', C X (.func 18) [.agg #[v], .int .i64 c] m m.n (.tuple #[drV 8 40 v', .int .i64 0]) m' ∧ Ext m m' ∧ Ow m.n m' (gridZ (fun i j => insZ (covU (us' l) ⟨c, j⟩) i) 8 40) v' := by
  have hl : l.length ≤ 12 := by have := hP.len; rwa [us_len] at this
  have key : ∃ rv m' b, C X (.func 18) [.agg #[v], .int .i64 c] m b rv m' ∧ b = m.n ∧ ∃ v', rv = .tuple #[drV 8 40 v', .int .i64 0] ∧ Ext m m' ∧ Ow m.n m' (gridZ (fun i j => insZ (covU (us' l) ⟨c, j⟩) i) 8 40) v' := by
    refine Cl.heap (R := fun rv m' b => b = m.n ∧ ∃ v', rv = .tuple #[drV 8 40 v', .int .i64 0] ∧ Ext m m' ∧ Ow m.n m' (gridZ (fun i j => insZ (covU (us' l) ⟨c, j⟩) i) 8 40) v') (hX.no _ rfl) fn_18 rfl ?_
    rw [F18]; dsimp only [plainW]
    refine onM_push fun m1 hn1 hg1 hk1 => ?_
    refine onM_push fun m2 hn2 hg2 hk2 => ?_
    refine onM_push fun m3 hn3 hg3 hk3 => ?_
    have hx3 : Ext m m3 := ⟨by omega, fun c hc => by rw [hk3 c (by omega), hk2 c (by omega), hk1 c hc]⟩
    have g0 : m3.get m.n = .cells [v] 31 none := by rw [hk3 _ (by omega), hk2 _ (by omega)]; exact hg1
    have gc : m3.get m1.n = .cells [.int .i64 c] 3 none := by rw [hk3 _ (by omega)]; exact hg2
    have hF := h.keepE hx3
    unfold ptrTo
    have ld : load? Tab.env m3 31 (.pointer (some ⟨m.n, 0, none⟩)) = some (.agg #[v]) := by rw [load_31, loadCells_of g0 (by simp)]; rfl
    have ldc : load? Tab.env m3 3 (.pointer (some ⟨m1.n, 0, none⟩)) = some (.int .i64 c) := by rw [load_3, cellAt_of gc]; rfl
    refine jn_of (fun vs mm lo => vs = [.bool false] ∧ m3 = mm ∧ m.n ≤ lo) (fun R hR => ?_) ?_
    · rw [ld, onS_some]
      refine onC_of (fvalid_ok hX hF (by omega)) ?_
      rw [fabB_true hP, un_not, onS_some, ifV_bool, Bool.not_true, ifB_false, ldc, onS_some]
      refine onC_of (within_ok hX _ _ _) ?_
      have : inB c 0 39 = true := by unfold inB; rw [decide_eq_true hc.1, decide_eq_true hc.2]; rfl
      rw [this, un_not, onS_some]
      exact hR _ _ _ ⟨rfl, rfl, by omega⟩
    rintro _ _ lo7 ⟨rfl, rfl, hlo7⟩
    rw [un_cons, ifV_bool, ifB_false, ld, onS_some]
    obtain ⟨m26, kv, hcv, hx26, hpm, hget⟩ := covers_ok hX hF.sl hF.sh (fun x hx => unB_val (hP.val x.u (List.mem_map.2 ⟨x, hx, rfl⟩))) (by omega)
    refine onC_of hcv ?_
    have n26 := hx26.n
    refine onM_push fun m28 hn28 hg28 hk28 => ?_
    refine on2_storeV ty_103 hg28 rfl rfl rfl fun m29 hn29 hg29 hk29 => ?_
    have hx2629 : Ext m26 m29 := ⟨by omega, fun b hb => by rw [hk29 b (by omega), hk28 b hb]⟩
    have hx329 := hx26.trans hx2629
    obtain ⟨v', m32, hc32, hx32, ho32⟩ := made_ok (m := m29) hX (w := 8) (h := 40) (by omega) (by omega) (g := .func 60) (fi := #[]) (ca := #[.pointer (some ⟨m26.n, 0, none⟩), .pointer (some ⟨m1.n, 0, none⟩)]) (fun i j => insZ (covU (us' l) ⟨c, j⟩) i)
      (fun i j mm hi hj hx => by
        have hx3m := hx329.trans hx
        exact sectionCell_ok (m := mm) hX (b1 := m1.n) (b2 := m26.n) (hx3m.cells gc) (hx.cells (by rw [hg29]; rfl)) ((hpm.keepE hx2629).keepE hx) hget (fun x hx' => (hF.sh x hx').keepE hx3m) (by omega)) (by omega)
    refine onC_of hc32 ?_
    have hx332 := hx329.trans hx32
    have gd := hx332.cells hg3
    have hone : one v' = true := ho32.sl.one
    have n32 := hx332.n
    refine on2_storeV ty_27 gd rfl rfl (by show (true && (true && (one v' && true))) = true; rw [hone]; rfl) fun m34 hn34 hg34 hk34 => ?_
    have e2 : load? Tab.env m34 27 (.pointer (some ⟨m2.n, 0, none⟩)) = some (drV 8 40 v') := by rw [load_27, loadCells_of hg34 (by simp [cells_agg])]; rfl
    rw [e2, onS_some]
    have ho34 : Ow m29.n m34 (gridZ (fun i j => insZ (covU (us' l) ⟨c, j⟩) i) 8 40) v' := ho32.keep fun b c t g hb ht => by
      by_cases hbm : b = m2.n
      · subst hbm
        rw [gd] at hb
        cases hb
        simp [Rep.ty, Rep.tys] at ht
      · rw [hk34 b hbm, hb]
    refine ⟨.inl ?_, by have := hx329.n; omega, v', rfl, ⟨by omega, fun b hb => by rw [hk34 b (by omega), (hx3.trans hx332).get b hb]⟩, ho34.mono (by have := hx329.n; omega)⟩
    rcases ho34 with ⟨_, h0⟩ | ⟨b, cs, rfl, _⟩
    · have := congrArg List.length h0
      rw [gridZ_len] at this
      simp at this
    · simp [mkres, flat2, flat1, flat0, drV]
  obtain ⟨rv, m', b, hc, rfl, v', rfl, h1, h2⟩ := key
  exact ⟨v', m', hc, h1, h2⟩
end Go.Proofs.YtjecgmfildhpiaaGreatDoor

/- The plain law of DrawViews. -/
namespace Go.Proofs.YtjecgmfildhpiaaGreatDoor
open Go Go.D
/-- The last and the first of what is shown. -/
def lastG (g : Nat → Int) : Nat → Int
  | 0 => -1
  | z + 1 => if 0 ≤ g z then g z else lastG g z
def firstG (g : Nat → Int) : Nat → Int
  | 0 => -1
  | z + 1 => if 0 ≤ g z then (if firstG g z < 0 then g z else firstG g z) else firstG g z
theorem last_none {g : Nat → Int} : ∀ {n : Nat}, (∀ z, z < n → g z < 0) → lastG g n = -1
  | 0, _ => rfl
  | n + 1, h => by
    rw [lastG, if_neg (by have := h n (by omega); omega), last_none fun z hz => h z (by omega)]
theorem first_none {g : Nat → Int} : ∀ {n : Nat}, (∀ z, z < n → g z < 0) → firstG g n = -1
  | 0, _ => rfl
  | n + 1, h => by
    rw [firstG, if_neg (by have := h n (by omega); omega), first_none fun z hz => h z (by omega)]
theorem last_eq {g : Nat → Int} {z0 : Nat} (h0 : 0 ≤ g z0) : ∀ {n : Nat}, z0 < n → (∀ z, z0 < z → z < n → g z < 0) → lastG g n = g z0
  | n + 1, hn, h => by
    rw [lastG]
    by_cases e : z0 = n
    · subst e
      rw [if_pos h0]
    · rw [if_neg (by have := h n (by omega) (by omega); omega)]
      exact last_eq h0 (by omega) fun z h1 h2 => h z h1 (by omega)
theorem first_eq {g : Nat → Int} {z0 : Nat} (h0 : 0 ≤ g z0) (h : ∀ z, z < z0 → g z < 0) : ∀ {n : Nat}, z0 < n → firstG g n = g z0
  | n + 1, hn => by
    rw [firstG]
    by_cases e : z0 = n
    · subst e
      rw [if_pos h0, first_none h, if_pos (by decide)]
    · rw [first_eq h0 h (n := n) (by omega)]
      split
      · rw [if_neg (by omega)]
      · rfl
theorem pw_find {p : Un → Bool} {w u : Un} : ∀ {L : List Un}, L.Pairwise (fun a b => a.id < b.id) → L.find? p = some w → u ∈ L → p u = true → w.id ≤ u.id
  | [], _, h, _, _ => by cases h
  | a :: L, hp, h, hu, hpu => by
    rw [List.pairwise_cons] at hp
    by_cases ha : p a = true
    · rw [List.find?_cons_of_pos ha] at h
      cases h
      rcases List.mem_cons.1 hu with rfl | hu
      · exact Int.le_refl _
      · exact Int.le_of_lt (hp.1 u hu)
    · rw [List.find?_cons_of_neg ha] at h
      rcases List.mem_cons.1 hu with rfl | hu
      · exact absurd hpu ha
      · exact pw_find hp.2 h hu hpu
theorem ins_no {L : List Un} {z : Int} (h : ∀ w ∈ L, ¬ (w.back ≤ z ∧ z < w.front)) : insZ L z = -1 := by
  unfold insZ
  rw [List.find?_eq_none.2 fun w hw => by
    have := h w hw
    unfold insB
    simp only [Bool.and_eq_true, decide_eq_true_eq]
    exact this]
  rfl
theorem ins_of {L : List Un} {u : Un} {z : Int} (hp : L.Pairwise (fun a b => a.id < b.id)) (hu : u ∈ L) (h : u.back ≤ z ∧ z < u.front) (hb : ∀ w ∈ L, w.back ≤ z → z < w.front → u.id ≤ w.id) : insZ L z = u.id := by
  have hpu : insB z u = true := by unfold insB; rw [decide_eq_true h.1, decide_eq_true h.2]; rfl
  unfold insZ
  cases e : L.find? (insB z) with
  | none => exact absurd hpu (List.find?_eq_none.1 e u hu)
  | some w =>
    have h1 := pw_find hp e hu hpu
    have h2 := List.find?_some e
    unfold insB at h2
    simp only [Bool.and_eq_true, decide_eq_true_eq] at h2
    have h3 := hb w (List.mem_of_find?_eq_some e) h2.1 h2.2
    show w.id = u.id
    omega
theorem FabP.depth {us : List Un} (h : FabP us) {u : Un} (hu : u ∈ us) : 0 ≤ u.back ∧ u.back < u.front ∧ u.front ≤ 8 := by
  have := h.val u hu
  simp only [unB, inB, Bool.and_eq_true, decide_eq_true_eq] at this
  omega
/-- The elevations show what stands last and first in a cell's depths. -/
theorem views_of {us : List Un} (h : FabP us) (x y : Int) :
    elevZ us false x y = lastG (fun z => insZ (covU us ⟨x, y⟩) z) 8 ∧ elevZ us true (39 - x) y = firstG (fun z => insZ (covU us ⟨x, y⟩) z) 8 := by
  have hL : (covU us ⟨x, y⟩).Pairwise (fun a b => a.id < b.id) := h.pair.sublist List.filter_sublist
  have hin : ∀ w ∈ covU us ⟨x, y⟩, w ∈ us := fun w hw => (List.mem_filter.1 hw).1
  have e1 : elevZ us false x y = idZ (firstU (fun a b => decide (b.front < a.front)) (covU us ⟨x, y⟩) none) := by unfold elevZ; rw [if_neg (by decide)]
  have e2 : elevZ us true (39 - x) y = idZ (firstU (fun a b => decide (a.back < b.back)) (covU us ⟨x, y⟩) none) := by
    unfold elevZ
    rw [if_pos rfl, show 39 - (39 - x) = x by omega]
  have f1 := firstU_all (bf := fun a b => decide (b.front < a.front)) (k := fun u => -u.front) (fun x b => by simp) hL
  have f2 := firstU_all (bf := fun a b => decide (a.back < b.back)) (k := fun u => u.back) (fun x b => by simp) hL
  rw [e1, e2]
  generalize covU us ⟨x, y⟩ = L at *
  constructor
  · rcases f1 with ⟨rfl, f1⟩ | ⟨u, f1, hu, hub⟩
    · rw [f1, last_none]
      · rfl
      · intro z _
        rw [ins_no fun w hw => by cases hw]
        decide
    · rw [f1]
      have hd := h.depth (hin u hu)
      have hi := h.id0 (hin u hu)
      have hz : (((u.front - 1).toNat : Nat) : Int) = u.front - 1 := by omega
      have key : insZ L (((u.front - 1).toNat : Nat) : Int) = u.id := by
        rw [hz]
        refine ins_of hL hu ⟨by omega, by omega⟩ fun w hw h1 h2 => ?_
        have := hub w hw
        omega
      rw [last_eq (g := fun z => insZ L z) (z0 := (u.front - 1).toNat) (by rw [key]; exact hi.1) (by omega) fun z h1 h2 => ?_]
      · exact key.symm
      · rw [ins_no fun w hw hc => ?_]
        · decide
        · have := hub w hw
          omega
  · rcases f2 with ⟨rfl, f2⟩ | ⟨u, f2, hu, hub⟩
    · rw [f2, first_none]
      · rfl
      · intro z _
        rw [ins_no fun w hw => by cases hw]
        decide
    · rw [f2]
      have hd := h.depth (hin u hu)
      have hi := h.id0 (hin u hu)
      have hz : ((u.back.toNat : Nat) : Int) = u.back := by omega
      have key : insZ L ((u.back.toNat : Nat) : Int) = u.id := by
        rw [hz]
        refine ins_of hL hu ⟨by omega, by omega⟩ fun w hw h1 h2 => ?_
        have := hub w hw
        omega
      rw [first_eq (g := fun z => insZ L z) (z0 := u.back.toNat) (by rw [key]; exact hi.1) (fun z h1 => ?_) (by omega)]
      · exact key.symm
      · rw [ins_no fun w hw hc => ?_]
        · decide
        · have := hub w hw
          omega
theorem insZ_in {us : List Un} (h : FabP us) (q : Pl) (z : Int) : -1 ≤ insZ (covU us q) z ∧ insZ (covU us q) z ≤ 99 := by
  unfold insZ
  cases e : (covU us q).find? (insB z) with
  | none => exact ⟨Int.le_refl _, by decide⟩
  | some u =>
    have := h.id0 (List.mem_filter.1 (List.mem_of_find?_eq_some e)).1
    show -1 ≤ u.id ∧ u.id ≤ 99
    omega
theorem grid_valid {g : Nat → Nat → Int} {w h : Nat} (hw : 1 ≤ w ∧ w ≤ 40) (hh : 1 ≤ h ∧ h ≤ 40) (hg : ∀ i j, -1 ≤ g i j ∧ g i j ≤ 99) : drB w h (gridZ g w h) = true := by
  unfold drB
  simp only [Bool.and_eq_true, decide_eq_true_eq]
  refine ⟨⟨⟨by unfold inB; rw [decide_eq_true (by omega), decide_eq_true (by omega)]; rfl, by unfold inB; rw [decide_eq_true (by omega), decide_eq_true (by omega)]; rfl⟩, by rw [gridZ_len, Nat.mul_comm]; push_cast; rfl⟩, ?_⟩
  rw [Bool.not_eq_true', List.any_eq_false]
  intro n hn
  obtain ⟨i, j, rfl⟩ := gridZ_mem hn
  have := hg i j
  simp only [inB]
  simp
  omega
end Go.Proofs.YtjecgmfildhpiaaGreatDoor

/- DrawViews: the walk. -/
namespace Go.Proofs.YtjecgmfildhpiaaGreatDoor
open Go Go.D
variable {X : CallFn} {m : M}
set_option maxRecDepth 100000 in
theorem drawViews_ok (hX : NoX X) (hS : ∀ m1 : M, 2 < m1.n → C X (.func 9) [] m1 m1.n (.bool true) m1) (hm : 2 < m.n) {xs : List I6} {v : Value} (hv : SlR m xs v) (hok : ∀ x ∈ xs, x.ok) (hlen : xs.length < 9223372036854775808) {cx cy : Int} (rx : R64 cx) (ry : R64 cy) :
    C X (.func 5) [v, .int .i64 cx, .int .i64 cy] m m.n (.bool true) m := by
  refine Cl.flat (hX.no _ rfl) fn_5 rfl rfl ?_
  rw [F5]; dsimp only [plainW]
  refine onC_of (hS m hm) ?_
  rw [un_not, onS_some, ifV_bool, Bool.not_true, ifB_false]
  obtain ⟨l, r, m6, hc6, hx6, hF6, hP⟩ := made12_ok (m := m) hX hv hok hlen
  have hl12 : l.length ≤ 12 := by have := hP.len; rwa [us_len] at this
  refine onC_of hc6 ?_
  have n6 := hx6.n
  refine onM_push fun m8 hn8 hg8 hk8 => ?_
  have or : one r = true := hF6.sl.one
  unfold ptrTo
  refine on2_storeV ty_31 hg8 rfl rfl (by show (one r && true) = true; rw [or]; rfl) fun m9 hn9 hg9 hk9 => ?_
  have hg9 : m9.get m6.n = .cells [r] 31 none := hg9
  have hx69 : Ext m6 m9 := ⟨by omega, fun c hc => by rw [hk9 c (by omega), hk8 c hc]⟩
  refine onC_of (pickLaw_ok hX rx (by omega)) ?_
  refine onC_of (pickLaw_ok hX ry (by omega)) ?_
  have px := pickZ_lt (c := cx) (n := 40) (by omega)
  have py := pickZ_lt (c := cy) (n := 40) (by omega)
  generalize pickZ cx 40 = qx at *
  generalize pickZ cy 40 = qy at *
  obtain ⟨kx, rfl⟩ : ∃ k : Nat, qx = (k : Int) := ⟨qx.toNat, by omega⟩
  obtain ⟨ky, rfl⟩ : ∃ k : Nat, qy = (k : Int) := ⟨qy.toNat, by omega⟩
  have ldF : ∀ mm : M, mm.get m6.n = .cells [r] 31 none → load? Tab.env mm 31 (.pointer (some ⟨m6.n, 0, none⟩)) = some (.agg #[r]) := fun mm h => by rw [load_31, loadCells_of h (by simp)]; rfl
  rw [ldF m9 hg9, onS_some]
  have hF9 := hF6.keepE hx69
  obtain ⟨va, m19, hc19, hx19, hoA⟩ := elev_ok (m := m9) hX hF9 hP false
  refine onC_of hc19 ?_
  rw [extr_tuple, extr_tuple]
  simp only [List.getElem?_cons_zero, List.getElem?_cons_succ, onS_some]
  have n19 := hx19.n
  refine onM_push fun m23 hn23 hg23 hk23 => ?_
  refine on2_storeV ty_27 hg23 rfl rfl (by show (true && (true && (one va && true))) = true; rw [hoA.sl.one]; rfl) fun m24 hn24 hg24 hk24 => ?_
  have hx1924 : Ext m19 m24 := ⟨by omega, fun c hc => by rw [hk24 c (by omega), hk23 c hc]⟩
  have hx924 := hx19.trans hx1924
  rw [ldF m24 (hx924.cells hg9), onS_some]
  obtain ⟨vb, m28, hc28, hx28, hoB⟩ := elev_ok (m := m24) hX (hF9.keepE hx924) hP true
  refine onC_of hc28 ?_
  rw [extr_tuple, extr_tuple]
  simp only [List.getElem?_cons_zero, List.getElem?_cons_succ, onS_some]
  have n28 := hx28.n
  refine onM_push fun m32 hn32 hg32 hk32 => ?_
  refine on2_storeV ty_27 hg32 rfl rfl (by show (true && (true && (one vb && true))) = true; rw [hoB.sl.one]; rfl) fun m33 hn33 hg33 hk33 => ?_
  have hx2833 : Ext m28 m33 := ⟨by omega, fun c hc => by rw [hk33 c (by omega), hk32 c hc]⟩
  have hx2433 := hx28.trans hx2833
  have hx933 := hx924.trans hx2433
  have hF33 := hF9.keepE hx933
  rw [ldF m33 (hx933.cells hg9), onS_some]
  obtain ⟨vc, m37, hc37, hx37, hoC⟩ := plan_ok (m := m33) hX hF33 hP (c := ky) ⟨by omega, by omega⟩
  refine onC_of hc37 ?_
  rw [extr_tuple, extr_tuple]
  simp only [List.getElem?_cons_zero, List.getElem?_cons_succ, onS_some]
  have n37 := hx37.n
  refine onM_push fun m41 hn41 hg41 hk41 => ?_
  refine on2_storeV ty_27 hg41 rfl rfl (by show (true && (true && (one vc && true))) = true; rw [hoC.sl.one]; rfl) fun m42 hn42 hg42 hk42 => ?_
  have hx3742 : Ext m37 m42 := ⟨by omega, fun c hc => by rw [hk42 c (by omega), hk41 c hc]⟩
  have hx3342 := hx37.trans hx3742
  rw [ldF m42 (hx3342.cells (hx933.cells hg9)), onS_some]
  obtain ⟨vd, m46, hc46, hx46, hoD⟩ := section_ok (m := m42) hX (hF33.keepE hx3342) hP (c := kx) ⟨by omega, by omega⟩
  refine onC_of hc46 ?_
  rw [extr_tuple, extr_tuple]
  simp only [List.getElem?_cons_zero, List.getElem?_cons_succ, onS_some]
  have n46 := hx46.n
  refine onM_push fun m50 hn50 hg50 hk50 => ?_
  refine on2_storeV ty_27 hg50 rfl rfl (by show (true && (true && (one vd && true))) = true; rw [hoD.sl.one]; rfl) fun m51 hn51 hg51 hk51 => ?_
  have hx4651 : Ext m46 m51 := ⟨by omega, fun c hc => by rw [hk51 c (by omega), hk50 c hc]⟩
  have hx4251 := hx46.trans hx4651
  have hx3351 := hx3342.trans hx4251
  have hSA : Sl m51 (elevL (us' l) false) va := ((hoA.sl.keepE hx1924).keepE hx2433).keepE hx3351
  have hSB : Sl m51 (elevL (us' l) true) vb := (hoB.sl.keepE hx2833).keepE hx3351
  have hSC := (hoC.sl.keepE hx3742).keepE hx4251
  have hSD := hoD.sl.keepE hx4651
  have vA := elevL_valid hP false
  have vB := elevL_valid hP true
  have vC : drB 40 8 (gridZ (fun i j => insZ (covU (us' l) ⟨i, ky⟩) j) 40 8) = true := grid_valid (w := 40) (h := 8) (g := fun i j => insZ (covU (us' l) ⟨i, ky⟩) j) (by omega) (by omega) (fun i j => insZ_in hP _ _)
  have vD : drB 8 40 (gridZ (fun i j => insZ (covU (us' l) ⟨kx, j⟩) i) 8 40) = true := grid_valid (w := 8) (h := 40) (g := fun i j => insZ (covU (us' l) ⟨kx, j⟩) i) (by omega) (by omega) (fun i j => insZ_in hP _ _)
  have lA : (elevL (us' l) false).length = 1600 := by unfold elevL; rw [gridZ_len]
  have lB : (elevL (us' l) true).length = 1600 := by unfold elevL; rw [gridZ_len]
  have gA : m51.get m19.n = .cells [.int .i64 40, .int .i64 40, va] 27 none := hx3351.cells (hx2433.cells hg24)
  have gB : m51.get m28.n = .cells [.int .i64 40, .int .i64 40, vb] 27 none := hx3351.cells hg33
  have gC : m51.get m37.n = .cells [.int .i64 40, .int .i64 8, vc] 27 none := hx4251.cells hg42
  have gD : m51.get m46.n = .cells [.int .i64 8, .int .i64 40, vd] 27 none := hg51
  have ldD : ∀ (w h : Int) (b : Nat) (vv : Value), m51.get b = .cells [.int .i64 w, .int .i64 h, vv] 27 none → load? Tab.env m51 27 (.pointer (some ⟨b, 0, none⟩)) = some (drV w h vv) := fun w h b vv hh => by rw [load_27, loadCells_of hh (by simp)]; rfl
  have ld0 : ∀ (w h : Int) (b : Nat) (vv : Value), m51.get b = .cells [.int .i64 w, .int .i64 h, vv] 27 none → load? Tab.env m51 3 (.pointer (some ⟨b, 0 + 0, none⟩)) = some (.int .i64 w) ∧ load? Tab.env m51 3 (.pointer (some ⟨b, 0 + 1, none⟩)) = some (.int .i64 h) := fun w h b vv hh => by
    constructor <;> rw [load_3, cellAt_of hh] <;> rfl
  refine jn_of (fun vs mm lo => vs = [.bool false] ∧ m51 = mm ∧ m.n ≤ lo) (fun R hR => ?_) ?_
  · rw [bin_neq, onS_some, ifV_bool, show (!(decide ((0 : Int) = 0))) = false from rfl, ifB_false, onS_some, ifV_bool, ifB_false, onS_some, ifV_bool, ifB_false, onS_some, ifV_bool, ifB_false, ldD _ _ _ _ gC, onS_some]
    refine onC_of (drValid_ok hX hSC (by rw [gridZ_len]; decide)) ?_
    rw [vC, un_not, onS_some, ifV_bool, Bool.not_true, ifB_false, ldD _ _ _ _ gD, onS_some]
    refine onC_of (drValid_ok hX hSD (by rw [gridZ_len]; decide)) ?_
    rw [vD, un_not, onS_some, ifV_bool, Bool.not_true, ifB_false]
    simp only [fieldAddr_27_0, fieldAddr_27_1, onS_some, (ld0 _ _ _ _ gC).1, (ld0 _ _ _ _ gC).2, (ld0 _ _ _ _ gD).1, (ld0 _ _ _ _ gD).2, bin_neq, ifV_bool, decide_true, Bool.not_true, ifB_false]
    exact hR _ _ _ ⟨rfl, rfl, by omega⟩
  rintro _ _ lo56 ⟨rfl, rfl, hlo56⟩
  rw [un_cons, ifV_bool, ifB_false]
  obtain ⟨hlast, hfirst⟩ := views_of hP kx ky
  rw [show (39 : Int) - (kx : Int) = ((39 - kx : Nat) : Int) by omega] at hfirst
  have shA := shown_ok (m := m51) hX hSA vA (x := kx) (y := ky) (i := ky * 40 + kx) ⟨by omega, by omega⟩ ⟨by omega, by omega⟩ (by push_cast; rfl) (gridZ_at (by omega) (by omega))
  have shB := shown_ok (m := m51) hX hSB vB (x := ((39 - kx : Nat) : Int)) (y := ky) (i := ky * 40 + (39 - kx)) ⟨by omega, by omega⟩ ⟨by omega, by omega⟩ (by push_cast; rfl) (gridZ_at (by omega) (by omega))
  have shC : ∀ z : Nat, z < 8 → C X (.func 31) [drV 40 8 vc, .int .i64 kx, .int .i64 z] m51 m51.n (.int .i64 (insZ (covU (us' l) ⟨kx, ky⟩) z)) m51 := fun z hz =>
    shown_ok (m := m51) hX hSC vC (x := kx) (y := z) (i := z * 40 + kx) ⟨by omega, by omega⟩ ⟨by omega, by omega⟩ (by push_cast; rfl) (gridZ_at (by omega) hz)
  have shD : ∀ z : Nat, z < 8 → C X (.func 31) [drV 8 40 vd, .int .i64 z, .int .i64 ky] m51 m51.n (.int .i64 (insZ (covU (us' l) ⟨kx, ky⟩) z)) m51 := fun z hz =>
    shown_ok (m := m51) hX hSD vD (x := z) (y := ky) (i := ky * 8 + z) ⟨by omega, by omega⟩ ⟨by omega, by omega⟩ (by push_cast; rfl) (gridZ_at hz (by omega))
  generalize elevZ (us' l) false kx ky = front at *
  generalize elevZ (us' l) true ((39 - kx : Nat) : Int) ky = back at *
  refine Lp.intro (γ := Nat) (fun i => 8 - i) (fun i vs mm lo => vs = [.bool false, .int .i64 (lastG (fun z => insZ (covU (us' l) ⟨kx, ky⟩) z) i), .int .i64 (firstG (fun z => insZ (covU (us' l) ⟨kx, ky⟩) z) i), .int .i64 i] ∧ i ≤ 8 ∧ m51 = mm ∧ m.n ≤ lo) 0 ⟨rfl, Nat.zero_le _, rfl, hlo56⟩ ?_
  rintro i vs mm lo88 ⟨rfl, hi, rfl, hlo88⟩
  simp only [un_cons]
  rw [bin_lss, onS_some, ifV_bool]
  refine ifB_intro (fun hlt => ?_) (fun hge => ?_)
  · have hlt : i < 8 := by
      have : (i : Int) < 8 := by simpa using hlt
      omega
    rw [ldD _ _ _ _ gD, onS_some]
    refine onC_of (shD i hlt) ?_
    rw [ldD _ _ _ _ gC, onS_some]
    refine onC_of (shC i hlt) ?_
    rw [bin_neq, onS_some, decide_eq_true rfl, ifV_bool, Bool.not_true, ifB_false, bin_geq, onS_some, ifV_bool]
    have e1 : lastG (fun z => insZ (covU (us' l) ⟨kx, ky⟩) z) (i + 1) = if 0 ≤ insZ (covU (us' l) ⟨kx, ky⟩) i then insZ (covU (us' l) ⟨kx, ky⟩) i else lastG (fun z => insZ (covU (us' l) ⟨kx, ky⟩) z) i := rfl
    have e2 : firstG (fun z => insZ (covU (us' l) ⟨kx, ky⟩) z) (i + 1) = if 0 ≤ insZ (covU (us' l) ⟨kx, ky⟩) i then (if firstG (fun z => insZ (covU (us' l) ⟨kx, ky⟩) z) i < 0 then insZ (covU (us' l) ⟨kx, ky⟩) i else firstG (fun z => insZ (covU (us' l) ⟨kx, ky⟩) z) i) else firstG (fun z => insZ (covU (us' l) ⟨kx, ky⟩) z) i := rfl
    refine ifB_intro (fun h0 => ?_) (fun h0 => ?_)
    · have h0 : 0 ≤ insZ (covU (us' l) ⟨kx, ky⟩) i := by simpa using h0
      rw [if_pos h0] at e1 e2
      rw [bin_lss, onS_some, ifV_bool]
      refine ifB_intro (fun h1 => ?_) (fun h1 => ?_)
      · have h1 : firstG (fun z => insZ (covU (us' l) ⟨kx, ky⟩) z) i < 0 := by simpa using h1
        rw [if_pos h1] at e2
        rw [bin_add, onS_some, wrap64 (by omega) (by omega)]
        exact ⟨i + 1, by omega, by rw [e1, e2]; rfl, by omega, rfl, by omega⟩
      · have h1 : ¬ firstG (fun z => insZ (covU (us' l) ⟨kx, ky⟩) z) i < 0 := by simpa using h1
        rw [if_neg h1] at e2
        rw [bin_add, onS_some, wrap64 (by omega) (by omega)]
        exact ⟨i + 1, by omega, by rw [e1, e2]; rfl, by omega, rfl, by omega⟩
    · have h0 : ¬ 0 ≤ insZ (covU (us' l) ⟨kx, ky⟩) i := by simpa using h0
      rw [if_neg h0] at e1 e2
      rw [bin_add, onS_some, wrap64 (by omega) (by omega)]
      exact ⟨i + 1, by omega, by rw [e1, e2]; rfl, by omega, rfl, by omega⟩
  · have hi' : i = 8 := by
      have : ¬ (i : Int) < 8 := by simpa using hge
      omega
    subst hi'
    rw [← hlast, ← hfirst]
    refine jn_of (fun vs mm lo => vs = [.bool true] ∧ m51 = mm ∧ m.n ≤ lo) (fun R hR => ?_) ?_
    · rw [ldD _ _ _ _ gA, onS_some]
      refine onC_of shA ?_
      rw [bin_eql, onS_some, decide_eq_true rfl, ifV_bool, ifB_true, ldD _ _ _ _ gB, onS_some, bin_sub, onS_some, wrap64 (by omega) (by omega), show (39 : Int) - (kx : Int) = ((39 - kx : Nat) : Int) by omega]
      refine onC_of shB ?_
      rw [bin_eql, onS_some, decide_eq_true rfl]
      exact hR _ _ _ ⟨rfl, rfl, by omega⟩
    rintro _ _ lo ⟨rfl, rfl, hlo⟩
    rw [un_cons]
    exact ⟨rfl, hlo⟩
end Go.Proofs.YtjecgmfildhpiaaGreatDoor
